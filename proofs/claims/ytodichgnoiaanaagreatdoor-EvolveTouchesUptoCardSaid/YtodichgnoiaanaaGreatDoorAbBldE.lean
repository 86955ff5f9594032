/- strings.Builder: what its methods do, every other block left alone. -/
import Derived.Test.YtodichgnoiaanaaGreatDoorTryzShelf
import Derived.Lib.Strings
import Derived.Lib.Slices
import Derived.Lib.Walk
import Derived.Lib.Builder
import Derived.Lib.AppendStr
import Derived.Lib.UnsafeStr
import Derived.Lib.FrozenHead
import Derived.Laws.Externs
import Derived.Laws.BitsLemmas
set_option linter.unusedVariables false
set_option linter.unusedSimpArgs false
set_option linter.unnecessarySimpa false
namespace Go.Ab
open Go Go.Proofs Go.RowKit
structure Else (b:Nat) (g:Option Nat) (w w':World):Prop where
 os:w'.os=w.os
 tape:w'.tape=w.tape
 output:w'.output=w.output
 size:w.heap.size<=w'.heap.size
 block:∀ k,k<w.heap.size->k≠b->some k≠g->w'.heap[k]?=w.heap[k]?
def BAt (T:TypeId) (b:Nat) (p v:Value) (bs:Bo) (w:World):Prop:=
 w.heap[b]?=some (.cells #[p,v] T (0,0))/\w.ownsRowF 0 5 1 v bs.length (Lib.byteCells bs)/\v.ownBlock≠some b
theorem sizeBuilder:∃ j,Tryz.prog.info? 93=some j/\j.size=2:=by
 have h:(Tryz.prog.info? 93).map (λi=>i.size)=some 2:=by kernel_rfl
 grind [Option.map_eq_some_iff]
theorem as6 {P:Program} (w:World) (t u M e:TypeId) (i:TypeInfo) (ht:P.underlying t=some (.slice e)) (hu:P.underlying u=some .string) (hi:P.info? e=some i) (hz:i.zero=some (.int .u8 0)) (o:i.size=1) (J:i.bytes=1)
 (v:Value) (n:Nat) (xs:List Value) (h:w.ownsRowF 0 e 1 v n xs) (s:ByteArray) (Z:n+s.size<=maxLen) (z:n+s.size<=140737488355328) {v':Value}{w':World} (hr:(Builtin.append_ #[t,u] M #[v,.string s]).run P w=.ok v' w'):
 ∀ g,v'.ownBlock=some g->v.ownBlock=some g\/w.heap.size<=g:=by
 intro g hg
 rcases h.2 with ⟨rfl,rfl⟩ | ⟨O,cap,cur,fz,rfl,_,ad,ab,ag,af,aa,ae⟩
 ·obtain ⟨v2,w2,H,h2,_⟩:=Lib.run_append_own_string (P:=P) w w.heap.size t u M e i ht hu hi hz o J (.slice none 0 0) 0 xs ⟨h.1,.inl ⟨rfl,rfl⟩⟩ s Z z (Nat.le_refl _);rw [hr] at H;cases H;rcases h2.2 with ⟨rfl,_⟩ | ⟨g1,c1,u1,rfl,hb,_⟩;all_goals grind [Value.ownBlock]
 ·by_cases I:n+s.size<=cap
  ·have H:=Lib.run_append_room_stringF (P:=P) w t u M e i ht hu hi o O n cap cur fz ad (by simpa using ab) s I (by rw [aa];omega);rw [hr] at H;cases H;exact Or.inl hg
  ·have ah:xs.length=n:=by grind
   have H:=Lib.run_append_grow_string (P:=P) w t u M e i (.int .u8 0) ht hu hi hz ⟨O,0,none⟩ n cap xs (by grind) (h.cells (g:=O) rfl) s (by omega) (by grind) (by rw [J];exact growslice_fits (by omega) (by omega));rw [hr] at H;cases H;simp [Value.ownBlock] at hg;grind
theorem al2 {P:Program}{w:World}{ops:Array Oper}{J:List Oper}{o:Oper}{a:Act}{Q:Exit->Act->World->Prop} (aa:o.guard=none) (sl x:Operand) (t u:TypeId)
 (ho:o.op=.call { callee:=.builtin .append,args:=#[sl,x],argTypes:=#[t,u] })
 (e:TypeId) (i:TypeInfo) (ht:P.underlying t=some (.slice e)) (hu:P.underlying u=some .string) (hi:P.info? e=some i) (hz:i.zero=some (.int .u8 0)) (H:i.size=1) (O:i.bytes=1)
 (v:Value) (n:Nat) (xs:List Value) (hs:a.eval sl=v) (I:w.ownsRowF 0 e 1 v n xs) (s:ByteArray) (hx:a.eval x=.string s) (M:n+s.size<=maxLen) (z:n+s.size<=140737488355328)
 (h:∀ Z w',w'.ownsRowF 0 e 1 Z (n+s.size) (xs++Lib.strCells s)->w.grownBy w' v.ownBlock->(∀ g,Z.ownBlock=some g->v.ownBlock=some g\/w.heap.size<=g)->wpList P ops Q J (a.put o.dst Z) w'):wpList P ops Q (o::J) a w:=by
 refine wpList_plain aa λK hK=>?_
 obtain ⟨Z,w',hr,h2,h3,_⟩:=Lib.run_append_own_stringF (P:=P) w 0 t u o.type e i ht hu hi hz H O v n xs I s M z (Nat.zero_le _)
 have h5:=as6 w t u o.type e i ht hu hi hz H O v n xs I s M z hr
 unfold Oper.wp execOp
 simp only [ho,resolve,invoke,builtin,Sem.run_bind,Sem.run_pure,Result.andThen_ok,List.map_toArray,List.map_cons,List.map_nil,hs,hx,hr]
 exact hK _ _ (h Z w' h2 h3 h5)
set_option maxHeartbeats 1000000 in
set_option maxRecDepth 100000 in
theorem aph (b:Nat) (w:World) (o:w.cell? ⟨b,0,none⟩=some (.pointer (some ⟨b,0,none⟩))):
 Calls Tryz.prog 81 #[.pointer (some ⟨b,0,none⟩)] w λe w'=>e=.returned (.tuple #[])/\w'=w:=by
 obtain ⟨j,h,_⟩:=sizeBuilder
 go_enter Tryz.func81,Tryz.ntmps81
 go_wp2
 rw [Lib.run_neq_ptr_same w _ Tryz.underlying90 h]
 go_wp2
 go_end0
 grind
set_option maxHeartbeats 1000000 in
set_option maxRecDepth 100000 in
theorem ant (T:TypeId) (I:liesAt Tryz.prog Tryz.prog.depth T (2 / Tryz.prog.cellsOf T) 0 93 1=true) (b:Nat) (w:World) (J:w.cell? ⟨b,0,none⟩=some (.pointer none)) (h:w.shape? b=some (T,2)) (H:w.frozen? ⟨b,0,none⟩=false):
 Calls Tryz.prog 81 #[.pointer (some ⟨b,0,none⟩)] w λe w'=>e=.returned (.tuple #[])/\w'=w.setCell ⟨b,0,none⟩ (.pointer (some ⟨b,0,none⟩)):=by
 obtain ⟨j,z,o⟩:=sizeBuilder
 go_enter Tryz.func81,Tryz.ntmps81
 go_wp2
 rw [Lib.run_to_unsafe w ⟨b,0,none⟩ Tryz.underlying90 Tryz.underlying196 z (by rw [o];decide) h (Nat.zero_lt_succ 1)]
 simp only [Result.andThen]
 rw [Oper.upon_value]
 go_wp2
 rw [run_callFunc_extern Tryz.func134 (by kernel_rfl) (by kernel_rfl) (by kernel_rfl) (e:=Extern.AbiNoEscape.same) (by kernel_rfl)]
 rw [Lib.run_noEscape]
 simp only [Result.andThen]
 rw [Oper.upon_value]
 go_wp2
 rw [Lib.run_from_unsafe w ⟨b,0,none⟩ Tryz.underlying196 Tryz.underlying90 z h I]
 simp only [Result.andThen]
 rw [Oper.upon_value]
 go_wp2
 go_end0
 grind
theorem a7n:∃ i,Tryz.prog.info? 5=some i/\i.zero=some (.int .u8 0)/\i.size=1/\i.bytes=1:=by
 have h:(Tryz.prog.info? 5).map (λi=>(i.zero,i.size,i.bytes))=some (some (.int .u8 0),1,1):=by kernel_rfl
 grind [Option.map_eq_some_iff,Prod.mk.injEq]
theorem aq6 {T:TypeId} (M:liesAt Tryz.prog Tryz.prog.depth T (2 / Tryz.prog.cellsOf T) 0 93 1=true) {b:Nat}{p v:Value}{bs:Bo}{w:World} (O:p=.pointer none\/p=.pointer (some ⟨b,0,none⟩)) (h:BAt T b p v bs w):
 Calls Tryz.prog 81 #[.pointer (some ⟨b,0,none⟩)] w λe w'=>e=.returned (.tuple #[])/\BAt T b (.pointer (some ⟨b,0,none⟩)) v bs w'/\Else b none w w':=by
 obtain ⟨o,J,z⟩:=h
 have I:w.cell? ⟨b,0,none⟩=some p:=by rw [Lib.cell_of_heap o];rfl
 rcases O with rfl | rfl
 ·refine (ant T M b w I (by simp [World.shape?,o]) (by simp [World.frozen?,o])).mono ?_;rintro e w' ⟨rfl,rfl⟩;refine ⟨rfl,⟨by simp [World.setCell,Array.getElem?_modify,o],?_,z⟩,rfl,rfl,rfl,by simp [World.setCell],λk _ H _=>Below.heap_setCell _ _ _ _ H⟩;exact J.kept (row:=some b) ⟨rfl,rfl,rfl,by simp [World.setCell],λk _ H=>Below.heap_setCell _ _ _ _ (λe=>H (by simp [e]))⟩ (Or.inr z)
 ·refine (aph b w I).mono ?_;rintro e w' ⟨rfl,rfl⟩;exact ⟨rfl,⟨o,J,z⟩,rfl,rfl,rfl,Nat.le_refl _,λ_ _ _ _=>rfl⟩
set_option maxHeartbeats 2000000 in
set_option maxRecDepth 100000 in
theorem apc {T:TypeId} (hl:liesAt Tryz.prog Tryz.prog.depth T (2 / Tryz.prog.cellsOf T) 0 93 1=true) {b:Nat}{p v:Value}{bs:Bo}{w:World} (hp:p=.pointer none\/p=.pointer (some ⟨b,0,none⟩)) (h:BAt T b p v bs w) (aa:T≠5)
 (s:ByteArray) (ai:bs.length+s.size<=140737488355328):
 Calls Tryz.prog 34 #[.pointer (some ⟨b,0,none⟩),.string s] w λe w'=>e=.returned (.tuple #[.int .i64 s.size,.nilIface])/\∃ v',BAt T b (.pointer (some ⟨b,0,none⟩)) v' (bs++s.data.toList) w'/\Else b v.ownBlock w w'/\
  (∀ g,v'.ownBlock=some g->v.ownBlock=some g\/w.heap.size<=g):=by
 obtain ⟨i0,hi,af,ag,ah⟩:=a7n
 go_enter Tryz.func34,Tryz.ntmps34
 go_wp2_with (go_at_call 81;refine (aq6 hl hp h).mono ?_)
 rintro e w1 ⟨rfl,h1,H⟩
 obtain ⟨J,Z,ae⟩:=h1
 have c0:w1.cell? ⟨b,0,none⟩=some (.pointer (some ⟨b,0,none⟩)):=by rw [Lib.cell_of_heap J];rfl
 have c1:w1.cell? ⟨b,1,none⟩=some v:=by rw [Lib.cell_of_heap J];rfl
 go_wp2_with (at_builtin;refine al2 rfl _ _ 91 9 rfl 5 i0 Tryz.underlying91 Tryz.underlying9 hi af ag ah _ _ _ rfl Z s rfl ?c3 ?c4 ?_)
 case c3=>unfold maxLen;omega
 case c4=>omega
 intro v' w2 z o O
 have ad:b<w1.heap.size:=by grind
 have I:w2.heap[b]?=some (.cells #[.pointer (some ⟨b,0,none⟩),v] T (0,0)):=by rw [o.block b ad (λe=>ae e.symm)];exact J
 have d0:w2.cell? ⟨b,0,none⟩=some (.pointer (some ⟨b,0,none⟩)):=by rw [Lib.cell_of_heap I];rfl
 have d1:w2.cell? ⟨b,1,none⟩=some v:=by rw [Lib.cell_of_heap I];rfl
 have f1:w2.frozen? ⟨b,1,none⟩=false:=Lib.frozen_of_heap I 1
 obtain ⟨ao,n',cap,rfl⟩:∃ ao n' cap,v'=.slice ao n' cap:=by rcases z.2 with ⟨hv,_⟩ | ⟨g,cap,cur,fz,hv,_⟩;all_goals grind
 go_wp2
 go_ret2
 refine ⟨rfl,.slice ao n' cap,⟨by simp [World.setCell,Array.getElem?_modify,I],?_,?_⟩,⟨o.os.trans H.os,o.tape.trans H.tape,o.output.trans H.output,?_,λk hk M ab=>?_⟩,λg hg=>?_⟩
 ·have e1:bs.length+s.size=(bs++s.data.toList).length:=by simp_all
  rw [e1,Lib.strCells_eq,<-Lib.byteCells_append] at z;exact z.kept (row:=some b) ⟨rfl,rfl,rfl,by simp [World.setCell],λk _ hk=>Below.heap_setCell _ _ _ _ (λe=>hk (by simp [e]))⟩ (Or.inr (Lib.ownBlock_neF z I aa))
 ·grind
 ·have:=H.size;have:=o.size;grind [World.setCell]
 ·have:=H.size;rw [Below.heap_setCell _ _ _ _ M,o.block k (by omega) ab];exact H.block k hk M (by simp)
 ·rcases O g hg with h' | h'
  ·exact Or.inl h'
  ·have:=H.size;grind
theorem BAt.frz {T:TypeId}{b:Nat}{p:Value}{bs:Bo}{w:World}{g cap:Nat} (h:BAt T b p (.slice (some ⟨g,0,none⟩) bs.length cap) bs w):BAt T b p (.slice (some ⟨g,0,none⟩) bs.length cap) bs (w.drew.freeze ⟨g,0,none⟩ bs.length):=by
 obtain ⟨z,O,H⟩:=h;have M:Lib.BuilderAtF T 5 0 b p (Lib.byteCells bs) w.drew:=⟨Nat.zero_le _,_,z,by rw [Lib.byteCells_length];exact O,H⟩;have c1:w.drew.cell? ⟨b,1,none⟩=some (.slice (some ⟨g,0,none⟩) bs.length cap):=by have:w.drew.heap[b]?=some (.cells #[p,.slice (some ⟨g,0,none⟩) bs.length cap] T (0,0)):=z;rw [Lib.cell_of_heap this];rfl
 obtain ⟨_,v,I,J,Z⟩:=M.froze (g:=g) (cap:=cap) (by grind [Lib.byteCells_length]);rw [Lib.byteCells_length] at I J;have e:v=.slice (some ⟨g,0,none⟩) bs.length cap:=by
  have o:g≠b:=λe=>H (by simp [Value.ownBlock,e]);have:(w.drew.freeze ⟨g,0,none⟩ bs.length).heap[b]?=w.heap[b]?:=by
   unfold World.freeze;split
   ·rfl
   ·simp only [Array.getElem?_modify];rw [if_neg o];rfl
  grind
 subst e;exact ⟨I,J,Z⟩
theorem awb (w:World) (b g n:Nat):Else b (some g) w (w.drew.freeze ⟨g,0,none⟩ n):=by
 unfold World.freeze;split
 ·exact ⟨rfl,rfl,rfl,Nat.le_refl _,λ_ _ _ _=>rfl⟩
 ·refine ⟨rfl,rfl,rfl,by simp,λk _ _ h=>?_⟩;simp only [Array.getElem?_modify];rw [if_neg (λe=>h (by simp [e]))];rfl
set_option maxHeartbeats 2000000 in
set_option maxRecDepth 100000 in
theorem axo {T:TypeId}{b g cap:Nat}{p:Value}{l:Bo}{w:World}{cur:Array Value}{fz:Nat×Nat} (I:l≠[]) (o:w.heap[b]?=some (.cells #[p,.slice (some ⟨g,0,none⟩) l.length cap] T (0,0)))
 (h:w.ownsRowF 0 5 1 (.slice (some ⟨g,0,none⟩) l.length cap) l.length (Lib.byteCells l)) (J:w.heap[g]?=some (.cells cur 5 fz)) (ab:l.length<=cap) (Z:cap<=maxLen) (z:cur.size=cap*1):
 Calls Tryz.prog 39 #[.pointer (some ⟨b,0,none⟩)] w λe w'=>e=.returned (.string ⟨l.toArray⟩)/\w'=w.drew.freeze ⟨g,0,none⟩ l.length:=by
 have aa:l.length≠0:=by simpa using I
 have c1:w.drew.cell? ⟨b,1,none⟩=some (.slice (some ⟨g,0,none⟩) l.length cap):=by have:w.drew.heap[b]?=some (.cells #[p,.slice (some ⟨g,0,none⟩) l.length cap] T (0,0)):=o;rw [Lib.cell_of_heap this];rfl
 have M:(Builtin.unsafeSliceData_ #[91] 149 #[.slice (some ⟨g,0,none⟩) l.length cap]).run Tryz.prog w.drew=.ok (.pointer (some ⟨g,0,none⟩)) w.drew:=
  Lib.run_unsafeSliceData_row _ _ _ _ _ _ (by omega)
 have O:(Builtin.unsafeString_ #[149,3] 9 #[.pointer (some ⟨g,0,none⟩),.int .i64 l.length]).run Tryz.prog w.drew=.ok (.string ⟨l.toArray⟩) (w.drew.freeze ⟨g,0,none⟩ l.length):=by refine Lib.run_unsafeString_row w.drew 149 3 9 5 Tryz.underlying149 (by kernel_rfl) g cur.size (by have H:w.drew.heap[g]?=some (.cells cur 5 fz):=J;simp [World.shape?,H]) l I (by omega) (by grind [maxLen]) ?_;intro j x hx;exact h.cells (g:=g) rfl j (.int .u8 x.toNat) (by simp [Lib.byteCells,hx])
 clear h J z
 go_enter Tryz.func39,Tryz.ntmps39
 go_wp2
 go_region
 all_goals (go_wp2;go_ret;exact ⟨rfl,rfl⟩)
set_option maxHeartbeats 2000000 in
set_option maxRecDepth 100000 in
theorem a1b {T:TypeId}{b:Nat}{p:Value}{w:World} (h:w.heap[b]?=some (.cells #[p,.slice none 0 0] T (0,0))):
 Calls Tryz.prog 39 #[.pointer (some ⟨b,0,none⟩)] w λe w'=>e=.returned (.string ⟨#[]⟩)/\w'=w.drew:=by
 have z:=λW q=>Lib.run_unsafeString_none (P:=Tryz.prog) W 149 3 9 q
 have H:w.drew.cell? ⟨b,1,none⟩=some (.slice none 0 0):=by have:w.drew.heap[b]?=some (.cells #[p,.slice none 0 0] T (0,0)):=h;rw [Lib.cell_of_heap this];rfl
 have o:(Builtin.unsafeSliceData_ #[91] 149 #[.slice none 0 0]).run Tryz.prog w.drew=.ok (.pointer none) w.drew:=rfl
 go_enter Tryz.func39,Tryz.ntmps39
 go_wp2
 go_region
 all_goals (go_wp2;go_ret;exact ⟨rfl,rfl⟩)
set_option maxHeartbeats 2000000 in
set_option maxRecDepth 100000 in
theorem axp {T:TypeId}{b g cap:Nat}{p:Value}{w:World} (h:cap≠0) (o:w.heap[b]?=some (.cells #[p,.slice (some ⟨g,0,none⟩) 0 cap] T (0,0))):
 Calls Tryz.prog 39 #[.pointer (some ⟨b,0,none⟩)] w λe w'=>e=.returned (.string ⟨#[]⟩)/\w'=w.drew:=by
 have H:=λW q=>Lib.run_unsafeString_none (P:=Tryz.prog) W 149 3 9 q
 have I:w.drew.cell? ⟨b,1,none⟩=some (.slice (some ⟨g,0,none⟩) 0 cap):=by have:w.drew.heap[b]?=some (.cells #[p,.slice (some ⟨g,0,none⟩) 0 cap] T (0,0)):=o;rw [Lib.cell_of_heap this];rfl
 have z:(Builtin.unsafeSliceData_ #[91] 149 #[.slice (some ⟨g,0,none⟩) 0 cap]).run Tryz.prog w.drew=.ok (.pointer (some ⟨g,0,none⟩)) w.drew:=
  Lib.run_unsafeSliceData_row _ _ _ _ _ _ h
 clear h
 go_enter Tryz.func39,Tryz.ntmps39
 go_wp2
 go_region
 all_goals (go_wp2;go_ret;exact ⟨rfl,rfl⟩)
set_option maxHeartbeats 2000000 in
set_option maxRecDepth 100000 in
theorem ask {T:TypeId}{b g:Nat}{p:Value}{w:World}{cur:Array Value}{fz:Nat×Nat} (h:w.heap[b]?=some (.cells #[p,.slice (some ⟨g,0,none⟩) 0 0] T (0,0))) (O:w.heap[g]?=some (.cells cur 5 fz)):
 Calls Tryz.prog 39 #[.pointer (some ⟨b,0,none⟩)] w λe w'=>e=.returned (.string ⟨#[]⟩)/\w'=w.drew.alloc (.view ⟨g,0,none⟩ 5):=by
 have M:=λW q=>Lib.run_unsafeString_none (P:=Tryz.prog) W 149 3 9 q
 have z:b<w.heap.size:=by grind
 have H:w.drew.cell? ⟨b,1,none⟩=some (.slice (some ⟨g,0,none⟩) 0 0):=by have:w.drew.heap[b]?=some (.cells #[p,.slice (some ⟨g,0,none⟩) 0 0] T (0,0)):=h;rw [Lib.cell_of_heap this];rfl
 have J:(Builtin.unsafeSliceData_ #[91] 149 #[.slice (some ⟨g,0,none⟩) 0 0]).run Tryz.prog w.drew=.ok (.pointer (some ⟨w.drew.heap.size,0,none⟩)) (w.drew.alloc (.view ⟨g,0,none⟩ 5)):=
  Lib.run_unsafeSliceData_zero w.drew _ _ 5 Tryz.underlying149 ⟨g,0,none⟩ 0 (5,cur.size) (by have o:w.drew.heap[g]?=some (.cells cur 5 fz):=O;simp [World.shape?,o])
 have I:(w.drew.alloc (.view ⟨g,0,none⟩ 5)).cell? ⟨b,1,none⟩=some (.slice (some ⟨g,0,none⟩) 0 0):=by have:(w.drew.alloc (.view ⟨g,0,none⟩ 5)).heap[b]?=_:=(Lib.alloc_old w.drew _ b z).trans h;rw [Lib.cell_of_heap this];rfl
 have c3:(w.alloc (.view ⟨g,0,none⟩ 5)).drew.cell? ⟨b,1,none⟩=some (.slice (some ⟨g,0,none⟩) 0 0):=I
 have Z:w.cell? ⟨b,1,none⟩=some (.slice (some ⟨g,0,none⟩) 0 0):=H
 go_enter Tryz.func39,Tryz.ntmps39
 go_wp2
 go_region
 all_goals (go_wp2;go_ret;exact ⟨rfl,rfl⟩)
theorem a1a {T:TypeId}{b:Nat}{p v:Value}{bs:Bo}{w:World} (h:BAt T b p v bs w):
 Calls Tryz.prog 39 #[.pointer (some ⟨b,0,none⟩)] w λe w'=>e=.returned (.string ⟨bs.toArray⟩)/\BAt T b p v bs w'/\Else b v.ownBlock w w':=by
 have H:=h
 obtain ⟨o,z,aa⟩:=h
 rcases z.2 with ⟨rfl,hz⟩ | ⟨g,cap,cur,fz,rfl,ad,hg,ae,Z,J,M,ab⟩
 ·have I:bs=[]:=by simpa using hz
  subst I;refine (a1b o).mono ?_;rintro e w' ⟨rfl,rfl⟩;exact ⟨rfl,H,rfl,rfl,rfl,Nat.le_refl _,λ_ _ _ _=>rfl⟩
 ·by_cases h0:bs=[]
  ·subst h0;by_cases hc:cap=0
   ·subst hc;refine (ask o hg).mono ?_;rintro e w' ⟨rfl,rfl⟩;have O:b<w.heap.size:=(Array.getElem?_eq_some_iff.1 o).1;refine ⟨rfl,⟨(aa6 w.drew _ b O).trans o,World.ownsRowF.kept (w:=w.drew) z (World.grownBy_alloc w.drew _ none) (by grind),aa⟩,rfl,rfl,rfl,by simp,λk hk _ _=>aa6 w.drew _ k hk⟩
   ·refine (axp hc o).mono ?_;rintro e w' ⟨rfl,rfl⟩;exact ⟨rfl,H,rfl,rfl,rfl,Nat.le_refl _,λ_ _ _ _=>rfl⟩
  ·refine (axo h0 o z hg Z J M).mono ?_;rintro e w' ⟨rfl,rfl⟩;exact ⟨rfl,H.frz,awb w b g _⟩
theorem BldRep.bat {D:Dom}{w:World}{ow:Own}{μ:Nat->Nat}{k:Nat}{T:TypeId}{bs:Bo} (hT:ak7 Tryz.prog 3 T=5) (h:BldRep Tryz.prog D w ow μ k T bs):
 ∃ p v,(p=.pointer none\/p=.pointer (some ⟨μ k,0,none⟩))/\BAt T (μ k) p v bs w/\ow (μ k)=some k/\(∀ o,¬D (μ k) o)/\∀ g,v.ownBlock=some g->ow g=some k/\∀ o,¬D g o:=by
 obtain ⟨p,v,z,H,I,J,M⟩:=h
 rw [hT] at M
 rcases M with ⟨rfl,rfl⟩ | ⟨g,cap,cur,fz,rfl,a2,a4,a5,a6,a7,a8,a9,O,Z⟩
 ·exact ⟨p,_,H,⟨z,⟨by simp [Lib.byteCells],Or.inl ⟨rfl,rfl⟩⟩,by simp [Value.ownBlock]⟩,I,J,λg hg=>by grind [Value.ownBlock]⟩
 ·refine ⟨p,_,H,⟨z,⟨by simp [Lib.byteCells],Or.inr ⟨g,cap,cur,fz,rfl,Nat.zero_le _,a2,by omega,a5,a6,by omega,?_⟩⟩,by simp [Value.ownBlock,a9]⟩,I,J,λg' hg=>?_⟩
  ·rw [Nat.mul_one];exact a8
  grind [Value.ownBlock]
theorem BAt.rep {D:Dom}{w:World}{ow:Own}{μ:Nat->Nat}{k:Nat}{T:TypeId}{bs:Bo}{p v:Value} (hT:ak7 Tryz.prog 3 T=5) (hp:p=.pointer none\/p=.pointer (some ⟨μ k,0,none⟩)) (h:BAt T (μ k) p v bs w) (M:ow (μ k)=some k) (O:∀ o,¬D (μ k) o)
 (Z:∀ g,v.ownBlock=some g->ow g=some k/\∀ o,¬D g o):BldRep Tryz.prog D w ow μ k T bs:=by
 obtain ⟨q1,q2,q3⟩:=h
 refine ⟨p,v,q1,hp,M,O,?_⟩
 rw [hT]
 rcases q2.2 with ⟨rfl,hz⟩ | ⟨g,cap,cur,fz,rfl,_,H,a4,I,J,a7,z⟩
 ·grind
 ·obtain ⟨r1,r2⟩:=Z g rfl;exact Or.inr ⟨g,cap,cur,fz,rfl,H,by omega,I,J,by omega,by rw [Nat.mul_one] at z;exact z,λe=>q3 (by simp [Value.ownBlock,e]),r1,r2⟩
theorem ax7 {D:Dom}{w w':World}{ow:Own}{μ:Nat->Nat}{T:TypeId}{bs Z:Bo}{ah:List SV}{ag:Array Value}{rs:List SV}{r p' v O:Value} (hT:ak7 Tryz.prog 3 T=5) (z:Pre Tryz.prog D ow μ [.bld T bs] w ah ag)
 (ad:a1j Tryz.prog D w' (adg rs) r) (hv:∀ g,v.ownBlock=some g->ow g=some 0) (hp:p'=.pointer none\/p'=.pointer (some ⟨μ 0,0,none⟩)) (h:BAt T (μ 0) p' O Z w') (M:Else (μ 0) v.ownBlock w w') (hg:∀ g,O.ownBlock=some g->v.ownBlock=some g\/w.heap.size<=g):
 Post Tryz.prog D w ow μ [.bld T bs] rs [.bld T Z] r D w':=by
 have h0:=z.objs.obj 0 _ rfl
 obtain ⟨p,v0,ao,al,an,aa,_⟩:=BldRep.bat hT h0
 have ai:μ 0<w'.heap.size:=(Array.getElem?_eq_some_iff.1 h.1).1
 have ak:∀ g,O.ownBlock=some g->g<w'.heap.size:=λg hg=>(h.2.1.lt g hg).2
 have aj:∀ b,ow b=some 0->∀ o,¬D b o:=λb ob o d=>z.objs.lone b 0 _ ob rfl (by simp) o d
 have ae:∀ b,b<w.heap.size->ow b=none->w'.heap[b]?=w.heap[b]?:=λb J hn=>M.block b J (λe=>by grind) (λe=>by grind)
 have I:∀ b o,D b o->ow b=none:=λb o d=>by
  cases J:ow b with
  | none=>rfl
  | some k=>have H:=(z.objs.owlt b k J).2;grind
 have af:∀ b,(b=μ 0\/O.ownBlock=some b)->∀ o,¬D b o:=λb hc o d=>by
  rcases hc with rfl | hc
  ·exact aa o d
  ·rcases hg b hc with h1 | h1
   ·grind
   ·have:=z.dlt b o d;omega
 refine ⟨λ_ _ d=>d,λ_ _ d=>Or.inl d,⟨λb=>if b=μ 0\/O.ownBlock=some b then some 0 else none,μ,⟨λk b H=>?_,λb k J=>?_,λb o d=>Az (z.dlt b o d) M.size,λb k x J _ _ o d=>?_⟩,(afa (ad _ _ _)).1,λb k J am=>?_,λk b H=>?_,λk E g xs ys H=>?_⟩,M.os,M.tape,M.output,M.size,ae,Keeps.of_heap λb o d=>ae b (z.dlt b o d) (I b o d)⟩
 ·cases k with
  | zero=>cases H;exact BAt.rep (ow:=λb=>if b=μ 0\/O.ownBlock=some b then some 0 else none) hT hp h (if_pos (Or.inl rfl)) aa (λg ab=>⟨if_pos (Or.inr ab),af g (Or.inr ab)⟩)
  | succ k=>simp at H
 ·grind
 ·grind
 ·grind
 ·cases k with
  | zero=>cases H;exact ⟨_,rfl,rfl,λ_ _=>rfl⟩
  | succ k=>simp at H
 grind
def bbl (T:TypeId):Prop:=ak7 Tryz.prog 3 T=5/\T≠5/\liesAt Tryz.prog Tryz.prog.depth T (2 / Tryz.prog.cellsOf T) 0 93 1=true
theorem al3 {T:TypeId} (I:bbl T) (bs s:Bo) (O:bs.length+s.length<=140737488355328):Meets Tryz.prog 34 [.bref 0 93,.str s] [.bld T bs] [.int .i64 s.length,.raw .nilIface] [.bld T (bs++s)]:=by
 refine ⟨aa4 Tryz.func34 (by kernel_rfl) (by kernel_rfl),λD ow μ w o h=>?_⟩;have h0:=h.objs.obj 0 _ rfl;obtain ⟨p,v,hp,J,ab,aa,hv⟩:=BldRep.bat I.1 h0;obtain ⟨v0,M,rfl⟩:∃ v0 M,o=#[v0,M]:=by
  have:=h.size;match o,this with
  | ⟨[a,b]⟩,_=>grind
 have Z:=h.arg 0 _ v0 rfl rfl;have a1:=h.arg 1 _ M rfl rfl;cases Z;cases a1;refine (apc I.2.2 hp J I.2.1 ⟨s.toArray⟩ (by grind [ByteArray.size])).mono λe w' he=>?_;obtain ⟨rfl,v',h1,h2,h3⟩:=he;refine ⟨_,D,rfl,ax7 I.1 h ?_ (λg hg=>(hv g hg).1) (Or.inr rfl) h1 h2 h3⟩;intro ad ae st';refine .tup rfl (λi s' u z H=>?_);match i,z,H with
 | 0,z,H=>cases z;cases H;exact .int
 | 1,z,H=>cases z;cases H;exact .raw
theorem avb {T:TypeId} (I:bbl T) (bs:Bo):Meets Tryz.prog 39 [.bref 0 93] [.bld T bs] [.str bs] [.bld T bs]:=by
 refine ⟨aa4 Tryz.func39 (by kernel_rfl) (by kernel_rfl),λD ow μ w o h=>?_⟩;have M:=h.objs.obj 0 _ rfl;obtain ⟨p,v,hp,z,ab,aa,hv⟩:=BldRep.bat I.1 M;obtain ⟨v0,rfl⟩:∃ v0,o=#[v0]:=by
  have:=h.size;match o,this with
  | ⟨[a]⟩,_=>grind
 have J:=h.arg 0 _ v0 rfl rfl;cases J;refine (a1a z).mono λe w' he=>?_;obtain ⟨rfl,O,Z⟩:=he;refine ⟨_,D,rfl,ax7 I.1 h ?_ (λg H=>(hv g H).1) hp O Z (λg H=>Or.inl H)⟩;intro ad ae st';exact .str
end Go.Ab
