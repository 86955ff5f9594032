/- strings.Builder: what its methods do, every other block left alone. -/
import Derived.Test.YthokbeimbdnnoaaGreatDoorTryzShelf
import Derived.Lib.Strings
import Derived.Lib.Slices
import Derived.Lib.Walk
import Derived.Lib.Builder
import Derived.Lib.AppendStr
import Derived.Lib.UnsafeStr
import Derived.Lib.FrozenHead
import Derived.Laws.Externs
import Derived.Laws.BitsLemmas
set_option linter.unusedVariables false
set_option linter.unusedSimpArgs false
set_option linter.unnecessarySimpa false
namespace Go.Ab
open Go Go.Proofs Go.RowKit
structure Else (b:Nat) (g:Option Nat) (w w':World):Prop where
 os:w'.os=w.os
 tape:w'.tape=w.tape
 output:w'.output=w.output
 size:w.heap.size<=w'.heap.size
 block:∀ k,k<w.heap.size->k≠b->some k≠g->w'.heap[k]?=w.heap[k]?
def BAt (T:TypeId) (b:Nat) (p v:Value) (bs:Bq) (w:World):Prop:=
 w.heap[b]?=some (.cells #[p,v] T (0,0))/\w.ownsRowF 0 5 1 v bs.length (Lib.byteCells bs)/\v.ownBlock≠some b
theorem sizeBuilder:∃ j,Tryz.prog.info? 89=some j/\j.size=2:=by
 have h:(Tryz.prog.info? 89).map (λi=>i.size)=some 2:=by kernel_rfl
 obtain ⟨j,o,z⟩:=Option.map_eq_some_iff.1 h;exact ⟨j,o,z⟩
theorem ap1 {P:Program} (w:World) (t u Z e:TypeId) (i:TypeInfo) (ht:P.underlying t=some (.slice e)) (hu:P.underlying u=some .string) (hi:P.info? e=some i) (hz:i.zero=some (.int .u8 0)) (h:i.size=1) (O:i.bytes=1)
 (v:Value) (n:Nat) (xs:List Value) (o:w.ownsRowF 0 e 1 v n xs) (s:ByteArray) (M:n+s.size<=maxLen) (z:n+s.size<=140737488355328) {v':Value}{w':World} (hr:(Builtin.append_ #[t,u] Z #[v,.string s]).run P w=.ok v' w'):
 ∀ g,v'.ownBlock=some g->v.ownBlock=some g\/w.heap.size<=g:=by
 intro g J
 rcases o.2 with ⟨rfl,rfl⟩ | ⟨g0,cap,cur,fz,rfl,_,ad,ab,ah,ag,aa,ae⟩
 ·obtain ⟨v2,w2,H,h2,_⟩:=Lib.run_append_own_string (P:=P) w w.heap.size t u Z e i ht hu hi hz h O (.slice none 0 0) 0 xs ⟨o.1,.inl ⟨rfl,rfl⟩⟩ s M z (Nat.le_refl _);rw [hr] at H;cases H;rcases h2.2 with ⟨rfl,_⟩ | ⟨g1,c1,u1,rfl,hb,_⟩
  ·simp [Value.ownBlock] at J
  ·simp [Value.ownBlock] at J;subst J;exact Or.inr hb
 ·by_cases I:n+s.size<=cap
  ·have H:=Lib.run_append_room_stringF (P:=P) w t u Z e i ht hu hi h g0 n cap cur fz ad (by simpa using ab) s I (by rw [aa];omega);rw [hr] at H;cases H;exact Or.inl J
  ·have af:xs.length=n:=by simpa using o.1
   have H:=Lib.run_append_grow_string (P:=P) w t u Z e i (.int .u8 0) ht hu hi hz ⟨g0,0,none⟩ n cap xs (by rw [h];simpa using af) (o.cells (g:=g0) rfl) s (by omega) (by unfold maxLen at M;omega) (by rw [O];exact growslice_fits (by omega) (by omega));rw [hr] at H;cases H;simp [Value.ownBlock] at J;subst J;exact Or.inr (Nat.le_refl _)
theorem aka {P:Program}{w:World}{ops:Array Oper}{J:List Oper}{o:Oper}{a:Act}{Q:Exit->Act->World->Prop} (aa:o.guard=none) (sl x:Operand) (t u:TypeId)
 (ho:o.op=.call { callee:=.builtin .append,args:=#[sl,x],argTypes:=#[t,u] })
 (e:TypeId) (i:TypeInfo) (ht:P.underlying t=some (.slice e)) (hu:P.underlying u=some .string) (hi:P.info? e=some i) (hz:i.zero=some (.int .u8 0)) (H:i.size=1) (O:i.bytes=1)
 (v:Value) (n:Nat) (xs:List Value) (hs:a.eval sl=v) (I:w.ownsRowF 0 e 1 v n xs) (s:ByteArray) (hx:a.eval x=.string s) (M:n+s.size<=maxLen) (z:n+s.size<=140737488355328)
 (h:∀ Z w',w'.ownsRowF 0 e 1 Z (n+s.size) (xs++Lib.strCells s)->w.grownBy w' v.ownBlock->(∀ g,Z.ownBlock=some g->v.ownBlock=some g\/w.heap.size<=g)->wpList P ops Q J (a.put o.dst Z) w'):wpList P ops Q (o::J) a w:=by
 refine wpList_plain aa λK hK=>?_
 obtain ⟨Z,w',hr,h2,h3,_⟩:=Lib.run_append_own_stringF (P:=P) w 0 t u o.type e i ht hu hi hz H O v n xs I s M z (Nat.zero_le _)
 have h5:=ap1 w t u o.type e i ht hu hi hz H O v n xs I s M z hr
 unfold Oper.wp execOp
 simp only [ho,resolve,invoke,builtin,Sem.run_bind,Sem.run_pure,Result.andThen_ok,List.map_toArray,Bh,List.map_nil,hs,hx,hr]
 exact hK _ _ (h Z w' h2 h3 h5)
set_option maxHeartbeats 1000000 in
set_option maxRecDepth 100000 in
theorem am0 (b:Nat) (w:World) (o:w.cell? ⟨b,0,none⟩=some (.pointer (some ⟨b,0,none⟩))):
 Calls Tryz.prog 100 #[.pointer (some ⟨b,0,none⟩)] w λe w'=>e=.returned (.tuple #[])/\w'=w:=by
 obtain ⟨j,h,_⟩:=sizeBuilder
 go_enter Tryz.func100,Tryz.ntmps100
 go_wp2
 rw [Lib.run_neq_ptr_same w _ Tryz.underlying86 h]
 go_wp2
 go_end0
 exact ⟨rfl,rfl⟩
set_option maxHeartbeats 1000000 in
set_option maxRecDepth 100000 in
theorem alj (T:TypeId) (I:liesAt Tryz.prog Tryz.prog.depth T (2 / Tryz.prog.cellsOf T) 0 89 1=true) (b:Nat) (w:World) (J:w.cell? ⟨b,0,none⟩=some (.pointer none)) (h:w.shape? b=some (T,2)) (H:w.frozen? ⟨b,0,none⟩=false):
 Calls Tryz.prog 100 #[.pointer (some ⟨b,0,none⟩)] w λe w'=>e=.returned (.tuple #[])/\w'=w.setCell ⟨b,0,none⟩ (.pointer (some ⟨b,0,none⟩)):=by
 obtain ⟨j,z,o⟩:=sizeBuilder
 go_enter Tryz.func100,Tryz.ntmps100
 go_wp2
 rw [Lib.run_to_unsafe w ⟨b,0,none⟩ Tryz.underlying86 Tryz.underlying226 z (by rw [o];decide) h (Nat.zero_lt_succ 1)]
 simp only [Result.andThen]
 rw [Oper.upon_value]
 go_wp2
 rw [run_callFunc_extern Tryz.func163 (by kernel_rfl) (by kernel_rfl) (by kernel_rfl) (e:=Extern.AbiNoEscape.same) (by kernel_rfl)]
 rw [Lib.run_noEscape]
 simp only [Result.andThen]
 rw [Oper.upon_value]
 go_wp2
 rw [Lib.run_from_unsafe w ⟨b,0,none⟩ Tryz.underlying226 Tryz.underlying86 z h I]
 simp only [Result.andThen]
 rw [Oper.upon_value]
 go_wp2
 go_end0
 exact ⟨rfl,rfl⟩
theorem a0y:∃ i,Tryz.prog.info? 5=some i/\i.zero=some (.int .u8 0)/\i.size=1/\i.bytes=1:=by
 have h:(Tryz.prog.info? 5).map (λi=>(i.zero,i.size,i.bytes))=some (some (.int .u8 0),1,1):=by kernel_rfl
 obtain ⟨j,z,o⟩:=Option.map_eq_some_iff.1 h;simp only [Prod.mk.injEq] at o;exact ⟨j,z,o.1,o.2.1,o.2.2⟩
theorem aoj {T:TypeId} (M:liesAt Tryz.prog Tryz.prog.depth T (2 / Tryz.prog.cellsOf T) 0 89 1=true) {b:Nat}{p v:Value}{bs:Bq}{w:World} (O:p=.pointer none\/p=.pointer (some ⟨b,0,none⟩)) (h:BAt T b p v bs w):
 Calls Tryz.prog 100 #[.pointer (some ⟨b,0,none⟩)] w λe w'=>e=.returned (.tuple #[])/\BAt T b (.pointer (some ⟨b,0,none⟩)) v bs w'/\Else b none w w':=by
 obtain ⟨o,J,z⟩:=h
 have I:w.cell? ⟨b,0,none⟩=some p:=by rw [Lib.cell_of_heap o];rfl
 rcases O with rfl | rfl
 ·refine (alj T M b w I (by simp [World.shape?,o]) (by simp [World.frozen?,o])).mono ?_;rintro e w' ⟨rfl,rfl⟩;refine ⟨rfl,⟨by simp [World.setCell,Array.getElem?_modify,o],?_,z⟩,rfl,rfl,rfl,by simp [World.setCell],λk _ H _=>Below.heap_setCell _ _ _ _ H⟩;exact J.kept (row:=some b) ⟨rfl,rfl,rfl,by simp [World.setCell],λk _ H=>Below.heap_setCell _ _ _ _ (λe=>H (by simp [e]))⟩ (Or.inr z)
 ·refine (am0 b w I).mono ?_;rintro e w' ⟨rfl,rfl⟩;exact ⟨rfl,⟨o,J,z⟩,rfl,rfl,rfl,Nat.le_refl _,λ_ _ _ _=>rfl⟩
set_option maxHeartbeats 2000000 in
set_option maxRecDepth 100000 in
theorem amv {T:TypeId} (hl:liesAt Tryz.prog Tryz.prog.depth T (2 / Tryz.prog.cellsOf T) 0 89 1=true) {b:Nat}{p v:Value}{bs:Bq}{w:World} (hp:p=.pointer none\/p=.pointer (some ⟨b,0,none⟩)) (h:BAt T b p v bs w) (O:T≠5)
 (s:ByteArray) (aj:bs.length+s.size<=140737488355328):
 Calls Tryz.prog 49 #[.pointer (some ⟨b,0,none⟩),.string s] w λe w'=>e=.returned (.tuple #[.int .i64 s.size,.nilIface])/\∃ v',BAt T b (.pointer (some ⟨b,0,none⟩)) v' (bs++s.data.toList) w'/\Else b v.ownBlock w w'/\
  (∀ g,v'.ownBlock=some g->v.ownBlock=some g\/w.heap.size<=g):=by
 obtain ⟨i0,hi,ag,ah,ai⟩:=a0y
 go_enter Tryz.func49,Tryz.ntmps49
 go_wp2_with (go_at_call 100;refine (aoj hl hp h).mono ?_)
 rintro e w1 ⟨rfl,h1,H⟩
 obtain ⟨J,ab,af⟩:=h1
 have c0:w1.cell? ⟨b,0,none⟩=some (.pointer (some ⟨b,0,none⟩)):=by rw [Lib.cell_of_heap J];rfl
 have c1:w1.cell? ⟨b,1,none⟩=some v:=by rw [Lib.cell_of_heap J];rfl
 go_wp2_with (at_builtin;refine aka rfl _ _ 87 9 rfl 5 i0 Tryz.underlying87 Tryz.underlying9 hi ag ah ai _ _ _ rfl ab s rfl ?c3 ?c4 ?_)
 case c3=>unfold maxLen;omega
 case c4=>omega
 intro v' w2 z o aa
 have ae:b<w1.heap.size:=by
  rcases Nat.lt_or_ge b w1.heap.size with M | M
  ·exact M
  ·simp [Array.getElem?_eq_none M] at J
 have I:w2.heap[b]?=some (.cells #[.pointer (some ⟨b,0,none⟩),v] T (0,0)):=by rw [o.block b ae (λe=>af e.symm)];exact J
 have d0:w2.cell? ⟨b,0,none⟩=some (.pointer (some ⟨b,0,none⟩)):=by rw [Lib.cell_of_heap I];rfl
 have d1:w2.cell? ⟨b,1,none⟩=some v:=by rw [Lib.cell_of_heap I];rfl
 have f1:w2.frozen? ⟨b,1,none⟩=false:=Lib.frozen_of_heap I 1
 obtain ⟨ao,n',cap,rfl⟩:∃ ao n' cap,v'=.slice ao n' cap:=by
  rcases z.2 with ⟨hv,_⟩ | ⟨g,cap,cur,fz,hv,_⟩
  ·exact ⟨_,_,_,hv⟩
  ·exact ⟨_,_,_,hv⟩
 go_wp2
 go_ret2
 refine ⟨rfl,.slice ao n' cap,⟨by simp [World.setCell,Array.getElem?_modify,I],?_,?_⟩,⟨o.os.trans H.os,o.tape.trans H.tape,o.output.trans H.output,?_,λk hk Z ad=>?_⟩,λg hg=>?_⟩
 ·have e1:bs.length+s.size=(bs++s.data.toList).length:=by rw [Ak];rfl
  rw [e1,Lib.strCells_eq,<-Lib.byteCells_append] at z;exact z.kept (row:=some b) ⟨rfl,rfl,rfl,by simp [World.setCell],λk _ hk=>Below.heap_setCell _ _ _ _ (λe=>hk (by simp [e]))⟩ (Or.inr (Lib.ownBlock_neF z I O))
 ·exact Lib.ownBlock_neF z I O
 ·have:=H.size;have:=o.size;simp [World.setCell];omega
 ·have:=H.size;rw [Below.heap_setCell _ _ _ _ Z,o.block k (by omega) ad];exact H.block k hk Z (by simp)
 ·rcases aa g hg with M | M
  ·exact Or.inl M
  ·have:=H.size;exact Or.inr (by omega)
theorem BAt.frz {T:TypeId}{b:Nat}{p:Value}{bs:Bq}{w:World}{g cap:Nat} (h:BAt T b p (.slice (some ⟨g,0,none⟩) bs.length cap) bs w):BAt T b p (.slice (some ⟨g,0,none⟩) bs.length cap) bs (w.drew.freeze ⟨g,0,none⟩ bs.length):=by
 obtain ⟨z,Z,I⟩:=h;have O:Lib.BuilderAtF T 5 0 b p (Lib.byteCells bs) w.drew:=⟨Nat.zero_le _,_,z,by rw [Lib.byteCells_length];exact Z,I⟩;have M:w.drew.cell? ⟨b,1,none⟩=some (.slice (some ⟨g,0,none⟩) bs.length cap):=by have:w.drew.heap[b]?=some (.cells #[p,.slice (some ⟨g,0,none⟩) bs.length cap] T (0,0)):=z;rw [Lib.cell_of_heap this];rfl
 obtain ⟨_,v,o,J,q3⟩:=O.froze (g:=g) (cap:=cap) (by rw [Lib.byteCells_length];exact M);rw [Lib.byteCells_length] at o J;have e:v=.slice (some ⟨g,0,none⟩) bs.length cap:=by
  have H:g≠b:=λe=>I (by simp [Value.ownBlock,e]);have:(w.drew.freeze ⟨g,0,none⟩ bs.length).heap[b]?=w.heap[b]?:=by
   unfold World.freeze;split
   ·rfl
   ·simp only [Array.getElem?_modify];rw [if_neg H];rfl
  rw [this,z] at o;simp only [Al,Obj.cells.injEq] at o;have:=o.1;simp at this;exact this.symm
 subst e;exact ⟨o,J,q3⟩
theorem asi (w:World) (b g n:Nat):Else b (some g) w (w.drew.freeze ⟨g,0,none⟩ n):=by
 unfold World.freeze;split
 ·exact ⟨rfl,rfl,rfl,Nat.le_refl _,λ_ _ _ _=>rfl⟩
 ·refine ⟨rfl,rfl,rfl,by simp,λk _ _ h=>?_⟩;simp only [Array.getElem?_modify];rw [if_neg (λe=>h (by simp [e]))];rfl
set_option maxHeartbeats 2000000 in
set_option maxRecDepth 100000 in
theorem atp {T:TypeId}{b g cap:Nat}{p:Value}{l:Bq}{w:World}{cur:Array Value}{fz:Nat×Nat} (J:l≠[]) (o:w.heap[b]?=some (.cells #[p,.slice (some ⟨g,0,none⟩) l.length cap] T (0,0)))
 (h:w.ownsRowF 0 5 1 (.slice (some ⟨g,0,none⟩) l.length cap) l.length (Lib.byteCells l)) (M:w.heap[g]?=some (.cells cur 5 fz)) (ab:l.length<=cap) (z:cap<=maxLen) (H:cur.size=cap*1):
 Calls Tryz.prog 54 #[.pointer (some ⟨b,0,none⟩)] w λe w'=>e=.returned (.string ⟨l.toArray⟩)/\w'=w.drew.freeze ⟨g,0,none⟩ l.length:=by
 have aa:l.length≠0:=by simpa using J
 have c1:w.drew.cell? ⟨b,1,none⟩=some (.slice (some ⟨g,0,none⟩) l.length cap):=by have:w.drew.heap[b]?=some (.cells #[p,.slice (some ⟨g,0,none⟩) l.length cap] T (0,0)):=o;rw [Lib.cell_of_heap this];rfl
 have O:(Builtin.unsafeSliceData_ #[87] 167 #[.slice (some ⟨g,0,none⟩) l.length cap]).run Tryz.prog w.drew=.ok (.pointer (some ⟨g,0,none⟩)) w.drew:=
  Lib.run_unsafeSliceData_row _ _ _ _ _ _ (by omega)
 have Z:(Builtin.unsafeString_ #[167,3] 9 #[.pointer (some ⟨g,0,none⟩),.int .i64 l.length]).run Tryz.prog w.drew=.ok (.string ⟨l.toArray⟩) (w.drew.freeze ⟨g,0,none⟩ l.length):=by refine Lib.run_unsafeString_row w.drew 167 3 9 5 Tryz.underlying167 (by kernel_rfl) g cur.size (by have I:w.drew.heap[g]?=some (.cells cur 5 fz):=M;simp [World.shape?,I]) l J (by omega) (by unfold maxLen at z;omega) ?_;intro j x hx;exact h.cells (g:=g) rfl j (.int .u8 x.toNat) (by simp [Lib.byteCells,hx])
 clear h M H
 go_enter Tryz.func54,Tryz.ntmps54
 go_wp2
 go_region
 all_goals (go_wp2;go_ret;exact ⟨rfl,rfl⟩)
set_option maxHeartbeats 2000000 in
set_option maxRecDepth 100000 in
theorem awx {T:TypeId}{b:Nat}{p:Value}{w:World} (h:w.heap[b]?=some (.cells #[p,.slice none 0 0] T (0,0))):
 Calls Tryz.prog 54 #[.pointer (some ⟨b,0,none⟩)] w λe w'=>e=.returned (.string ⟨#[]⟩)/\w'=w.drew:=by
 have z:=λW q=>Lib.run_unsafeString_none (P:=Tryz.prog) W 167 3 9 q
 have H:w.drew.cell? ⟨b,1,none⟩=some (.slice none 0 0):=by have:w.drew.heap[b]?=some (.cells #[p,.slice none 0 0] T (0,0)):=h;rw [Lib.cell_of_heap this];rfl
 have o:(Builtin.unsafeSliceData_ #[87] 167 #[.slice none 0 0]).run Tryz.prog w.drew=.ok (.pointer none) w.drew:=rfl
 go_enter Tryz.func54,Tryz.ntmps54
 go_wp2
 go_region
 all_goals (go_wp2;go_ret;exact ⟨rfl,rfl⟩)
set_option maxHeartbeats 2000000 in
set_option maxRecDepth 100000 in
theorem atq {T:TypeId}{b g cap:Nat}{p:Value}{w:World} (h:cap≠0) (o:w.heap[b]?=some (.cells #[p,.slice (some ⟨g,0,none⟩) 0 cap] T (0,0))):
 Calls Tryz.prog 54 #[.pointer (some ⟨b,0,none⟩)] w λe w'=>e=.returned (.string ⟨#[]⟩)/\w'=w.drew:=by
 have H:=λW q=>Lib.run_unsafeString_none (P:=Tryz.prog) W 167 3 9 q
 have I:w.drew.cell? ⟨b,1,none⟩=some (.slice (some ⟨g,0,none⟩) 0 cap):=by have:w.drew.heap[b]?=some (.cells #[p,.slice (some ⟨g,0,none⟩) 0 cap] T (0,0)):=o;rw [Lib.cell_of_heap this];rfl
 have z:(Builtin.unsafeSliceData_ #[87] 167 #[.slice (some ⟨g,0,none⟩) 0 cap]).run Tryz.prog w.drew=.ok (.pointer (some ⟨g,0,none⟩)) w.drew:=
  Lib.run_unsafeSliceData_row _ _ _ _ _ _ h
 clear h
 go_enter Tryz.func54,Tryz.ntmps54
 go_wp2
 go_region
 all_goals (go_wp2;go_ret;exact ⟨rfl,rfl⟩)
set_option maxHeartbeats 2000000 in
set_option maxRecDepth 100000 in
theorem apq {T:TypeId}{b g:Nat}{p:Value}{w:World}{cur:Array Value}{fz:Nat×Nat} (h:w.heap[b]?=some (.cells #[p,.slice (some ⟨g,0,none⟩) 0 0] T (0,0))) (Z:w.heap[g]?=some (.cells cur 5 fz)):
 Calls Tryz.prog 54 #[.pointer (some ⟨b,0,none⟩)] w λe w'=>e=.returned (.string ⟨#[]⟩)/\w'=w.drew.alloc (.view ⟨g,0,none⟩ 5):=by
 have O:=λW q=>Lib.run_unsafeString_none (P:=Tryz.prog) W 167 3 9 q
 have H:b<w.heap.size:=by
  rcases Nat.lt_or_ge b w.heap.size with o | o
  ·exact o
  ·simp [Array.getElem?_eq_none o] at h
 have I:w.drew.cell? ⟨b,1,none⟩=some (.slice (some ⟨g,0,none⟩) 0 0):=by have:w.drew.heap[b]?=some (.cells #[p,.slice (some ⟨g,0,none⟩) 0 0] T (0,0)):=h;rw [Lib.cell_of_heap this];rfl
 have M:(Builtin.unsafeSliceData_ #[87] 167 #[.slice (some ⟨g,0,none⟩) 0 0]).run Tryz.prog w.drew=.ok (.pointer (some ⟨w.drew.heap.size,0,none⟩)) (w.drew.alloc (.view ⟨g,0,none⟩ 5)):=
  Lib.run_unsafeSliceData_zero w.drew _ _ 5 Tryz.underlying167 ⟨g,0,none⟩ 0 (5,cur.size) (by have z:w.drew.heap[g]?=some (.cells cur 5 fz):=Z;simp [World.shape?,z])
 have J:(w.drew.alloc (.view ⟨g,0,none⟩ 5)).cell? ⟨b,1,none⟩=some (.slice (some ⟨g,0,none⟩) 0 0):=by have:(w.drew.alloc (.view ⟨g,0,none⟩ 5)).heap[b]?=_:=(Lib.alloc_old w.drew _ b H).trans h;rw [Lib.cell_of_heap this];rfl
 have c3:(w.alloc (.view ⟨g,0,none⟩ 5)).drew.cell? ⟨b,1,none⟩=some (.slice (some ⟨g,0,none⟩) 0 0):=J
 have c0:w.cell? ⟨b,1,none⟩=some (.slice (some ⟨g,0,none⟩) 0 0):=I
 go_enter Tryz.func54,Tryz.ntmps54
 go_wp2
 go_region
 all_goals (go_wp2;go_ret;exact ⟨rfl,rfl⟩)
theorem aww {T:TypeId}{b:Nat}{p v:Value}{bs:Bq}{w:World} (h:BAt T b p v bs w):
 Calls Tryz.prog 54 #[.pointer (some ⟨b,0,none⟩)] w λe w'=>e=.returned (.string ⟨bs.toArray⟩)/\BAt T b p v bs w'/\Else b v.ownBlock w w':=by
 have H:=h
 obtain ⟨o,z,aa⟩:=h
 rcases z.2 with ⟨rfl,hz⟩ | ⟨g,cap,cur,fz,rfl,ad,hg,ae,Z,J,M,ab⟩
 ·have I:bs=[]:=by simpa using hz
  subst I;refine (awx o).mono ?_;rintro e w' ⟨rfl,rfl⟩;exact ⟨rfl,H,rfl,rfl,rfl,Nat.le_refl _,λ_ _ _ _=>rfl⟩
 ·by_cases h0:bs=[]
  ·subst h0;by_cases hc:cap=0
   ·subst hc;refine (apq o hg).mono ?_;rintro e w' ⟨rfl,rfl⟩;have O:b<w.heap.size:=(Array.getElem?_eq_some_iff.1 o).1;refine ⟨rfl,⟨(aa4 w.drew _ b O).trans o,World.ownsRowF.kept (w:=w.drew) z (World.grownBy_alloc w.drew _ none) (by simp [Value.ownBlock]),aa⟩,rfl,rfl,rfl,by simp,λk hk _ _=>aa4 w.drew _ k hk⟩
   ·refine (atq hc o).mono ?_;rintro e w' ⟨rfl,rfl⟩;exact ⟨rfl,H,rfl,rfl,rfl,Nat.le_refl _,λ_ _ _ _=>rfl⟩
  ·refine (atp h0 o z hg Z J M).mono ?_;rintro e w' ⟨rfl,rfl⟩;exact ⟨rfl,H.frz,asi w b g _⟩
theorem BldRep.bat {D:Dom}{w:World}{ow:Own}{μ:Nat->Nat}{k:Nat}{T:TypeId}{bs:Bq} (hT:ajk Tryz.prog 3 T=5) (h:BldRep Tryz.prog D w ow μ k T bs):
 ∃ p v,(p=.pointer none\/p=.pointer (some ⟨μ k,0,none⟩))/\BAt T (μ k) p v bs w/\ow (μ k)=some k/\(∀ o,¬D (μ k) o)/\∀ g,v.ownBlock=some g->ow g=some k/\∀ o,¬D g o:=by
 obtain ⟨p,v,J,M,O,Z,h5⟩:=h
 rw [hT] at h5
 rcases h5 with ⟨rfl,rfl⟩ | ⟨g,cap,cur,fz,rfl,a2,a4,a5,a6,a7,a8,a9,H,I⟩
 ·exact ⟨p,_,M,⟨J,⟨by simp [Lib.byteCells],Or.inl ⟨rfl,rfl⟩⟩,by simp [Value.ownBlock]⟩,O,Z,λg z=>by simp [Value.ownBlock] at z⟩
 ·refine ⟨p,_,M,⟨J,⟨by simp [Lib.byteCells],Or.inr ⟨g,cap,cur,fz,rfl,Nat.zero_le _,a2,by omega,a5,a6,by omega,?_⟩⟩,by simp [Value.ownBlock,a9]⟩,O,Z,λg' z=>?_⟩
  ·rw [Nat.mul_one];exact a8
  ·simp [Value.ownBlock] at z;subst z;exact ⟨H,I⟩
theorem BAt.rep {D:Dom}{w:World}{ow:Own}{μ:Nat->Nat}{k:Nat}{T:TypeId}{bs:Bq}{p v:Value} (hT:ajk Tryz.prog 3 T=5) (hp:p=.pointer none\/p=.pointer (some ⟨μ k,0,none⟩)) (h:BAt T (μ k) p v bs w) (M:ow (μ k)=some k) (O:∀ o,¬D (μ k) o)
 (Z:∀ g,v.ownBlock=some g->ow g=some k/\∀ o,¬D g o):BldRep Tryz.prog D w ow μ k T bs:=by
 obtain ⟨q1,q2,q3⟩:=h
 refine ⟨p,v,q1,hp,M,O,?_⟩
 rw [hT]
 rcases q2.2 with ⟨rfl,hz⟩ | ⟨g,cap,cur,fz,rfl,_,H,a4,I,J,a7,z⟩
 ·exact Or.inl ⟨rfl,by simpa using hz⟩
 ·obtain ⟨r1,r2⟩:=Z g rfl;exact Or.inr ⟨g,cap,cur,fz,rfl,H,by omega,I,J,by omega,by rw [Nat.mul_one] at z;exact z,λe=>q3 (by simp [Value.ownBlock,e]),r1,r2⟩
theorem at6 {D:Dom}{w w':World}{ow:Own}{μ:Nat->Nat}{T:TypeId}{bs aa:Bq}{aj:List SV}{ai:Array Value}{rs:List SV}{r p' v v':Value} (hT:ajk Tryz.prog 3 T=5) (I:Pre Tryz.prog D ow μ [.bld T bs] w aj ai)
 (ag:aw2 Tryz.prog D w' (ac9 rs) r) (hv:∀ g,v.ownBlock=some g->ow g=some 0) (hp:p'=.pointer none\/p'=.pointer (some ⟨μ 0,0,none⟩)) (h:BAt T (μ 0) p' v' aa w') (he:Else (μ 0) v.ownBlock w w') (hg:∀ g,v'.ownBlock=some g->v.ownBlock=some g\/w.heap.size<=g):
 Post Tryz.prog D w ow μ [.bld T bs] rs [.bld T aa] r D w':=by
 have h0:=I.objs.obj 0 _ rfl
 obtain ⟨p,v0,an,al,af,ab,_⟩:=BldRep.bat hT h0
 have ae:μ 0<w'.heap.size:=(Array.getElem?_eq_some_iff.1 h.1).1
 have ak:∀ g,v'.ownBlock=some g->g<w'.heap.size:=λg hg=>(h.2.1.lt g hg).2
 have M:∀ b,ow b=some 0->∀ o,¬D b o:=λb ob o d=>I.objs.lone b 0 _ ob rfl (by simp) o d
 have ah:∀ b,b<w.heap.size->ow b=none->w'.heap[b]?=w.heap[b]?:=λb z hn=>he.block b z (λe=>by rw [e,af] at hn;cases hn) (λe=>by have:=hv b e.symm;rw [hn] at this;cases this)
 have Z:∀ b o,D b o->ow b=none:=λb o d=>by
  cases z:ow b with
  | none=>rfl
  | some k=>
   have J:=(I.objs.owlt b k z).2;have:k=0:=by simp at J;omega
   subst this;exact absurd d (M b z o)
 have O:∀ b,(b=μ 0\/v'.ownBlock=some b)->∀ o,¬D b o:=λb H o d=>by
  rcases H with rfl | H
  ·exact ab o d
  ·rcases hg b H with h1 | h1
   ·exact M b (hv b h1) o d
   ·have:=I.dlt b o d;omega
 refine ⟨λ_ _ d=>d,λ_ _ d=>Or.inl d,⟨λb=>if b=μ 0\/v'.ownBlock=some b then some 0 else none,μ,⟨λk b J=>?_,λb k z=>?_,λb o d=>A5 (I.dlt b o d) he.size,λb k x z _ _ o d=>?_⟩,(ag7 (ag _ _ _)).1,λb k z am=>?_,λk b J=>?_,λk E g xs ys J=>?_⟩,he.os,he.tape,he.output,he.size,ah,Keeps.of_heap λb o d=>ah b (I.dlt b o d) (Z b o d)⟩
 ·cases k with
  | zero=>cases J;exact BAt.rep (ow:=λb=>if b=μ 0\/v'.ownBlock=some b then some 0 else none) hT hp h (if_pos (Or.inl rfl)) ab (λg ad=>⟨if_pos (Or.inr ad),O g (Or.inr ad)⟩)
  | succ k=>simp at J
 ·split at z
  ·rename_i H;cases z;refine ⟨?_,by simp⟩;rcases H with rfl | H
   ·exact ae
   ·exact ak b H
  ·cases z
 ·split at z
  ·rename_i H;exact O b H o d
  ·cases z
 ·split at z
  ·rename_i H;cases z;rcases H with rfl | H
   ·exact af
   ·rcases hg b H with h1 | h1
    ·exact hv b h1
    ·omega
  ·cases z
 ·cases k with
  | zero=>cases J;exact ⟨_,rfl,rfl,λ_ _=>rfl⟩
  | succ k=>simp at J
 ·cases k with
  | zero=>cases J
  | succ k=>simp at J
def a4o (T:TypeId):Prop:=ajk Tryz.prog 3 T=5/\T≠5/\liesAt Tryz.prog Tryz.prog.depth T (2 / Tryz.prog.cellsOf T) 0 89 1=true
theorem akb {T:TypeId} (J:a4o T) (bs s:Bq) (H:bs.length+s.length<=140737488355328):Meets Tryz.prog 49 [.bref 0 89,.str s] [.bld T bs] [.int .i64 s.length,.raw .nilIface] [.bld T (bs++s)]:=by
 refine ⟨aa7 Tryz.func49 (by kernel_rfl) (by kernel_rfl),λD ow μ w o h=>?_⟩;have h0:=h.objs.obj 0 _ rfl;obtain ⟨p,v,hp,M,ab,aa,hv⟩:=BldRep.bat J.1 h0;obtain ⟨v0,O,rfl⟩:∃ v0 O,o=#[v0,O]:=by
  have:=h.size;match o,this with
  | ⟨[a,b]⟩,_=>exact ⟨a,b,rfl⟩
 have Z:=h.arg 0 _ v0 rfl rfl;have a1:=h.arg 1 _ O rfl rfl;cases Z;cases a1;refine (amv J.2.2 hp M J.2.1 ⟨s.toArray⟩ (by simpa [ByteArray.size] using H)).mono λe w' he=>?_;obtain ⟨rfl,v',h1,h2,h3⟩:=he;refine ⟨_,D,rfl,at6 J.1 h ?_ (λg hg=>(hv g hg).1) (Or.inr rfl) h1 h2 h3⟩;intro ad ae st';refine .tup rfl (λi s' u z I=>?_);match i,z,I with
 | 0,z,I=>cases z;cases I;exact .int
 | 1,z,I=>cases z;cases I;exact .raw
theorem arn {T:TypeId} (I:a4o T) (bs:Bq):Meets Tryz.prog 54 [.bref 0 89] [.bld T bs] [.str bs] [.bld T bs]:=by
 refine ⟨aa7 Tryz.func54 (by kernel_rfl) (by kernel_rfl),λD ow μ w o h=>?_⟩;have M:=h.objs.obj 0 _ rfl;obtain ⟨p,v,hp,z,ab,aa,hv⟩:=BldRep.bat I.1 M;obtain ⟨v0,rfl⟩:∃ v0,o=#[v0]:=by
  have:=h.size;match o,this with
  | ⟨[a]⟩,_=>exact ⟨a,rfl⟩
 have J:=h.arg 0 _ v0 rfl rfl;cases J;refine (aww z).mono λe w' he=>?_;obtain ⟨rfl,O,Z⟩:=he;refine ⟨_,D,rfl,at6 I.1 h ?_ (λg H=>(hv g H).1) hp O Z (λg H=>Or.inl H)⟩;intro ad ae st';exact .str
end Go.Ab
