/- strings.Builder: what its methods do, every other block left alone. -/
import Derived.Test.YtcpkdafleaddlaaGreatDoorTryzShelf
import Derived.Lib.Strings
import Derived.Lib.Slices
import Derived.Lib.Walk
import Derived.Lib.Builder
import Derived.Lib.AppendStr
import Derived.Lib.UnsafeStr
import Derived.Lib.FrozenHead
import Derived.Laws.Externs
import Derived.Laws.BitsLemmas
set_option linter.unusedVariables false
set_option linter.unusedSimpArgs false
set_option linter.unnecessarySimpa false
namespace Go.Ab
open Go Go.Proofs Go.RowKit
structure Else (b:Nat) (g:Option Nat) (w w':World):Prop where
 os:w'.os=w.os
 tape:w'.tape=w.tape
 output:w'.output=w.output
 size:w.heap.size<=w'.heap.size
 block:∀ k,k<w.heap.size->k≠b->some k≠g->w'.heap[k]?=w.heap[k]?
def BAt (T:TypeId) (b:Nat) (p v:Value) (bs:Bq) (w:World):Prop:=
 w.heap[b]?=some (.cells #[p,v] T (0,0))/\w.ownsRowF 0 5 1 v bs.length (Lib.byteCells bs)/\v.ownBlock≠some b
theorem sizeBuilder:∃ j,Tryz.prog.info? 106=some j/\j.size=2:=by
 have h:(Tryz.prog.info? 106).map (λi=>i.size)=some 2:=by kernel_rfl
 obtain ⟨j,d,m⟩:=Option.map_eq_some_iff.1 h;exact ⟨j,d,m⟩
theorem atr {P:Program} (w:World) (t u V e:TypeId) (i:TypeInfo) (ht:P.underlying t=some (.slice e)) (hu:P.underlying u=some .string) (hi:P.info? e=some i) (hz:i.zero=some (.int .u8 0)) (d:i.size=1) (U:i.bytes=1)
 (v:Value) (n:Nat) (xs:List Value) (m:w.ownsRowF 0 e 1 v n xs) (s:ByteArray) (O:n+s.size<=maxLen) (o:n+s.size<=140737488355328) {v':Value}{w':World} (hr:(Builtin.append_ #[t,u] V #[v,.string s]).run P w=.ok v' w'):
 ∀ g,v'.ownBlock=some g->v.ownBlock=some g\/w.heap.size<=g:=by
 intro g M
 rcases m.2 with ⟨rfl,rfl⟩ | ⟨X,cap,W,fz,rfl,_,aa,Z,af,ae,Y,ab⟩
 ·obtain ⟨v2,w2,z,h2,_⟩:=Lib.run_append_own_string (P:=P) w w.heap.size t u V e i ht hu hi hz d U (.slice none 0 0) 0 xs ⟨m.1,.inl ⟨rfl,rfl⟩⟩ s O o (Nat.le_refl _);rw [hr] at z;cases z;rcases h2.2 with ⟨rfl,_⟩ | ⟨g1,c1,u1,rfl,hb,_⟩
  ·simp [Value.ownBlock] at M
  ·simp [Value.ownBlock] at M;subst M;exact Or.inr hb
 ·by_cases H:n+s.size<=cap
  ·have z:=Lib.run_append_room_stringF (P:=P) w t u V e i ht hu hi d X n cap W fz aa (by simpa using Z) s H (by rw [Y];omega);rw [hr] at z;cases z;exact Or.inl M
  ·have ad:xs.length=n:=by simpa using m.1
   have z:=Lib.run_append_grow_string (P:=P) w t u V e i (.int .u8 0) ht hu hi hz ⟨X,0,none⟩ n cap xs (by rw [d];simpa using ad) (m.cells (g:=X) rfl) s (by omega) (by unfold maxLen at O;omega) (by rw [U];exact growslice_fits (by omega) (by omega));rw [hr] at z;cases z;simp [Value.ownBlock] at M;subst M;exact Or.inr (Nat.le_refl _)
theorem alx {P:Program}{w:World}{ops:Array Oper}{H:List Oper}{o:Oper}{a:Act}{Q:Exit->Act->World->Prop} (V:o.guard=none) (sl x:Operand) (t u:TypeId)
 (ho:o.op=.call { callee:=.builtin .append,args:=#[sl,x],argTypes:=#[t,u] })
 (e:TypeId) (i:TypeInfo) (Y:P.underlying t=some (.slice e)) (Z:P.underlying u=some .string) (W:P.info? e=some i) (hz:i.zero=some (.int .u8 0)) (m:i.size=1) (O:i.bytes=1)
 (v:Value) (n:Nat) (xs:List Value) (hs:a.eval sl=v) (z:w.ownsRowF 0 e 1 v n xs) (s:ByteArray) (hx:a.eval x=.string s) (M:n+s.size<=maxLen) (d:n+s.size<=140737488355328)
 (h:∀ U w',w'.ownsRowF 0 e 1 U (n+s.size) (xs++Lib.strCells s)->w.grownBy w' v.ownBlock->(∀ g,U.ownBlock=some g->v.ownBlock=some g\/w.heap.size<=g)->wpList P ops Q H (a.put o.dst U) w'):wpList P ops Q (o::H) a w:=by
 refine wpList_plain V λK hK=>?_
 obtain ⟨U,w',X,h2,h3,_⟩:=Lib.run_append_own_stringF (P:=P) w 0 t u o.type e i Y Z W hz m O v n xs z s M d (Nat.zero_le _)
 have h5:=atr w t u o.type e i Y Z W hz m O v n xs z s M d X
 unfold Oper.wp execOp
 simp only [ho,resolve,invoke,builtin,Sem.run_bind,Sem.run_pure,Result.andThen_ok,List.map_toArray,Bk,List.map_nil,hs,hx,X]
 exact hK _ _ (h U w' h2 h3 h5)
set_option maxHeartbeats 1000000 in
set_option maxRecDepth 100000 in
theorem apj (b:Nat) (w:World) (m:w.cell? ⟨b,0,none⟩=some (.pointer (some ⟨b,0,none⟩))):
 Calls Tryz.prog 143 #[.pointer (some ⟨b,0,none⟩)] w λe w'=>e=.returned (.tuple #[])/\w'=w:=by
 obtain ⟨j,d,_⟩:=sizeBuilder
 go_enter Tryz.func143,Tryz.ntmps143
 go_wp2
 rw [Lib.run_neq_ptr_same w _ Tryz.underlying103 d]
 go_wp2
 go_end0
 exact ⟨rfl,rfl⟩
set_option maxHeartbeats 1000000 in
set_option maxRecDepth 100000 in
theorem ans (T:TypeId) (H:liesAt Tryz.prog Tryz.prog.depth T (2 / Tryz.prog.cellsOf T) 0 106 1=true) (b:Nat) (w:World) (M:w.cell? ⟨b,0,none⟩=some (.pointer none)) (d:w.shape? b=some (T,2)) (z:w.frozen? ⟨b,0,none⟩=false):
 Calls Tryz.prog 143 #[.pointer (some ⟨b,0,none⟩)] w λe w'=>e=.returned (.tuple #[])/\w'=w.setCell ⟨b,0,none⟩ (.pointer (some ⟨b,0,none⟩)):=by
 obtain ⟨j,o,m⟩:=sizeBuilder
 go_enter Tryz.func143,Tryz.ntmps143
 go_wp2
 rw [Lib.run_to_unsafe w ⟨b,0,none⟩ Tryz.underlying103 Tryz.underlying224 o (by rw [m];decide) d (Nat.zero_lt_succ 1)]
 simp only [Result.andThen]
 rw [Oper.upon_value]
 go_wp2
 rw [run_callFunc_extern Tryz.func247 (by kernel_rfl) (by kernel_rfl) (by kernel_rfl) (e:=Extern.AbiNoEscape.same) (by kernel_rfl)]
 rw [Lib.run_noEscape]
 simp only [Result.andThen]
 rw [Oper.upon_value]
 go_wp2
 rw [Lib.run_from_unsafe w ⟨b,0,none⟩ Tryz.underlying224 Tryz.underlying103 o d H]
 simp only [Result.andThen]
 rw [Oper.upon_value]
 go_wp2
 go_end0
 exact ⟨rfl,rfl⟩
theorem a8c:∃ i,Tryz.prog.info? 5=some i/\i.zero=some (.int .u8 0)/\i.size=1/\i.bytes=1:=by
 have h:(Tryz.prog.info? 5).map (λi=>(i.zero,i.size,i.bytes))=some (some (.int .u8 0),1,1):=by kernel_rfl
 obtain ⟨j,m,d⟩:=Option.map_eq_some_iff.1 h;simp only [Prod.mk.injEq] at d;exact ⟨j,m,d.1,d.2.1,d.2.2⟩
theorem ard {T:TypeId} (M:liesAt Tryz.prog Tryz.prog.depth T (2 / Tryz.prog.cellsOf T) 0 106 1=true) {b:Nat}{p v:Value}{bs:Bq}{w:World} (O:p=.pointer none\/p=.pointer (some ⟨b,0,none⟩)) (h:BAt T b p v bs w):
 Calls Tryz.prog 143 #[.pointer (some ⟨b,0,none⟩)] w λe w'=>e=.returned (.tuple #[])/\BAt T b (.pointer (some ⟨b,0,none⟩)) v bs w'/\Else b none w w':=by
 obtain ⟨d,H,m⟩:=h
 have z:w.cell? ⟨b,0,none⟩=some p:=by rw [Lib.cell_of_heap d];rfl
 rcases O with rfl | rfl
 ·refine (ans T M b w z (by simp [World.shape?,d]) (by simp [World.frozen?,d])).mono ?_;rintro e w' ⟨rfl,rfl⟩;refine ⟨rfl,⟨by simp [World.setCell,Array.getElem?_modify,d],?_,m⟩,rfl,rfl,rfl,by simp [World.setCell],λk _ o _=>Below.heap_setCell _ _ _ _ o⟩;exact H.kept (row:=some b) ⟨rfl,rfl,rfl,by simp [World.setCell],λk _ o=>Below.heap_setCell _ _ _ _ (λe=>o (by simp [e]))⟩ (Or.inr m)
 ·refine (apj b w z).mono ?_;rintro e w' ⟨rfl,rfl⟩;exact ⟨rfl,⟨d,H,m⟩,rfl,rfl,rfl,Nat.le_refl _,λ_ _ _ _=>rfl⟩
set_option maxHeartbeats 2000000 in
set_option maxRecDepth 100000 in
theorem apc {T:TypeId} (hl:liesAt Tryz.prog Tryz.prog.depth T (2 / Tryz.prog.cellsOf T) 0 106 1=true) {b:Nat}{p v:Value}{bs:Bq}{w:World} (hp:p=.pointer none\/p=.pointer (some ⟨b,0,none⟩)) (h:BAt T b p v bs w) (O:T≠5)
 (s:ByteArray) (ah:bs.length+s.size<=140737488355328):
 Calls Tryz.prog 66 #[.pointer (some ⟨b,0,none⟩),.string s] w λe w'=>e=.returned (.tuple #[.int .i64 s.size,.nilIface])/\∃ X,BAt T b (.pointer (some ⟨b,0,none⟩)) X (bs++s.data.toList) w'/\Else b v.ownBlock w w'/\
  (∀ g,X.ownBlock=some g->v.ownBlock=some g\/w.heap.size<=g):=by
 obtain ⟨i0,hi,ae,af,ag⟩:=a8c
 go_enter Tryz.func66,Tryz.ntmps66
 go_wp2_with (go_at_call 143;refine (ard hl hp h).mono ?_)
 rintro e Y ⟨rfl,h1,o⟩
 obtain ⟨H,W,ad⟩:=h1
 have c0:Y.cell? ⟨b,0,none⟩=some (.pointer (some ⟨b,0,none⟩)):=by rw [Lib.cell_of_heap H];rfl
 have c1:Y.cell? ⟨b,1,none⟩=some v:=by rw [Lib.cell_of_heap H];rfl
 go_wp2_with (at_builtin;refine alx rfl _ _ 104 9 rfl 5 i0 Tryz.underlying104 Tryz.underlying9 hi ae af ag _ _ _ rfl W s rfl ?c3 ?c4 ?_)
 case c3=>unfold maxLen;omega
 case c4=>omega
 intro X Z m d V
 have ab:b<Y.heap.size:=by
  rcases Nat.lt_or_ge b Y.heap.size with M | M
  ·exact M
  ·simp [Array.getElem?_eq_none M] at H
 have z:Z.heap[b]?=some (.cells #[.pointer (some ⟨b,0,none⟩),v] T (0,0)):=by rw [d.block b ab (λe=>ad e.symm)];exact H
 have d0:Z.cell? ⟨b,0,none⟩=some (.pointer (some ⟨b,0,none⟩)):=by rw [Lib.cell_of_heap z];rfl
 have d1:Z.cell? ⟨b,1,none⟩=some v:=by rw [Lib.cell_of_heap z];rfl
 have f1:Z.frozen? ⟨b,1,none⟩=false:=Lib.frozen_of_heap z 1
 obtain ⟨ao,n',cap,rfl⟩:∃ ao n' cap,X=.slice ao n' cap:=by
  rcases m.2 with ⟨hv,_⟩ | ⟨g,cap,ai,fz,hv,_⟩
  ·exact ⟨_,_,_,hv⟩
  ·exact ⟨_,_,_,hv⟩
 go_wp2
 go_ret2
 refine ⟨rfl,.slice ao n' cap,⟨by simp [World.setCell,Array.getElem?_modify,z],?_,?_⟩,⟨d.os.trans o.os,d.tape.trans o.tape,d.output.trans o.output,?_,λk hk U aa=>?_⟩,λg hg=>?_⟩
 ·have e1:bs.length+s.size=(bs++s.data.toList).length:=by rw [Bc];rfl
  rw [e1,Lib.strCells_eq,<-Lib.byteCells_append] at m;exact m.kept (row:=some b) ⟨rfl,rfl,rfl,by simp [World.setCell],λk _ hk=>Below.heap_setCell _ _ _ _ (λe=>hk (by simp [e]))⟩ (Or.inr (Lib.ownBlock_neF m z O))
 ·exact Lib.ownBlock_neF m z O
 ·have:=o.size;have:=d.size;simp [World.setCell];omega
 ·have:=o.size;rw [Below.heap_setCell _ _ _ _ U,d.block k (by omega) aa];exact o.block k hk U (by simp)
 ·rcases V g hg with M | M
  ·exact Or.inl M
  ·have:=o.size;exact Or.inr (by omega)
theorem BAt.frz {T:TypeId}{b:Nat}{p:Value}{bs:Bq}{w:World}{g cap:Nat} (h:BAt T b p (.slice (some ⟨g,0,none⟩) bs.length cap) bs w):BAt T b p (.slice (some ⟨g,0,none⟩) bs.length cap) bs (w.drew.freeze ⟨g,0,none⟩ bs.length):=by
 obtain ⟨m,U,z⟩:=h;have O:Lib.BuilderAtF T 5 0 b p (Lib.byteCells bs) w.drew:=⟨Nat.zero_le _,_,m,by rw [Lib.byteCells_length];exact U,z⟩;have M:w.drew.cell? ⟨b,1,none⟩=some (.slice (some ⟨g,0,none⟩) bs.length cap):=by have:w.drew.heap[b]?=some (.cells #[p,.slice (some ⟨g,0,none⟩) bs.length cap] T (0,0)):=m;rw [Lib.cell_of_heap this];rfl
 obtain ⟨_,v,d,H,V⟩:=O.froze (g:=g) (cap:=cap) (by rw [Lib.byteCells_length];exact M);rw [Lib.byteCells_length] at d H;have e:v=.slice (some ⟨g,0,none⟩) bs.length cap:=by
  have o:g≠b:=λe=>z (by simp [Value.ownBlock,e]);have:(w.drew.freeze ⟨g,0,none⟩ bs.length).heap[b]?=w.heap[b]?:=by
   unfold World.freeze;split
   ·rfl
   ·simp only [Array.getElem?_modify];rw [if_neg o];rfl
  rw [this,m] at d;simp only [Ak,Obj.cells.injEq] at d;have:=d.1;simp at this;exact this.symm
 subst e;exact ⟨d,H,V⟩
theorem awl (w:World) (b g n:Nat):Else b (some g) w (w.drew.freeze ⟨g,0,none⟩ n):=by
 unfold World.freeze;split
 ·exact ⟨rfl,rfl,rfl,Nat.le_refl _,λ_ _ _ _=>rfl⟩
 ·refine ⟨rfl,rfl,rfl,by simp,λk _ _ d=>?_⟩;simp only [Array.getElem?_modify];rw [if_neg (λe=>d (by simp [e]))];rfl
set_option maxHeartbeats 2000000 in
set_option maxRecDepth 100000 in
theorem ax2 {T:TypeId}{b g cap:Nat}{p:Value}{l:Bq}{w:World}{d:Array Value}{fz:Nat×Nat} (O:l≠[]) (o:w.heap[b]?=some (.cells #[p,.slice (some ⟨g,0,none⟩) l.length cap] T (0,0)))
 (m:w.ownsRowF 0 5 1 (.slice (some ⟨g,0,none⟩) l.length cap) l.length (Lib.byteCells l)) (U:w.heap[g]?=some (.cells d 5 fz)) (Y:l.length<=cap) (z:cap<=maxLen) (H:d.size=cap*1):
 Calls Tryz.prog 69 #[.pointer (some ⟨b,0,none⟩)] w λe w'=>e=.returned (.string ⟨l.toArray⟩)/\w'=w.drew.freeze ⟨g,0,none⟩ l.length:=by
 have X:l.length≠0:=by simpa using O
 have c1:w.drew.cell? ⟨b,1,none⟩=some (.slice (some ⟨g,0,none⟩) l.length cap):=by have:w.drew.heap[b]?=some (.cells #[p,.slice (some ⟨g,0,none⟩) l.length cap] T (0,0)):=o;rw [Lib.cell_of_heap this];rfl
 have V:(Builtin.unsafeSliceData_ #[104] 163 #[.slice (some ⟨g,0,none⟩) l.length cap]).run Tryz.prog w.drew=.ok (.pointer (some ⟨g,0,none⟩)) w.drew:=
  Lib.run_unsafeSliceData_row _ _ _ _ _ _ (by omega)
 have W:(Builtin.unsafeString_ #[163,3] 9 #[.pointer (some ⟨g,0,none⟩),.int .i64 l.length]).run Tryz.prog w.drew=.ok (.string ⟨l.toArray⟩) (w.drew.freeze ⟨g,0,none⟩ l.length):=by refine Lib.run_unsafeString_row w.drew 163 3 9 5 Tryz.underlying163 (by kernel_rfl) g d.size (by have M:w.drew.heap[g]?=some (.cells d 5 fz):=U;simp [World.shape?,M]) l O (by omega) (by unfold maxLen at z;omega) ?_;intro j x Z;exact m.cells (g:=g) rfl j (.int .u8 x.toNat) (by simp [Lib.byteCells,Z])
 clear m U H
 go_enter Tryz.func69,Tryz.ntmps69
 go_wp2
 go_region
 all_goals (go_wp2;go_ret;exact ⟨rfl,rfl⟩)
set_option maxHeartbeats 2000000 in
set_option maxRecDepth 100000 in
theorem a2e {T:TypeId}{b:Nat}{p:Value}{w:World} (d:w.heap[b]?=some (.cells #[p,.slice none 0 0] T (0,0))):
 Calls Tryz.prog 69 #[.pointer (some ⟨b,0,none⟩)] w λe w'=>e=.returned (.string ⟨#[]⟩)/\w'=w.drew:=by
 have o:=λW q=>Lib.run_unsafeString_none (P:=Tryz.prog) W 163 3 9 q
 have z:w.drew.cell? ⟨b,1,none⟩=some (.slice none 0 0):=by have:w.drew.heap[b]?=some (.cells #[p,.slice none 0 0] T (0,0)):=d;rw [Lib.cell_of_heap this];rfl
 have m:(Builtin.unsafeSliceData_ #[104] 163 #[.slice none 0 0]).run Tryz.prog w.drew=.ok (.pointer none) w.drew:=rfl
 go_enter Tryz.func69,Tryz.ntmps69
 go_wp2
 go_region
 all_goals (go_wp2;go_ret;exact ⟨rfl,rfl⟩)
set_option maxHeartbeats 2000000 in
set_option maxRecDepth 100000 in
theorem ax3 {T:TypeId}{b g cap:Nat}{p:Value}{w:World} (d:cap≠0) (m:w.heap[b]?=some (.cells #[p,.slice (some ⟨g,0,none⟩) 0 cap] T (0,0))):
 Calls Tryz.prog 69 #[.pointer (some ⟨b,0,none⟩)] w λe w'=>e=.returned (.string ⟨#[]⟩)/\w'=w.drew:=by
 have z:=λW q=>Lib.run_unsafeString_none (P:=Tryz.prog) W 163 3 9 q
 have H:w.drew.cell? ⟨b,1,none⟩=some (.slice (some ⟨g,0,none⟩) 0 cap):=by have:w.drew.heap[b]?=some (.cells #[p,.slice (some ⟨g,0,none⟩) 0 cap] T (0,0)):=m;rw [Lib.cell_of_heap this];rfl
 have o:(Builtin.unsafeSliceData_ #[104] 163 #[.slice (some ⟨g,0,none⟩) 0 cap]).run Tryz.prog w.drew=.ok (.pointer (some ⟨g,0,none⟩)) w.drew:=
  Lib.run_unsafeSliceData_row _ _ _ _ _ _ d
 clear d
 go_enter Tryz.func69,Tryz.ntmps69
 go_wp2
 go_region
 all_goals (go_wp2;go_ret;exact ⟨rfl,rfl⟩)
set_option maxHeartbeats 2000000 in
set_option maxRecDepth 100000 in
theorem as5 {T:TypeId}{b g:Nat}{p:Value}{w:World}{d:Array Value}{fz:Nat×Nat} (m:w.heap[b]?=some (.cells #[p,.slice (some ⟨g,0,none⟩) 0 0] T (0,0))) (X:w.heap[g]?=some (.cells d 5 fz)):
 Calls Tryz.prog 69 #[.pointer (some ⟨b,0,none⟩)] w λe w'=>e=.returned (.string ⟨#[]⟩)/\w'=w.drew.alloc (.view ⟨g,0,none⟩ 5):=by
 have V:=λW q=>Lib.run_unsafeString_none (P:=Tryz.prog) W 163 3 9 q
 have H:b<w.heap.size:=by
  rcases Nat.lt_or_ge b w.heap.size with o | o
  ·exact o
  ·simp [Array.getElem?_eq_none o] at m
 have M:w.drew.cell? ⟨b,1,none⟩=some (.slice (some ⟨g,0,none⟩) 0 0):=by have:w.drew.heap[b]?=some (.cells #[p,.slice (some ⟨g,0,none⟩) 0 0] T (0,0)):=m;rw [Lib.cell_of_heap this];rfl
 have U:(Builtin.unsafeSliceData_ #[104] 163 #[.slice (some ⟨g,0,none⟩) 0 0]).run Tryz.prog w.drew=.ok (.pointer (some ⟨w.drew.heap.size,0,none⟩)) (w.drew.alloc (.view ⟨g,0,none⟩ 5)):=
  Lib.run_unsafeSliceData_zero w.drew _ _ 5 Tryz.underlying163 ⟨g,0,none⟩ 0 (5,d.size) (by have z:w.drew.heap[g]?=some (.cells d 5 fz):=X;simp [World.shape?,z])
 have O:(w.drew.alloc (.view ⟨g,0,none⟩ 5)).cell? ⟨b,1,none⟩=some (.slice (some ⟨g,0,none⟩) 0 0):=by have:(w.drew.alloc (.view ⟨g,0,none⟩ 5)).heap[b]?=_:=(Lib.alloc_old w.drew _ b H).trans m;rw [Lib.cell_of_heap this];rfl
 have Z:(w.alloc (.view ⟨g,0,none⟩ 5)).drew.cell? ⟨b,1,none⟩=some (.slice (some ⟨g,0,none⟩) 0 0):=O
 have Y:w.cell? ⟨b,1,none⟩=some (.slice (some ⟨g,0,none⟩) 0 0):=M
 go_enter Tryz.func69,Tryz.ntmps69
 go_wp2
 go_region
 all_goals (go_wp2;go_ret;exact ⟨rfl,rfl⟩)
theorem a2d {T:TypeId}{b:Nat}{p v:Value}{bs:Bq}{w:World} (h:BAt T b p v bs w):
 Calls Tryz.prog 69 #[.pointer (some ⟨b,0,none⟩)] w λe w'=>e=.returned (.string ⟨bs.toArray⟩)/\BAt T b p v bs w'/\Else b v.ownBlock w w':=by
 have o:=h
 obtain ⟨d,m,V⟩:=h
 rcases m.2 with ⟨rfl,hz⟩ | ⟨g,cap,aa,fz,rfl,ab,Z,ad,U,H,M,W⟩
 ·have z:bs=[]:=by simpa using hz
  subst z;refine (a2e d).mono ?_;rintro e w' ⟨rfl,rfl⟩;exact ⟨rfl,o,rfl,rfl,rfl,Nat.le_refl _,λ_ _ _ _=>rfl⟩
 ·by_cases X:bs=[]
  ·subst X;by_cases Y:cap=0
   ·subst Y;refine (as5 d Z).mono ?_;rintro e w' ⟨rfl,rfl⟩;have O:b<w.heap.size:=(Array.getElem?_eq_some_iff.1 d).1;refine ⟨rfl,⟨(aa0 w.drew _ b O).trans d,World.ownsRowF.kept (w:=w.drew) m (World.grownBy_alloc w.drew _ none) (by simp [Value.ownBlock]),V⟩,rfl,rfl,rfl,by simp,λk hk _ _=>aa0 w.drew _ k hk⟩
   ·refine (ax3 Y d).mono ?_;rintro e w' ⟨rfl,rfl⟩;exact ⟨rfl,o,rfl,rfl,rfl,Nat.le_refl _,λ_ _ _ _=>rfl⟩
  ·refine (ax2 X d m Z U H M).mono ?_;rintro e w' ⟨rfl,rfl⟩;exact ⟨rfl,o.frz,awl w b g _⟩
theorem BldRep.bat {D:Dom}{w:World}{ow:Own}{μ:Nat->Nat}{k:Nat}{T:TypeId}{bs:Bq} (hT:ak9 Tryz.prog 3 T=5) (h:BldRep Tryz.prog D w ow μ k T bs):
 ∃ p v,(p=.pointer none\/p=.pointer (some ⟨μ k,0,none⟩))/\BAt T (μ k) p v bs w/\ow (μ k)=some k/\(∀ o,¬D (μ k) o)/\∀ g,v.ownBlock=some g->ow g=some k/\∀ o,¬D g o:=by
 obtain ⟨p,v,M,O,U,V,W⟩:=h
 rw [hT] at W
 rcases W with ⟨rfl,rfl⟩ | ⟨g,cap,H,fz,rfl,X,a4,Y,Z,a7,a8,a9,m,z⟩
 ·exact ⟨p,_,O,⟨M,⟨by simp [Lib.byteCells],Or.inl ⟨rfl,rfl⟩⟩,by simp [Value.ownBlock]⟩,U,V,λg d=>by simp [Value.ownBlock] at d⟩
 ·refine ⟨p,_,O,⟨M,⟨by simp [Lib.byteCells],Or.inr ⟨g,cap,H,fz,rfl,Nat.zero_le _,X,by omega,Y,Z,by omega,?_⟩⟩,by simp [Value.ownBlock,a9]⟩,U,V,λg' d=>?_⟩
  ·rw [Nat.mul_one];exact a8
  ·simp [Value.ownBlock] at d;subst d;exact ⟨m,z⟩
theorem BAt.rep {D:Dom}{w:World}{ow:Own}{μ:Nat->Nat}{k:Nat}{T:TypeId}{bs:Bq}{p v:Value} (W:ak9 Tryz.prog 3 T=5) (X:p=.pointer none\/p=.pointer (some ⟨μ k,0,none⟩)) (h:BAt T (μ k) p v bs w) (O:ow (μ k)=some k) (U:∀ o,¬D (μ k) o)
 (V:∀ g,v.ownBlock=some g->ow g=some k/\∀ o,¬D g o):BldRep Tryz.prog D w ow μ k T bs:=by
 obtain ⟨Z,q2,q3⟩:=h
 refine ⟨p,v,Z,X,O,U,?_⟩
 rw [W]
 rcases q2.2 with ⟨rfl,Y⟩ | ⟨g,cap,d,fz,rfl,_,z,a4,H,M,a7,m⟩
 ·exact Or.inl ⟨rfl,by simpa using Y⟩
 ·obtain ⟨r1,r2⟩:=V g rfl;exact Or.inr ⟨g,cap,d,fz,rfl,z,by omega,H,M,by omega,by rw [Nat.mul_one] at m;exact m,λe=>q3 (by simp [Value.ownBlock,e]),r1,r2⟩
theorem ayk {D:Dom}{w w':World}{ow:Own}{μ:Nat->Nat}{T:TypeId}{bs Y:Bq}{ai:List SV}{ah:Array Value}{rs:List SV}{r p' v X:Value} (hT:ak9 Tryz.prog 3 T=5) (H:Pre Tryz.prog D ow μ [.bld T bs] w ai ah)
 (af:atg Tryz.prog D w' (ad2 rs) r) (hv:∀ g,v.ownBlock=some g->ow g=some 0) (hp:p'=.pointer none\/p'=.pointer (some ⟨μ 0,0,none⟩)) (h:BAt T (μ 0) p' X Y w') (W:Else (μ 0) v.ownBlock w w') (hg:∀ g,X.ownBlock=some g->v.ownBlock=some g\/w.heap.size<=g):
 Post Tryz.prog D w ow μ [.bld T bs] rs [.bld T Y] r D w':=by
 have h0:=H.objs.obj 0 _ rfl
 obtain ⟨p,v0,am,ak,ae,aa,_⟩:=BldRep.bat hT h0
 have ad:μ 0<w'.heap.size:=(Array.getElem?_eq_some_iff.1 h.1).1
 have aj:∀ g,X.ownBlock=some g->g<w'.heap.size:=λg hg=>(h.2.1.lt g hg).2
 have O:∀ b,ow b=some 0->∀ o,¬D b o:=λb ob o d=>H.objs.lone b 0 _ ob rfl (by simp) o d
 have ag:∀ b,b<w.heap.size->ow b=none->w'.heap[b]?=w.heap[b]?:=λb m hn=>W.block b m (λe=>by rw [e,ae] at hn;cases hn) (λe=>by have:=hv b e.symm;rw [hn] at this;cases this)
 have V:∀ b o,D b o->ow b=none:=λb o d=>by
  cases m:ow b with
  | none=>rfl
  | some k=>
   have M:=(H.objs.owlt b k m).2;have:k=0:=by simp at M;omega
   subst this;exact absurd d (O b m o)
 have U:∀ b,(b=μ 0\/X.ownBlock=some b)->∀ o,¬D b o:=λb z o d=>by
  rcases z with rfl | z
  ·exact aa o d
  ·rcases hg b z with Z | Z
   ·exact O b (hv b Z) o d
   ·have:=H.dlt b o d;omega
 refine ⟨λ_ _ d=>d,λ_ _ d=>Or.inl d,⟨λb=>if b=μ 0\/X.ownBlock=some b then some 0 else none,μ,⟨λk b M=>?_,λb k m=>?_,λb o d=>Aw (H.dlt b o d) W.size,λb k x m _ _ o d=>?_⟩,(aic (af _ _ _)).1,λb k m al=>?_,λk b M=>?_,λk E g xs ys M=>?_⟩,W.os,W.tape,W.output,W.size,ag,Keeps.of_heap λb o d=>ag b (H.dlt b o d) (V b o d)⟩
 ·cases k with
  | zero=>cases M;exact BAt.rep (ow:=λb=>if b=μ 0\/X.ownBlock=some b then some 0 else none) hT hp h (if_pos (Or.inl rfl)) aa (λg ab=>⟨if_pos (Or.inr ab),U g (Or.inr ab)⟩)
  | succ k=>simp at M
 ·split at m
  ·rename_i z;cases m;refine ⟨?_,by simp⟩;rcases z with rfl | z
   ·exact ad
   ·exact aj b z
  ·cases m
 ·split at m
  ·rename_i z;exact U b z o d
  ·cases m
 ·split at m
  ·rename_i z;cases m;rcases z with rfl | z
   ·exact ae
   ·rcases hg b z with Z | Z
    ·exact hv b Z
    ·omega
  ·cases m
 ·cases k with
  | zero=>cases M;exact ⟨_,rfl,rfl,λ_ _=>rfl⟩
  | succ k=>simp at M
 ·cases k with
  | zero=>cases M
  | succ k=>simp at M
def bb0 (T:TypeId):Prop:=ak9 Tryz.prog 3 T=5/\T≠5/\liesAt Tryz.prog Tryz.prog.depth T (2 / Tryz.prog.cellsOf T) 0 106 1=true
theorem aly {T:TypeId} (M:bb0 T) (bs s:Bq) (z:bs.length+s.length<=140737488355328):Meets Tryz.prog 66 [.bref 0 106,.str s] [.bld T bs] [.int .i64 s.length,.raw .nilIface] [.bld T (bs++s)]:=by
 refine ⟨aa5 Tryz.func66 (by kernel_rfl) (by kernel_rfl),λD ow μ w m d=>?_⟩;have X:=d.objs.obj 0 _ rfl;obtain ⟨p,v,hp,O,ab,aa,hv⟩:=BldRep.bat M.1 X;obtain ⟨v0,U,rfl⟩:∃ v0 U,m=#[v0,U]:=by
  have:=d.size;match m,this with
  | ⟨[a,b]⟩,_=>exact ⟨a,b,rfl⟩
 have V:=d.arg 0 _ v0 rfl rfl;have W:=d.arg 1 _ U rfl rfl;cases V;cases W;refine (apc M.2.2 hp O M.2.1 ⟨s.toArray⟩ (by simpa [ByteArray.size] using z)).mono λe w' he=>?_;obtain ⟨rfl,v',Y,Z,h3⟩:=he;refine ⟨_,D,rfl,ayk M.1 d ?_ (λg hg=>(hv g hg).1) (Or.inr rfl) Y Z h3⟩;intro ad ae st';refine .tup rfl (λi s' u o H=>?_);match i,o,H with
 | 0,o,H=>cases o;cases H;exact .int
 | 1,o,H=>cases o;cases H;exact .raw
theorem avm {T:TypeId} (H:bb0 T) (bs:Bq):Meets Tryz.prog 69 [.bref 0 106] [.bld T bs] [.str bs] [.bld T bs]:=by
 refine ⟨aa5 Tryz.func69 (by kernel_rfl) (by kernel_rfl),λD ow μ w m d=>?_⟩;have O:=d.objs.obj 0 _ rfl;obtain ⟨p,v,Z,o,Y,W,hv⟩:=BldRep.bat H.1 O;obtain ⟨v0,rfl⟩:∃ v0,m=#[v0]:=by
  have:=d.size;match m,this with
  | ⟨[a]⟩,_=>exact ⟨a,rfl⟩
 have M:=d.arg 0 _ v0 rfl rfl;cases M;refine (a2d o).mono λe w' X=>?_;obtain ⟨rfl,U,V⟩:=X;refine ⟨_,D,rfl,ayk H.1 d ?_ (λg z=>(hv g z).1) Z U V (λg z=>Or.inl z)⟩;intro aa ab st';exact .str
end Go.Ab
