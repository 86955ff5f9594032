/- strings.Builder: what its methods do, every other block left alone. -/
import Derived.Test.YticdffgjgfmicaaGreatDoorTryzShelfG
import Derived.Lib.Strings
import Derived.Lib.Slices
import Derived.Lib.Walk
import Derived.Lib.Builder
import Derived.Lib.AppendStr
import Derived.Lib.UnsafeStr
import Derived.Lib.FrozenHead
import Derived.Laws.Externs
import Derived.Laws.BitsLemmas
set_option linter.unusedVariables false
set_option linter.unusedSimpArgs false
set_option linter.unnecessarySimpa false
namespace Go.Ab
open Go Go.Proofs Go.RowKit
structure Else(b:Nat)(g:Option Nat)(w w':World):Prop where
 os:w'.os=w.os
 tape:w'.tape=w.tape
 output:w'.output=w.output
 size:w.heap.size<=w'.heap.size
 block:∀k,k<w.heap.size->k≠b->some k≠g->w'.heap[k]?=w.heap[k]?
def BAt(T:TypeId)(b:Nat)(p v:Value)(bs:Bn)(w:World):Prop:=
 w.heap[b]?=some (.cells #[p,v] T (0,0))/\w.ownsRowF 0 5 1 v bs.length (Lib.byteCells bs)/\v.ownBlock≠some b
theorem sizeBuilder:∃j,Tryz.prog.info? 235=some j/\j.size=2:=by
 have h:(Tryz.prog.info? 235).map (λi=>i.size)=some 2:=by kernel_rfl
 grind[Option.map_eq_some_iff]
theorem av2{P:Program}(w:World)(t u J e:TypeId)(i:TypeInfo)(ht:P.underlying t=some (.slice e))(hu:P.underlying u=some .string)(Y:P.info? e=some i)(hz:i.zero=some (.int .u8 0))(o:i.size=1)(I:i.bytes=1)
 (v:Value) (n:Nat) (xs:List Value) (m:w.ownsRowF 0 e 1 v n xs) (s:ByteArray) (U:n+s.size<=maxLen) (z:n+s.size<=140737488355328) {v':Value}{w':World} (Z:(Builtin.append_ #[t,u] J #[v,.string s]).run P w=.ok v' w'):
 ∀g,v'.ownBlock=some g->v.ownBlock=some g\/w.heap.size<=g:=by
 intro g hg
 rcases m.2 with⟨rfl,rfl⟩|⟨O,cap,M,fz,rfl,_,X,W,ad,ab,V,aa⟩
 ·obtain⟨v2,w2,G,h2,_⟩:=Lib.run_append_own_string (P:=P) w w.heap.size t u J e i ht hu Y hz o I (.slice none 0 0) 0 xs ⟨m.1,.inl ⟨rfl,rfl⟩⟩ s U z (Nat.le_refl _);rw[Z]at G;cases G;rcases h2.2 with⟨rfl,_⟩|⟨g1,c1,u1,rfl,hb,_⟩;all_goals grind[Value.ownBlock]
 ·by_cases H:n+s.size<=cap
  ·have G:=Lib.run_append_room_stringF (P:=P) w t u J e i ht hu Y o O n cap M fz X (by simpa using W) s H (by rw[V];omega);rw[Z]at G;cases G;exact Or.inl hg
  ·have ae:xs.length=n:=by grind
   have G:=Lib.run_append_grow_string (P:=P) w t u J e i (.int .u8 0) ht hu Y hz ⟨O,0,none⟩ n cap xs (by grind) (m.cells (g:=O) rfl) s (by omega) (by grind) (by rw[I];exact growslice_fits (by omega) (by omega));rw[Z]at G;cases G;simp[Value.ownBlock]at hg;grind
theorem am8{P:Program}{w:World}{ops:Array Oper}{H:List Oper}{o:Oper}{a:Act}{Q:Exit->Act->World->Prop}(O:o.guard=none)(Z x:Operand)(t u:TypeId)
 (ho:o.op=.call { callee:=.builtin .append,args:=#[Z,x],argTypes:=#[t,u] })
 (e:TypeId) (i:TypeInfo) (W:P.underlying t=some (.slice e)) (X:P.underlying u=some .string) (U:P.info? e=some i) (Y:i.zero=some (.int .u8 0)) (z:i.size=1) (J:i.bytes=1)
 (v:Value) (n:Nat) (xs:List Value) (hs:a.eval Z=v) (G:w.ownsRowF 0 e 1 v n xs) (s:ByteArray) (hx:a.eval x=.string s) (I:n+s.size<=maxLen) (m:n+s.size<=140737488355328)
 (h:∀M w',w'.ownsRowF 0 e 1 M (n+s.size) (xs++Lib.strCells s)->w.grownBy w' v.ownBlock->(∀g,M.ownBlock=some g->v.ownBlock=some g\/w.heap.size<=g)->wpList P ops Q H (a.put o.dst M) w'):wpList P ops Q (o::H) a w:=by
 refine wpList_plain O λK hK=>?_
 obtain⟨M,w',V,h2,h3,_⟩:=Lib.run_append_own_stringF (P:=P) w 0 t u o.type e i W X U Y z J v n xs G s I m (Nat.zero_le _)
 have h5:=av2 w t u o.type e i W X U Y z J v n xs G s I m V
 unfold Oper.wp execOp
 simp only[ho,resolve,invoke,builtin,Sem.run_bind,Sem.run_pure,Result.andThen_ok,List.map_toArray,Bl,List.map_nil,hs,hx,V]
 exact hK _ _ (h M w' h2 h3 h5)
set_option maxHeartbeats 1000000 in
set_option maxRecDepth 100000 in
theorem arp(b:Nat)(w:World)(o:w.cell? ⟨b,0,none⟩=some (.pointer (some ⟨b,0,none⟩))):
 Calls Tryz.prog 364 #[.pointer (some ⟨b,0,none⟩)] w λe w'=>e=.returned (.tuple #[])/\w'=w:=by
 obtain⟨j,m,_⟩:=sizeBuilder
 go_enter Tryz.func364,Tryz.ntmps364
 go_wp2
 rw[Lib.run_neq_ptr_same w _ Tryz.underlying232 m]
 go_wp2
 go_end0
 grind
set_option maxHeartbeats 1000000 in
set_option maxRecDepth 100000 in
theorem ao8(T:TypeId)(G:liesAt Tryz.prog Tryz.prog.depth T (2 / Tryz.prog.cellsOf T) 0 235 1=true)(b:Nat)(w:World)(H:w.cell? ⟨b,0,none⟩=some (.pointer none))(m:w.shape? b=some (T,2))(z:w.frozen? ⟨b,0,none⟩=false):
 Calls Tryz.prog 364 #[.pointer (some ⟨b,0,none⟩)] w λe w'=>e=.returned (.tuple #[])/\w'=w.setCell ⟨b,0,none⟩ (.pointer (some ⟨b,0,none⟩)):=by
 obtain⟨j,t,o⟩:=sizeBuilder
 go_enter Tryz.func364,Tryz.ntmps364
 go_wp2
 rw[Lib.run_to_unsafe w ⟨b,0,none⟩ Tryz.underlying232 Tryz.underlying181 t (by rw[o];decide) m (Nat.zero_lt_succ 1)]
 simp only[Result.andThen]
 rw[Oper.upon_value]
 go_wp2
 rw[run_callFunc_extern Tryz.func408 (by kernel_rfl) (by kernel_rfl) (by kernel_rfl) (e:=Extern.AbiNoEscape.same) (by kernel_rfl)]
 rw[Lib.run_noEscape]
 simp only[Result.andThen]
 rw[Oper.upon_value]
 go_wp2
 rw[Lib.run_from_unsafe w ⟨b,0,none⟩ Tryz.underlying181 Tryz.underlying232 t m G]
 simp only[Result.andThen]
 rw[Oper.upon_value]
 go_wp2
 go_end0
 grind
theorem bcg:∃i,Tryz.prog.info? 5=some i/\i.zero=some (.int .u8 0)/\i.size=1/\i.bytes=1:=by
 have h:(Tryz.prog.info? 5).map (λi=>(i.zero,i.size,i.bytes))=some (some (.int .u8 0),1,1):=by kernel_rfl
 grind[Option.map_eq_some_iff,Prod.mk.injEq]
theorem atw{T:TypeId}(H:liesAt Tryz.prog Tryz.prog.depth T (2 / Tryz.prog.cellsOf T) 0 235 1=true){b:Nat}{p v:Value}{bs:Bn}{w:World}(I:p=.pointer none\/p=.pointer (some ⟨b,0,none⟩))(h:BAt T b p v bs w):
 Calls Tryz.prog 364 #[.pointer (some ⟨b,0,none⟩)] w λe w'=>e=.returned (.tuple #[])/\BAt T b (.pointer (some ⟨b,0,none⟩)) v bs w'/\Else b none w w':=by
 obtain⟨m,G,o⟩:=h
 have z:w.cell? ⟨b,0,none⟩=some p:=by rw[Lib.cell_of_heap m];rfl
 rcases I with rfl|rfl
 ·refine(ao8 T H b w z (by simp[World.shape?,m]) (by simp[World.frozen?,m])).mono ?_;rintro e w' ⟨rfl,rfl⟩;refine⟨rfl,⟨by simp[World.setCell,Array.getElem?_modify,m],?_,o⟩,rfl,rfl,rfl,by simp[World.setCell],λk _ t _=>Below.heap_setCell _ _ _ _ t⟩;exact G.kept (row:=some b) ⟨rfl,rfl,rfl,by simp[World.setCell],λk _ t=>Below.heap_setCell _ _ _ _ (λe=>t (by simp[e]))⟩ (Or.inr o)
 ·refine(arp b w z).mono ?_;rintro e w' ⟨rfl,rfl⟩;exact⟨rfl,⟨m,G,o⟩,rfl,rfl,rfl,Nat.le_refl _,λ_ _ _ _=>rfl⟩
set_option maxHeartbeats 2000000 in
set_option maxRecDepth 100000 in
theorem ark{T:TypeId}(hl:liesAt Tryz.prog Tryz.prog.depth T (2 / Tryz.prog.cellsOf T) 0 235 1=true){b:Nat}{p v:Value}{bs:Bn}{w:World}(hp:p=.pointer none\/p=.pointer (some ⟨b,0,none⟩))(h:BAt T b p v bs w)(V:T≠5)
 (s:ByteArray) (ae:bs.length+s.size<=140737488355328):
 Calls Tryz.prog 287 #[.pointer (some ⟨b,0,none⟩),.string s] w λe w'=>e=.returned (.tuple #[.int .i64 s.size,.nilIface])/\∃M,BAt T b (.pointer (some ⟨b,0,none⟩)) M (bs++s.data.toList) w'/\Else b v.ownBlock w w'/\
  (∀g,M.ownBlock=some g->v.ownBlock=some g\/w.heap.size<=g):=by
 obtain⟨i0,hi,aa,ab,ad⟩:=bcg
 go_enter Tryz.func287,Tryz.ntmps287
 go_wp2_with (go_at_call 364;refine(atw hl hp h).mono ?_)
 rintro e w1 ⟨rfl,h1,t⟩
 obtain⟨G,J,Z⟩:=h1
 have c0:w1.cell? ⟨b,0,none⟩=some (.pointer (some ⟨b,0,none⟩)):=by rw[Lib.cell_of_heap G];rfl
 have c1:w1.cell? ⟨b,1,none⟩=some v:=by rw[Lib.cell_of_heap G];rfl
 go_wp2_with (at_builtin;refine am8 rfl _ _ 233 9 rfl 5 i0 Tryz.underlying233 Tryz.underlying9 hi aa ab ad _ _ _ rfl J s rfl ?c3 ?c4 ?_)
 case c3=>unfold maxLen;omega
 case c4=>omega
 intro M O o m I
 have Y:b<w1.heap.size:=by grind
 have z:O.heap[b]?=some (.cells #[.pointer (some ⟨b,0,none⟩),v] T (0,0)):=by rw[m.block b Y (λe=>Z e.symm)];exact G
 have d0:O.cell? ⟨b,0,none⟩=some (.pointer (some ⟨b,0,none⟩)):=by rw[Lib.cell_of_heap z];rfl
 have d1:O.cell? ⟨b,1,none⟩=some v:=by rw[Lib.cell_of_heap z];rfl
 have f1:O.frozen? ⟨b,1,none⟩=false:=Lib.frozen_of_heap z 1
 obtain⟨U,n',cap,rfl⟩:∃U n' cap,M=.slice U n' cap:=by rcases o.2 with⟨hv,_⟩|⟨g,cap,af,fz,hv,_⟩;all_goals grind
 go_wp2
 go_ret2
 refine⟨rfl,.slice U n' cap,⟨by simp[World.setCell,Array.getElem?_modify,z],?_,?_⟩,⟨m.os.trans t.os,m.tape.trans t.tape,m.output.trans t.output,?_,λk W H X=>?_⟩,λg hg=>?_⟩
 ·have e1:bs.length+s.size=(bs++s.data.toList).length:=by simp_all
  rw[e1,Lib.strCells_eq,<-Lib.byteCells_append]at o;exact o.kept (row:=some b) ⟨rfl,rfl,rfl,by simp[World.setCell],λk _ W=>Below.heap_setCell _ _ _ _ (λe=>W (by simp[e]))⟩ (Or.inr (Lib.ownBlock_neF o z V))
 ·grind
 ·have:=t.size;have:=m.size;grind[World.setCell]
 ·have:=t.size;rw[Below.heap_setCell _ _ _ _ H,m.block k (by omega) X];exact t.block k W H (by simp)
 ·rcases I g hg with h'|h'
  ·exact Or.inl h'
  ·have:=t.size;grind
theorem BAt.frz{T:TypeId}{b:Nat}{p:Value}{bs:Bn}{w:World}{g cap:Nat}(h:BAt T b p (.slice (some ⟨g,0,none⟩) bs.length cap) bs w):BAt T b p (.slice (some ⟨g,0,none⟩) bs.length cap) bs (w.drew.freeze ⟨g,0,none⟩ bs.length):=by
 obtain⟨o,I,t⟩:=h;have H:Lib.BuilderAtF T 5 0 b p (Lib.byteCells bs) w.drew:=⟨Nat.zero_le _,_,o,by rw[Lib.byteCells_length];exact I,t⟩;have M:w.drew.cell? ⟨b,1,none⟩=some (.slice (some ⟨g,0,none⟩) bs.length cap):=by have:w.drew.heap[b]?=some (.cells #[p,.slice (some ⟨g,0,none⟩) bs.length cap] T (0,0)):=o;rw[Lib.cell_of_heap this];rfl
 obtain⟨_,v,z,G,J⟩:=H.froze (g:=g) (cap:=cap) (by grind[Lib.byteCells_length]);rw[Lib.byteCells_length]at z G;have e:v=.slice (some ⟨g,0,none⟩) bs.length cap:=by
  have m:g≠b:=λe=>t (by simp[Value.ownBlock,e]);have:(w.drew.freeze ⟨g,0,none⟩ bs.length).heap[b]?=w.heap[b]?:=by
   unfold World.freeze;split
   ·rfl
   ·simp only[Array.getElem?_modify];rw[if_neg m];rfl
  grind
 subst e;exact⟨z,G,J⟩
theorem ay6(w:World)(b g n:Nat):Else b (some g) w (w.drew.freeze ⟨g,0,none⟩ n):=by
 unfold World.freeze;split
 ·exact⟨rfl,rfl,rfl,Nat.le_refl _,λ_ _ _ _=>rfl⟩
 ·refine⟨rfl,rfl,rfl,by simp,λk _ _ m=>?_⟩;simp only[Array.getElem?_modify];rw[if_neg (λe=>m (by simp[e]))];rfl
set_option maxHeartbeats 2000000 in
set_option maxRecDepth 100000 in
theorem a0q{T:TypeId}{b g cap:Nat}{p:Value}{l:Bn}{w:World}{m:Array Value}{fz:Nat×Nat}(H:l≠[])(t:w.heap[b]?=some (.cells #[p,.slice (some ⟨g,0,none⟩) l.length cap] T (0,0)))
 (o:w.ownsRowF 0 5 1 (.slice (some ⟨g,0,none⟩) l.length cap) l.length (Lib.byteCells l)) (I:w.heap[g]?=some (.cells m 5 fz)) (V:l.length<=cap) (O:cap<=maxLen) (z:m.size=cap*1):
 Calls Tryz.prog 183 #[.pointer (some ⟨b,0,none⟩)] w λe w'=>e=.returned (.string ⟨l.toArray⟩)/\w'=w.drew.freeze ⟨g,0,none⟩ l.length:=by
 have U:l.length≠0:=by simpa using H
 have X:w.drew.cell? ⟨b,1,none⟩=some (.slice (some ⟨g,0,none⟩) l.length cap):=by have:w.drew.heap[b]?=some (.cells #[p,.slice (some ⟨g,0,none⟩) l.length cap] T (0,0)):=t;rw[Lib.cell_of_heap this];rfl
 have J:(Builtin.unsafeSliceData_ #[233] 309 #[.slice (some ⟨g,0,none⟩) l.length cap]).run Tryz.prog w.drew=.ok (.pointer (some ⟨g,0,none⟩)) w.drew:=
  Lib.run_unsafeSliceData_row _ _ _ _ _ _ (by omega)
 have M:(Builtin.unsafeString_ #[309,3] 9 #[.pointer (some ⟨g,0,none⟩),.int .i64 l.length]).run Tryz.prog w.drew=.ok (.string ⟨l.toArray⟩) (w.drew.freeze ⟨g,0,none⟩ l.length):=by refine Lib.run_unsafeString_row w.drew 309 3 9 5 Tryz.underlying309 (by kernel_rfl) g m.size (by have G:w.drew.heap[g]?=some (.cells m 5 fz):=I;simp[World.shape?,G]) l H (by omega) (by grind[maxLen]) ?_;intro j x W;exact o.cells (g:=g) rfl j (.int .u8 x.toNat) (by simp[Lib.byteCells,W])
 clear o I z
 go_enter Tryz.func183,Tryz.ntmps183
 go_wp2
 go_region
 all_goals(go_wp2;go_ret;exact⟨rfl,rfl⟩)
set_option maxHeartbeats 2000000 in
set_option maxRecDepth 100000 in
theorem a5y{T:TypeId}{b:Nat}{p:Value}{w:World}(m:w.heap[b]?=some (.cells #[p,.slice none 0 0] T (0,0))):
 Calls Tryz.prog 183 #[.pointer (some ⟨b,0,none⟩)] w λe w'=>e=.returned (.string ⟨#[]⟩)/\w'=w.drew:=by
 have t:=λW q=>Lib.run_unsafeString_none (P:=Tryz.prog) W 309 3 9 q
 have z:w.drew.cell? ⟨b,1,none⟩=some (.slice none 0 0):=by have:w.drew.heap[b]?=some (.cells #[p,.slice none 0 0] T (0,0)):=m;rw[Lib.cell_of_heap this];rfl
 have o:(Builtin.unsafeSliceData_ #[233] 309 #[.slice none 0 0]).run Tryz.prog w.drew=.ok (.pointer none) w.drew:=rfl
 go_enter Tryz.func183,Tryz.ntmps183
 go_wp2
 go_region
 all_goals(go_wp2;go_ret;exact⟨rfl,rfl⟩)
set_option maxHeartbeats 2000000 in
set_option maxRecDepth 100000 in
theorem a0r{T:TypeId}{b g cap:Nat}{p:Value}{w:World}(m:cap≠0)(o:w.heap[b]?=some (.cells #[p,.slice (some ⟨g,0,none⟩) 0 cap] T (0,0))):
 Calls Tryz.prog 183 #[.pointer (some ⟨b,0,none⟩)] w λe w'=>e=.returned (.string ⟨#[]⟩)/\w'=w.drew:=by
 have z:=λW q=>Lib.run_unsafeString_none (P:=Tryz.prog) W 309 3 9 q
 have G:w.drew.cell? ⟨b,1,none⟩=some (.slice (some ⟨g,0,none⟩) 0 cap):=by have:w.drew.heap[b]?=some (.cells #[p,.slice (some ⟨g,0,none⟩) 0 cap] T (0,0)):=o;rw[Lib.cell_of_heap this];rfl
 have t:(Builtin.unsafeSliceData_ #[233] 309 #[.slice (some ⟨g,0,none⟩) 0 cap]).run Tryz.prog w.drew=.ok (.pointer (some ⟨g,0,none⟩)) w.drew:=
  Lib.run_unsafeSliceData_row _ _ _ _ _ _ m
 clear m
 go_enter Tryz.func183,Tryz.ntmps183
 go_wp2
 go_region
 all_goals(go_wp2;go_ret;exact⟨rfl,rfl⟩)
set_option maxHeartbeats 2000000 in
set_option maxRecDepth 100000 in
theorem avl{T:TypeId}{b g:Nat}{p:Value}{w:World}{m:Array Value}{fz:Nat×Nat}(o:w.heap[b]?=some (.cells #[p,.slice (some ⟨g,0,none⟩) 0 0] T (0,0)))(M:w.heap[g]?=some (.cells m 5 fz)):
 Calls Tryz.prog 183 #[.pointer (some ⟨b,0,none⟩)] w λe w'=>e=.returned (.string ⟨#[]⟩)/\w'=w.drew.alloc (.view ⟨g,0,none⟩ 5):=by
 have J:=λW q=>Lib.run_unsafeString_none (P:=Tryz.prog) W 309 3 9 q
 have z:b<w.heap.size:=by grind
 have G:w.drew.cell? ⟨b,1,none⟩=some (.slice (some ⟨g,0,none⟩) 0 0):=by have:w.drew.heap[b]?=some (.cells #[p,.slice (some ⟨g,0,none⟩) 0 0] T (0,0)):=o;rw[Lib.cell_of_heap this];rfl
 have I:(Builtin.unsafeSliceData_ #[233] 309 #[.slice (some ⟨g,0,none⟩) 0 0]).run Tryz.prog w.drew=.ok (.pointer (some ⟨w.drew.heap.size,0,none⟩)) (w.drew.alloc (.view ⟨g,0,none⟩ 5)):=
  Lib.run_unsafeSliceData_zero w.drew _ _ 5 Tryz.underlying309 ⟨g,0,none⟩ 0 (5,m.size) (by have t:w.drew.heap[g]?=some (.cells m 5 fz):=M;simp[World.shape?,t])
 have H:(w.drew.alloc (.view ⟨g,0,none⟩ 5)).cell? ⟨b,1,none⟩=some (.slice (some ⟨g,0,none⟩) 0 0):=by have:(w.drew.alloc (.view ⟨g,0,none⟩ 5)).heap[b]?=_:=(Lib.alloc_old w.drew _ b z).trans o;rw[Lib.cell_of_heap this];rfl
 have U:(w.alloc (.view ⟨g,0,none⟩ 5)).drew.cell? ⟨b,1,none⟩=some (.slice (some ⟨g,0,none⟩) 0 0):=H
 have O:w.cell? ⟨b,1,none⟩=some (.slice (some ⟨g,0,none⟩) 0 0):=G
 go_enter Tryz.func183,Tryz.ntmps183
 go_wp2
 go_region
 all_goals(go_wp2;go_ret;exact⟨rfl,rfl⟩)
theorem a5x{T:TypeId}{b:Nat}{p v:Value}{bs:Bn}{w:World}(h:BAt T b p v bs w):
 Calls Tryz.prog 183 #[.pointer (some ⟨b,0,none⟩)] w λe w'=>e=.returned (.string ⟨bs.toArray⟩)/\BAt T b p v bs w'/\Else b v.ownBlock w w':=by
 have t:=h
 obtain⟨m,o,M⟩:=h
 rcases o.2 with⟨rfl,hz⟩|⟨g,cap,X,fz,rfl,Y,W,Z,J,G,H,O⟩
 ·have z:bs=[]:=by simpa using hz
  subst z;refine(a5y m).mono ?_;rintro e w' ⟨rfl,rfl⟩;exact⟨rfl,t,rfl,rfl,rfl,Nat.le_refl _,λ_ _ _ _=>rfl⟩
 ·by_cases U:bs=[]
  ·subst U;by_cases V:cap=0
   ·subst V;refine(avl m W).mono ?_;rintro e w' ⟨rfl,rfl⟩;have I:b<w.heap.size:=(Array.getElem?_eq_some_iff.1 m).1;refine⟨rfl,⟨(aa8 w.drew _ b I).trans m,World.ownsRowF.kept (w:=w.drew) o (World.grownBy_alloc w.drew _ none) (by grind),M⟩,rfl,rfl,rfl,by simp,λk hk _ _=>aa8 w.drew _ k hk⟩
   ·refine(a0r V m).mono ?_;rintro e w' ⟨rfl,rfl⟩;exact⟨rfl,t,rfl,rfl,rfl,Nat.le_refl _,λ_ _ _ _=>rfl⟩
  ·refine(a0q U m o W J G H).mono ?_;rintro e w' ⟨rfl,rfl⟩;exact⟨rfl,t.frz,ay6 w b g _⟩
theorem BldRep.bat{D:Dom}{w:World}{ow:Own}{μ:Nat->Nat}{k:Nat}{T:TypeId}{bs:Bn}(Y:ami Tryz.prog 3 T=5)(h:BldRep Tryz.prog D w ow μ k T bs):
 ∃p v,(p=.pointer none\/p=.pointer (some ⟨μ k,0,none⟩))/\BAt T (μ k) p v bs w/\ow (μ k)=some k/\(∀o,¬D (μ k) o)/\∀g,v.ownBlock=some g->ow g=some k/\∀o,¬D g o:=by
 obtain⟨p,v,t,z,G,H,I⟩:=h
 rw[Y]at I
 rcases I with⟨rfl,rfl⟩|⟨g,cap,m,fz,rfl,O,a4,U,V,a7,W,X,J,M⟩
 ·exact⟨p,_,z,⟨t,⟨by simp[Lib.byteCells],Or.inl ⟨rfl,rfl⟩⟩,by simp[Value.ownBlock]⟩,G,H,λg Z=>by grind[Value.ownBlock]⟩
 ·refine⟨p,_,z,⟨t,⟨by simp[Lib.byteCells],Or.inr ⟨g,cap,m,fz,rfl,Nat.zero_le _,O,by omega,U,V,by omega,?_⟩⟩,by simp[Value.ownBlock,X]⟩,G,H,λg' Z=>?_⟩
  ·rw[Nat.mul_one];exact W
  grind[Value.ownBlock]
theorem BAt.rep{D:Dom}{w:World}{ow:Own}{μ:Nat->Nat}{k:Nat}{T:TypeId}{bs:Bn}{p v:Value}(O:ami Tryz.prog 3 T=5)(U:p=.pointer none\/p=.pointer (some ⟨μ k,0,none⟩))(h:BAt T (μ k) p v bs w)(I:ow (μ k)=some k)(J:∀o,¬D (μ k) o)
 (M:∀g,v.ownBlock=some g->ow g=some k/\∀o,¬D g o):BldRep Tryz.prog D w ow μ k T bs:=by
 obtain⟨V,W,X⟩:=h
 refine⟨p,v,V,U,I,J,?_⟩
 rw[O]
 rcases W.2 with⟨rfl,hz⟩|⟨g,cap,m,fz,rfl,_,z,a4,G,H,a7,t⟩
 ·grind
 ·obtain⟨Y,Z⟩:=M g rfl;exact Or.inr ⟨g,cap,m,fz,rfl,z,by omega,G,H,by omega,by rw[Nat.mul_one]at t;exact t,λe=>X (by simp[Value.ownBlock,e]),Y,Z⟩
theorem ats{D:Dom}{w w':World}{ow:Own}{μ:Nat->Nat}{T:TypeId}{bs J:Bn}{Y:List SV}{X:Array Value}{rs:List SV}{r p' v I:Value}(hT:ami Tryz.prog 3 T=5)(m:Pre Tryz.prog D ow μ [.bld T bs] w Y X)
 (U:a6f Tryz.prog D w' (adp rs) r) (hv:∀g,v.ownBlock=some g->ow g=some 0) (hp:p'=.pointer none\/p'=.pointer (some ⟨μ 0,0,none⟩)) (h:BAt T (μ 0) p' I J w') (H:Else (μ 0) v.ownBlock w w') (hg:∀g,I.ownBlock=some g->v.ownBlock=some g\/w.heap.size<=g):
 Post Tryz.prog D w ow μ [.bld T bs] rs [.bld T J] r D w':=by
 have h0:=m.objs.obj 0 _ rfl
 obtain⟨p,v0,ah,ae,ag,M,_⟩:=BldRep.bat hT h0
 have aa:μ 0<w'.heap.size:=(Array.getElem?_eq_some_iff.1 h.1).1
 have ad:∀g,I.ownBlock=some g->g<w'.heap.size:=λg hg=>(h.2.1.lt g hg).2
 have ab:∀b,ow b=some 0->∀o,¬D b o:=λb ob o d=>m.objs.lone b 0 _ ob rfl (by simp) o d
 have V:∀b,b<w.heap.size->ow b=none->w'.heap[b]?=w.heap[b]?:=λb G hn=>H.block b G (λe=>by grind) (λe=>by grind)
 have z:∀b o,D b o->ow b=none:=λb o d=>by
  cases G:ow b with
  |none=>rfl
  |some k=>have t:=(m.objs.owlt b k G).2;grind
 have W:∀b,(b=μ 0\/I.ownBlock=some b)->∀o,¬D b o:=λb Z o d=>by
  rcases Z with rfl|Z
  ·exact M o d
  ·rcases hg b Z with h1|h1
   ·grind
   ·have:=m.dlt b o d;omega
 refine⟨λ_ _ d=>d,λ_ _ d=>Or.inl d,⟨λb=>if b=μ 0\/I.ownBlock=some b then some 0 else none,μ,⟨λk b t=>?_,λb k G=>?_,λb o d=>A2 (m.dlt b o d) H.size,λb k x G _ _ o d=>?_⟩,(agw (U _ _ _)).1,λb k G af=>?_,λk b t=>?_,λk E g xs ys t=>?_⟩,H.os,H.tape,H.output,H.size,V,Keeps.of_heap λb o d=>V b (m.dlt b o d) (z b o d)⟩
 ·cases k with
  |zero=>cases t;exact BAt.rep (ow:=λb=>if b=μ 0\/I.ownBlock=some b then some 0 else none) hT hp h (if_pos (Or.inl rfl)) M (λg O=>⟨if_pos (Or.inr O),W g (Or.inr O)⟩)
  |succ k=>simp at t
 ·grind
 ·grind
 ·grind
 ·cases k with
  |zero=>cases t;exact⟨_,rfl,rfl,λ_ _=>rfl⟩
  |succ k=>simp at t
 grind
def a6e(T:TypeId):Prop:=ami Tryz.prog 3 T=5/\T≠5/\liesAt Tryz.prog Tryz.prog.depth T (2 / Tryz.prog.cellsOf T) 0 235 1=true
theorem agy{T:TypeId}(G:a6e T)(bs s:Bn)(J:bs.length+s.length<=140737488355328):Meets Tryz.prog 287 [.bref 0 235,.str s] [.bld T bs] [.int .i64 s.length,.raw .nilIface] [.bld T (bs++s)]:=by
 refine⟨abc Tryz.func287 (by kernel_rfl) (by kernel_rfl),λD ow μ w o m=>?_⟩;have U:=m.objs.obj 0 _ rfl;obtain⟨p,v,hp,H,aa,Y,hv⟩:=BldRep.bat G.1 U;obtain⟨v0,I,rfl⟩:∃v0 I,o=#[v0,I]:=by
  have:=m.size;match o,this with
  |⟨[a,b]⟩,_=>grind
 have M:=m.arg 0 _ v0 rfl rfl;have O:=m.arg 1 _ I rfl rfl;cases M;cases O;refine(ark G.2.2 hp H G.2.1 ⟨s.toArray⟩ (by grind[ByteArray.size])).mono λe w' Z=>?_;obtain⟨rfl,v',V,W,X⟩:=Z;refine⟨_,D,rfl,ats G.1 m ?_ (λg hg=>(hv g hg).1) (Or.inr rfl) V W X⟩;intro ab ad st';refine .tup rfl (λi s' u t z=>?_);match i,t,z with
 |0,t,z=>cases t;cases z;exact .int
 |1,t,z=>cases t;cases z;exact .raw
theorem anz{T:TypeId}(G:a6e T)(bs:Bn):Meets Tryz.prog 183 [.bref 0 235] [.bld T bs] [.str bs] [.bld T bs]:=by
 refine⟨abc Tryz.func183 (by kernel_rfl) (by kernel_rfl),λD ow μ w o m=>?_⟩;have I:=m.objs.obj 0 _ rfl;obtain⟨p,v,W,t,V,O,X⟩:=BldRep.bat G.1 I;obtain⟨v0,rfl⟩:∃v0,o=#[v0]:=by
  have:=m.size;match o,this with
  |⟨[a]⟩,_=>grind
 have H:=m.arg 0 _ v0 rfl rfl;cases H;refine(a5x t).mono λe w' U=>?_;obtain⟨rfl,J,M⟩:=U;refine⟨_,D,rfl,ats G.1 m ?_ (λg z=>(X g z).1) W J M (λg z=>Or.inl z)⟩;intro Y Z st';exact .str
set_option maxHeartbeats 1000000 in
theorem bhh{T:TypeId}{b:Nat}{p v:Value}{bs:Bn}{w:World}(h:BAt T b p v bs w):
 Calls Tryz.prog 290 #[.pointer (some ⟨b,0,none⟩)] w λe w'=>e=.returned (.int .i64 bs.length)/\w'=w:=by
 obtain⟨t,m,z⟩:=h
 obtain⟨o,cap,rfl⟩:∃o cap,v=.slice o bs.length cap:=by rcases m.2 with⟨H,J⟩|⟨g,cap,G,fz,H,_⟩;all_goals grind
 have I:w.cell? ⟨b,1,none⟩=some (.slice o bs.length cap):=by rw[Lib.cell_of_heap t];rfl
 clear m z
 go_enter Tryz.func290,Tryz.ntmps290
 go_wp2
 go_ret
 exact⟨rfl,rfl⟩
theorem a9k{T:TypeId}(G:a6e T)(bs:Bn):Meets Tryz.prog 290 [.bref 0 235] [.bld T bs] [.int .i64 bs.length] [.bld T bs]:=by
 refine⟨abc Tryz.func290 (by kernel_rfl) (by kernel_rfl),λD ow μ w o m=>?_⟩;have I:=m.objs.obj 0 _ rfl;obtain⟨p,v,U,t,O,J,V⟩:=BldRep.bat G.1 I;obtain⟨v0,rfl⟩:∃v0,o=#[v0]:=by
  have:=m.size;match o,this with
  |⟨[a]⟩,_=>grind
 have H:=m.arg 0 _ v0 rfl rfl;cases H;refine(bhh t).mono λe w' M=>?_;obtain⟨rfl,rfl⟩:=M;refine⟨_,D,rfl,ats G.1 m ?_ (λg z=>(V g z).1) U t ⟨rfl,rfl,rfl,Nat.le_refl _,λ_ _ _ _=>rfl⟩ (λg z=>Or.inl z)⟩;intro W X st';exact .int
end Go.Ab
