/- strings.Builder: what its methods do, every other block left alone. -/
import Derived.Test.YtofplaamkkpciaaGreatDoorTryzShelf
import Derived.Lib.Strings
import Derived.Lib.Slices
import Derived.Lib.Walk
import Derived.Lib.Builder
import Derived.Lib.AppendStr
import Derived.Lib.UnsafeStr
import Derived.Lib.FrozenHead
import Derived.Laws.Externs
import Derived.Laws.BitsLemmas
set_option linter.unusedVariables false
set_option linter.unusedSimpArgs false
set_option linter.unnecessarySimpa false
namespace Go.Ab
open Go Go.Proofs Go.RowKit
structure Else(b:Nat)(g:Option Nat)(w w':World):Prop where
 os:w'.os=w.os
 tape:w'.tape=w.tape
 output:w'.output=w.output
 size:w.heap.size<=w'.heap.size
 block:∀k,k<w.heap.size->k≠b->some k≠g->w'.heap[k]?=w.heap[k]?
def BAt(T:TypeId)(b:Nat)(p v:Value)(bs:Bn)(w:World):Prop:=
 w.heap[b]?=some (.cells #[p,v] T (0,0))/\w.ownsRowF 0 5 1 v bs.length (Lib.byteCells bs)/\v.ownBlock≠some b
theorem sizeBuilder:∃j,Tryz.prog.info? 258=some j/\j.size=2:=by
 have h:(Tryz.prog.info? 258).map (λi=>i.size)=some 2:=by kernel_rfl
 obtain⟨j,m,o⟩:=Option.map_eq_some_iff.1 h;exact⟨j,m,o⟩
theorem awu{P:Program}(w:World)(t u O e:TypeId)(i:TypeInfo)(ht:P.underlying t=some (.slice e))(hu:P.underlying u=some .string)(Z:P.info? e=some i)(hz:i.zero=some (.int .u8 0))(m:i.size=1)(M:i.bytes=1)
 (v:Value) (n:Nat) (xs:List Value) (o:w.ownsRowF 0 e 1 v n xs) (s:ByteArray) (J:n+s.size<=maxLen) (z:n+s.size<=140737488355328) {v':Value}{w':World} (hr:(Builtin.append_ #[t,u] O #[v,.string s]).run P w=.ok v' w'):
 ∀g,v'.ownBlock=some g->v.ownBlock=some g\/w.heap.size<=g:=by
 intro g I
 rcases o.2 with⟨rfl,rfl⟩|⟨V,cap,U,fz,rfl,_,Y,X,ae,ad,W,aa⟩
 ·obtain⟨v2,w2,G,h2,_⟩:=Lib.run_append_own_string (P:=P) w w.heap.size t u O e i ht hu Z hz m M (.slice none 0 0) 0 xs ⟨o.1,.inl ⟨rfl,rfl⟩⟩ s J z (Nat.le_refl _);rw[hr]at G;cases G;rcases h2.2 with⟨rfl,_⟩|⟨g1,c1,u1,rfl,hb,_⟩
  ·simp[Value.ownBlock]at I
  ·simp[Value.ownBlock]at I;subst I;exact Or.inr hb
 ·by_cases H:n+s.size<=cap
  ·have G:=Lib.run_append_room_stringF (P:=P) w t u O e i ht hu Z m V n cap U fz Y (by simpa using X) s H (by rw[W];omega);rw[hr]at G;cases G;exact Or.inl I
  ·have ab:xs.length=n:=by simpa using o.1
   have G:=Lib.run_append_grow_string (P:=P) w t u O e i (.int .u8 0) ht hu Z hz ⟨V,0,none⟩ n cap xs (by rw[m];simpa using ab) (o.cells (g:=V) rfl) s (by omega) (by unfold maxLen at J;omega) (by rw[M];exact growslice_fits (by omega) (by omega));rw[hr]at G;cases G;simp[Value.ownBlock]at I;subst I;exact Or.inr (Nat.le_refl _)
theorem anr{P:Program}{w:World}{ops:Array Oper}{H:List Oper}{o:Oper}{a:Act}{Q:Exit->Act->World->Prop}(O:o.guard=none)(Z x:Operand)(t u:TypeId)
 (ho:o.op=.call { callee:=.builtin .append,args:=#[Z,x],argTypes:=#[t,u] })
 (e:TypeId) (i:TypeInfo) (W:P.underlying t=some (.slice e)) (X:P.underlying u=some .string) (U:P.info? e=some i) (Y:i.zero=some (.int .u8 0)) (z:i.size=1) (J:i.bytes=1)
 (v:Value) (n:Nat) (xs:List Value) (hs:a.eval Z=v) (G:w.ownsRowF 0 e 1 v n xs) (s:ByteArray) (hx:a.eval x=.string s) (I:n+s.size<=maxLen) (m:n+s.size<=140737488355328)
 (h:∀M w',w'.ownsRowF 0 e 1 M (n+s.size) (xs++Lib.strCells s)->w.grownBy w' v.ownBlock->(∀g,M.ownBlock=some g->v.ownBlock=some g\/w.heap.size<=g)->wpList P ops Q H (a.put o.dst M) w'):wpList P ops Q (o::H) a w:=by
 refine wpList_plain O λK hK=>?_
 obtain⟨M,w',V,h2,h3,_⟩:=Lib.run_append_own_stringF (P:=P) w 0 t u o.type e i W X U Y z J v n xs G s I m (Nat.zero_le _)
 have h5:=awu w t u o.type e i W X U Y z J v n xs G s I m V
 unfold Oper.wp execOp
 simp only[ho,resolve,invoke,builtin,Sem.run_bind,Sem.run_pure,Result.andThen_ok,List.map_toArray,Bl,List.map_nil,hs,hx,V]
 exact hK _ _ (h M w' h2 h3 h5)
set_option maxHeartbeats 1000000 in
set_option maxRecDepth 100000 in
theorem asa(b:Nat)(w:World)(o:w.cell? ⟨b,0,none⟩=some (.pointer (some ⟨b,0,none⟩))):
 Calls Tryz.prog 395 #[.pointer (some ⟨b,0,none⟩)] w λe w'=>e=.returned (.tuple #[])/\w'=w:=by
 obtain⟨j,m,_⟩:=sizeBuilder
 go_enter Tryz.func395,Tryz.ntmps395
 go_wp2
 rw[Lib.run_neq_ptr_same w _ Tryz.underlying255 m]
 go_wp2
 go_end0
 exact⟨rfl,rfl⟩
set_option maxHeartbeats 1000000 in
set_option maxRecDepth 100000 in
theorem apv(T:TypeId)(G:liesAt Tryz.prog Tryz.prog.depth T (2 / Tryz.prog.cellsOf T) 0 258 1=true)(b:Nat)(w:World)(H:w.cell? ⟨b,0,none⟩=some (.pointer none))(m:w.shape? b=some (T,2))(z:w.frozen? ⟨b,0,none⟩=false):
 Calls Tryz.prog 395 #[.pointer (some ⟨b,0,none⟩)] w λe w'=>e=.returned (.tuple #[])/\w'=w.setCell ⟨b,0,none⟩ (.pointer (some ⟨b,0,none⟩)):=by
 obtain⟨j,t,o⟩:=sizeBuilder
 go_enter Tryz.func395,Tryz.ntmps395
 go_wp2
 rw[Lib.run_to_unsafe w ⟨b,0,none⟩ Tryz.underlying255 Tryz.underlying385 t (by rw[o];decide) m (Nat.zero_lt_succ 1)]
 simp only[Result.andThen]
 rw[Oper.upon_value]
 go_wp2
 rw[run_callFunc_extern Tryz.func440 (by kernel_rfl) (by kernel_rfl) (by kernel_rfl) (e:=Extern.AbiNoEscape.same) (by kernel_rfl)]
 rw[Lib.run_noEscape]
 simp only[Result.andThen]
 rw[Oper.upon_value]
 go_wp2
 rw[Lib.run_from_unsafe w ⟨b,0,none⟩ Tryz.underlying385 Tryz.underlying255 t m G]
 simp only[Result.andThen]
 rw[Oper.upon_value]
 go_wp2
 go_end0
 exact⟨rfl,rfl⟩
theorem bdf:∃i,Tryz.prog.info? 5=some i/\i.zero=some (.int .u8 0)/\i.size=1/\i.bytes=1:=by
 have h:(Tryz.prog.info? 5).map (λi=>(i.zero,i.size,i.bytes))=some (some (.int .u8 0),1,1):=by kernel_rfl
 obtain⟨j,o,m⟩:=Option.map_eq_some_iff.1 h;simp only[Prod.mk.injEq]at m;exact⟨j,o,m.1,m.2.1,m.2.2⟩
theorem auk{T:TypeId}(H:liesAt Tryz.prog Tryz.prog.depth T (2 / Tryz.prog.cellsOf T) 0 258 1=true){b:Nat}{p v:Value}{bs:Bn}{w:World}(I:p=.pointer none\/p=.pointer (some ⟨b,0,none⟩))(h:BAt T b p v bs w):
 Calls Tryz.prog 395 #[.pointer (some ⟨b,0,none⟩)] w λe w'=>e=.returned (.tuple #[])/\BAt T b (.pointer (some ⟨b,0,none⟩)) v bs w'/\Else b none w w':=by
 obtain⟨m,G,o⟩:=h
 have z:w.cell? ⟨b,0,none⟩=some p:=by rw[Lib.cell_of_heap m];rfl
 rcases I with rfl|rfl
 ·refine(apv T H b w z (by simp[World.shape?,m]) (by simp[World.frozen?,m])).mono ?_;rintro e w' ⟨rfl,rfl⟩;refine⟨rfl,⟨by simp[World.setCell,Array.getElem?_modify,m],?_,o⟩,rfl,rfl,rfl,by simp[World.setCell],λk _ t _=>Below.heap_setCell _ _ _ _ t⟩;exact G.kept (row:=some b) ⟨rfl,rfl,rfl,by simp[World.setCell],λk _ t=>Below.heap_setCell _ _ _ _ (λe=>t (by simp[e]))⟩ (Or.inr o)
 ·refine(asa b w z).mono ?_;rintro e w' ⟨rfl,rfl⟩;exact⟨rfl,⟨m,G,o⟩,rfl,rfl,rfl,Nat.le_refl _,λ_ _ _ _=>rfl⟩
set_option maxHeartbeats 2000000 in
set_option maxRecDepth 100000 in
theorem ar5{T:TypeId}(hl:liesAt Tryz.prog Tryz.prog.depth T (2 / Tryz.prog.cellsOf T) 0 258 1=true){b:Nat}{p v:Value}{bs:Bn}{w:World}(hp:p=.pointer none\/p=.pointer (some ⟨b,0,none⟩))(h:BAt T b p v bs w)(I:T≠5)
 (s:ByteArray) (ag:bs.length+s.size<=140737488355328):
 Calls Tryz.prog 314 #[.pointer (some ⟨b,0,none⟩),.string s] w λe w'=>e=.returned (.tuple #[.int .i64 s.size,.nilIface])/\∃U,BAt T b (.pointer (some ⟨b,0,none⟩)) U (bs++s.data.toList) w'/\Else b v.ownBlock w w'/\
  (∀g,U.ownBlock=some g->v.ownBlock=some g\/w.heap.size<=g):=by
 obtain⟨i0,hi,ad,ae,af⟩:=bdf
 go_enter Tryz.func314,Tryz.ntmps314
 go_wp2_with (go_at_call 395;refine(auk hl hp h).mono ?_)
 rintro e V ⟨rfl,h1,t⟩
 obtain⟨G,O,ab⟩:=h1
 have c0:V.cell? ⟨b,0,none⟩=some (.pointer (some ⟨b,0,none⟩)):=by rw[Lib.cell_of_heap G];rfl
 have c1:V.cell? ⟨b,1,none⟩=some v:=by rw[Lib.cell_of_heap G];rfl
 go_wp2_with (at_builtin;refine anr rfl _ _ 256 9 rfl 5 i0 Tryz.underlying256 Tryz.underlying9 hi ad ae af _ _ _ rfl O s rfl ?c3 ?c4 ?_)
 case c3=>unfold maxLen;omega
 case c4=>omega
 intro U W o m M
 have aa:b<V.heap.size:=by
  rcases Nat.lt_or_ge b V.heap.size with H|H
  ·exact H
  ·simp[Array.getElem?_eq_none H]at G
 have z:W.heap[b]?=some (.cells #[.pointer (some ⟨b,0,none⟩),v] T (0,0)):=by rw[m.block b aa (λe=>ab e.symm)];exact G
 have d0:W.cell? ⟨b,0,none⟩=some (.pointer (some ⟨b,0,none⟩)):=by rw[Lib.cell_of_heap z];rfl
 have d1:W.cell? ⟨b,1,none⟩=some v:=by rw[Lib.cell_of_heap z];rfl
 have f1:W.frozen? ⟨b,1,none⟩=false:=Lib.frozen_of_heap z 1
 obtain⟨X,n',cap,rfl⟩:∃X n' cap,U=.slice X n' cap:=by
  rcases o.2 with⟨hv,_⟩|⟨g,cap,ah,fz,hv,_⟩
  ·exact⟨_,_,_,hv⟩
  ·exact⟨_,_,_,hv⟩
 go_wp2
 go_ret2
 refine⟨rfl,.slice X n' cap,⟨by simp[World.setCell,Array.getElem?_modify,z],?_,?_⟩,⟨m.os.trans t.os,m.tape.trans t.tape,m.output.trans t.output,?_,λk Y J Z=>?_⟩,λg hg=>?_⟩
 ·have e1:bs.length+s.size=(bs++s.data.toList).length:=by rw[Ak];rfl
  rw[e1,Lib.strCells_eq,<-Lib.byteCells_append]at o;exact o.kept (row:=some b) ⟨rfl,rfl,rfl,by simp[World.setCell],λk _ Y=>Below.heap_setCell _ _ _ _ (λe=>Y (by simp[e]))⟩ (Or.inr (Lib.ownBlock_neF o z I))
 ·exact Lib.ownBlock_neF o z I
 ·have:=t.size;have:=m.size;simp[World.setCell];omega
 ·have:=t.size;rw[Below.heap_setCell _ _ _ _ J,m.block k (by omega) Z];exact t.block k Y J (by simp)
 ·rcases M g hg with H|H
  ·exact Or.inl H
  ·have:=t.size;exact Or.inr (by omega)
theorem BAt.frz{T:TypeId}{b:Nat}{p:Value}{bs:Bn}{w:World}{g cap:Nat}(h:BAt T b p (.slice (some ⟨g,0,none⟩) bs.length cap) bs w):BAt T b p (.slice (some ⟨g,0,none⟩) bs.length cap) bs (w.drew.freeze ⟨g,0,none⟩ bs.length):=by
 obtain⟨o,J,z⟩:=h;have I:Lib.BuilderAtF T 5 0 b p (Lib.byteCells bs) w.drew:=⟨Nat.zero_le _,_,o,by rw[Lib.byteCells_length];exact J,z⟩;have H:w.drew.cell? ⟨b,1,none⟩=some (.slice (some ⟨g,0,none⟩) bs.length cap):=by have:w.drew.heap[b]?=some (.cells #[p,.slice (some ⟨g,0,none⟩) bs.length cap] T (0,0)):=o;rw[Lib.cell_of_heap this];rfl
 obtain⟨_,v,m,G,M⟩:=I.froze (g:=g) (cap:=cap) (by rw[Lib.byteCells_length];exact H);rw[Lib.byteCells_length]at m G;have e:v=.slice (some ⟨g,0,none⟩) bs.length cap:=by
  have t:g≠b:=λe=>z (by simp[Value.ownBlock,e]);have:(w.drew.freeze ⟨g,0,none⟩ bs.length).heap[b]?=w.heap[b]?:=by
   unfold World.freeze;split
   ·rfl
   ·simp only[Array.getElem?_modify];rw[if_neg t];rfl
  rw[this,o]at m;simp only[Aj,Obj.cells.injEq]at m;have:=m.1;simp at this;exact this.symm
 subst e;exact⟨m,G,M⟩
theorem azz(w:World)(b g n:Nat):Else b (some g) w (w.drew.freeze ⟨g,0,none⟩ n):=by
 unfold World.freeze;split
 ·exact⟨rfl,rfl,rfl,Nat.le_refl _,λ_ _ _ _=>rfl⟩
 ·refine⟨rfl,rfl,rfl,by simp,λk _ _ m=>?_⟩;simp only[Array.getElem?_modify];rw[if_neg (λe=>m (by simp[e]))];rfl
set_option maxHeartbeats 2000000 in
set_option maxRecDepth 100000 in
theorem a1o{T:TypeId}{b g cap:Nat}{p:Value}{l:Bn}{w:World}{m:Array Value}{fz:Nat×Nat}(I:l≠[])(t:w.heap[b]?=some (.cells #[p,.slice (some ⟨g,0,none⟩) l.length cap] T (0,0)))
 (o:w.ownsRowF 0 5 1 (.slice (some ⟨g,0,none⟩) l.length cap) l.length (Lib.byteCells l)) (J:w.heap[g]?=some (.cells m 5 fz)) (V:l.length<=cap) (z:cap<=maxLen) (G:m.size=cap*1):
 Calls Tryz.prog 214 #[.pointer (some ⟨b,0,none⟩)] w λe w'=>e=.returned (.string ⟨l.toArray⟩)/\w'=w.drew.freeze ⟨g,0,none⟩ l.length:=by
 have U:l.length≠0:=by simpa using I
 have X:w.drew.cell? ⟨b,1,none⟩=some (.slice (some ⟨g,0,none⟩) l.length cap):=by have:w.drew.heap[b]?=some (.cells #[p,.slice (some ⟨g,0,none⟩) l.length cap] T (0,0)):=t;rw[Lib.cell_of_heap this];rfl
 have M:(Builtin.unsafeSliceData_ #[256] 323 #[.slice (some ⟨g,0,none⟩) l.length cap]).run Tryz.prog w.drew=.ok (.pointer (some ⟨g,0,none⟩)) w.drew:=
  Lib.run_unsafeSliceData_row _ _ _ _ _ _ (by omega)
 have O:(Builtin.unsafeString_ #[323,3] 9 #[.pointer (some ⟨g,0,none⟩),.int .i64 l.length]).run Tryz.prog w.drew=.ok (.string ⟨l.toArray⟩) (w.drew.freeze ⟨g,0,none⟩ l.length):=by refine Lib.run_unsafeString_row w.drew 323 3 9 5 Tryz.underlying323 (by kernel_rfl) g m.size (by have H:w.drew.heap[g]?=some (.cells m 5 fz):=J;simp[World.shape?,H]) l I (by omega) (by unfold maxLen at z;omega) ?_;intro j x W;exact o.cells (g:=g) rfl j (.int .u8 x.toNat) (by simp[Lib.byteCells,W])
 clear o J G
 go_enter Tryz.func214,Tryz.ntmps214
 go_wp2
 go_region
 all_goals(go_wp2;go_ret;exact⟨rfl,rfl⟩)
set_option maxHeartbeats 2000000 in
set_option maxRecDepth 100000 in
theorem a7d{T:TypeId}{b:Nat}{p:Value}{w:World}(m:w.heap[b]?=some (.cells #[p,.slice none 0 0] T (0,0))):
 Calls Tryz.prog 214 #[.pointer (some ⟨b,0,none⟩)] w λe w'=>e=.returned (.string ⟨#[]⟩)/\w'=w.drew:=by
 have t:=λW q=>Lib.run_unsafeString_none (P:=Tryz.prog) W 323 3 9 q
 have z:w.drew.cell? ⟨b,1,none⟩=some (.slice none 0 0):=by have:w.drew.heap[b]?=some (.cells #[p,.slice none 0 0] T (0,0)):=m;rw[Lib.cell_of_heap this];rfl
 have o:(Builtin.unsafeSliceData_ #[256] 323 #[.slice none 0 0]).run Tryz.prog w.drew=.ok (.pointer none) w.drew:=rfl
 go_enter Tryz.func214,Tryz.ntmps214
 go_wp2
 go_region
 all_goals(go_wp2;go_ret;exact⟨rfl,rfl⟩)
set_option maxHeartbeats 2000000 in
set_option maxRecDepth 100000 in
theorem a1p{T:TypeId}{b g cap:Nat}{p:Value}{w:World}(m:cap≠0)(o:w.heap[b]?=some (.cells #[p,.slice (some ⟨g,0,none⟩) 0 cap] T (0,0))):
 Calls Tryz.prog 214 #[.pointer (some ⟨b,0,none⟩)] w λe w'=>e=.returned (.string ⟨#[]⟩)/\w'=w.drew:=by
 have z:=λW q=>Lib.run_unsafeString_none (P:=Tryz.prog) W 323 3 9 q
 have G:w.drew.cell? ⟨b,1,none⟩=some (.slice (some ⟨g,0,none⟩) 0 cap):=by have:w.drew.heap[b]?=some (.cells #[p,.slice (some ⟨g,0,none⟩) 0 cap] T (0,0)):=o;rw[Lib.cell_of_heap this];rfl
 have t:(Builtin.unsafeSliceData_ #[256] 323 #[.slice (some ⟨g,0,none⟩) 0 cap]).run Tryz.prog w.drew=.ok (.pointer (some ⟨g,0,none⟩)) w.drew:=
  Lib.run_unsafeSliceData_row _ _ _ _ _ _ m
 clear m
 go_enter Tryz.func214,Tryz.ntmps214
 go_wp2
 go_region
 all_goals(go_wp2;go_ret;exact⟨rfl,rfl⟩)
set_option maxHeartbeats 2000000 in
set_option maxRecDepth 100000 in
theorem awa{T:TypeId}{b g:Nat}{p:Value}{w:World}{m:Array Value}{fz:Nat×Nat}(o:w.heap[b]?=some (.cells #[p,.slice (some ⟨g,0,none⟩) 0 0] T (0,0)))(O:w.heap[g]?=some (.cells m 5 fz)):
 Calls Tryz.prog 214 #[.pointer (some ⟨b,0,none⟩)] w λe w'=>e=.returned (.string ⟨#[]⟩)/\w'=w.drew.alloc (.view ⟨g,0,none⟩ 5):=by
 have M:=λW q=>Lib.run_unsafeString_none (P:=Tryz.prog) W 323 3 9 q
 have G:b<w.heap.size:=by
  rcases Nat.lt_or_ge b w.heap.size with t|t
  ·exact t
  ·simp[Array.getElem?_eq_none t]at o
 have H:w.drew.cell? ⟨b,1,none⟩=some (.slice (some ⟨g,0,none⟩) 0 0):=by have:w.drew.heap[b]?=some (.cells #[p,.slice (some ⟨g,0,none⟩) 0 0] T (0,0)):=o;rw[Lib.cell_of_heap this];rfl
 have J:(Builtin.unsafeSliceData_ #[256] 323 #[.slice (some ⟨g,0,none⟩) 0 0]).run Tryz.prog w.drew=.ok (.pointer (some ⟨w.drew.heap.size,0,none⟩)) (w.drew.alloc (.view ⟨g,0,none⟩ 5)):=
  Lib.run_unsafeSliceData_zero w.drew _ _ 5 Tryz.underlying323 ⟨g,0,none⟩ 0 (5,m.size) (by have z:w.drew.heap[g]?=some (.cells m 5 fz):=O;simp[World.shape?,z])
 have I:(w.drew.alloc (.view ⟨g,0,none⟩ 5)).cell? ⟨b,1,none⟩=some (.slice (some ⟨g,0,none⟩) 0 0):=by have:(w.drew.alloc (.view ⟨g,0,none⟩ 5)).heap[b]?=_:=(Lib.alloc_old w.drew _ b G).trans o;rw[Lib.cell_of_heap this];rfl
 have V:(w.alloc (.view ⟨g,0,none⟩ 5)).drew.cell? ⟨b,1,none⟩=some (.slice (some ⟨g,0,none⟩) 0 0):=I
 have U:w.cell? ⟨b,1,none⟩=some (.slice (some ⟨g,0,none⟩) 0 0):=H
 go_enter Tryz.func214,Tryz.ntmps214
 go_wp2
 go_region
 all_goals(go_wp2;go_ret;exact⟨rfl,rfl⟩)
theorem a7c{T:TypeId}{b:Nat}{p v:Value}{bs:Bn}{w:World}(h:BAt T b p v bs w):
 Calls Tryz.prog 214 #[.pointer (some ⟨b,0,none⟩)] w λe w'=>e=.returned (.string ⟨bs.toArray⟩)/\BAt T b p v bs w'/\Else b v.ownBlock w w':=by
 have t:=h
 obtain⟨m,o,M⟩:=h
 rcases o.2 with⟨rfl,hz⟩|⟨g,cap,X,fz,rfl,Y,W,Z,J,G,H,O⟩
 ·have z:bs=[]:=by simpa using hz
  subst z;refine(a7d m).mono ?_;rintro e w' ⟨rfl,rfl⟩;exact⟨rfl,t,rfl,rfl,rfl,Nat.le_refl _,λ_ _ _ _=>rfl⟩
 ·by_cases U:bs=[]
  ·subst U;by_cases V:cap=0
   ·subst V;refine(awa m W).mono ?_;rintro e w' ⟨rfl,rfl⟩;have I:b<w.heap.size:=(Array.getElem?_eq_some_iff.1 m).1;refine⟨rfl,⟨(abc w.drew _ b I).trans m,World.ownsRowF.kept (w:=w.drew) o (World.grownBy_alloc w.drew _ none) (by simp[Value.ownBlock]),M⟩,rfl,rfl,rfl,by simp,λk hk _ _=>abc w.drew _ k hk⟩
   ·refine(a1p V m).mono ?_;rintro e w' ⟨rfl,rfl⟩;exact⟨rfl,t,rfl,rfl,rfl,Nat.le_refl _,λ_ _ _ _=>rfl⟩
  ·refine(a1o U m o W J G H).mono ?_;rintro e w' ⟨rfl,rfl⟩;exact⟨rfl,t.frz,azz w b g _⟩
theorem BldRep.bat{D:Dom}{w:World}{ow:Own}{μ:Nat->Nat}{k:Nat}{T:TypeId}{bs:Bn}(Z:amy Tryz.prog 3 T=5)(h:BldRep Tryz.prog D w ow μ k T bs):
 ∃p v,(p=.pointer none\/p=.pointer (some ⟨μ k,0,none⟩))/\BAt T (μ k) p v bs w/\ow (μ k)=some k/\(∀o,¬D (μ k) o)/\∀g,v.ownBlock=some g->ow g=some k/\∀o,¬D g o:=by
 obtain⟨p,v,H,I,J,M,O⟩:=h
 rw[Z]at O
 rcases O with⟨rfl,rfl⟩|⟨g,cap,G,fz,rfl,U,a4,V,W,a7,X,Y,t,z⟩
 ·exact⟨p,_,I,⟨H,⟨by simp[Lib.byteCells],Or.inl ⟨rfl,rfl⟩⟩,by simp[Value.ownBlock]⟩,J,M,λg m=>by simp[Value.ownBlock]at m⟩
 ·refine⟨p,_,I,⟨H,⟨by simp[Lib.byteCells],Or.inr ⟨g,cap,G,fz,rfl,Nat.zero_le _,U,by omega,V,W,by omega,?_⟩⟩,by simp[Value.ownBlock,Y]⟩,J,M,λg' m=>?_⟩
  ·rw[Nat.mul_one];exact X
  ·simp[Value.ownBlock]at m;subst m;exact⟨t,z⟩
theorem BAt.rep{D:Dom}{w:World}{ow:Own}{μ:Nat->Nat}{k:Nat}{T:TypeId}{bs:Bn}{p v:Value}(O:amy Tryz.prog 3 T=5)(U:p=.pointer none\/p=.pointer (some ⟨μ k,0,none⟩))(h:BAt T (μ k) p v bs w)(I:ow (μ k)=some k)(J:∀o,¬D (μ k) o)
 (M:∀g,v.ownBlock=some g->ow g=some k/\∀o,¬D g o):BldRep Tryz.prog D w ow μ k T bs:=by
 obtain⟨W,X,Y⟩:=h
 refine⟨p,v,W,U,I,J,?_⟩
 rw[O]
 rcases X.2 with⟨rfl,V⟩|⟨g,cap,m,fz,rfl,_,z,Z,G,H,a7,t⟩
 ·exact Or.inl ⟨rfl,by simpa using V⟩
 ·obtain⟨r1,r2⟩:=M g rfl;exact Or.inr ⟨g,cap,m,fz,rfl,z,by omega,G,H,by omega,by rw[Nat.mul_one]at t;exact t,λe=>Y (by simp[Value.ownBlock,e]),r1,r2⟩
theorem aug{D:Dom}{w w':World}{ow:Own}{μ:Nat->Nat}{T:TypeId}{bs U:Bn}{ae:List SV}{ad:Array Value}{rs:List SV}{r p' v O:Value}(hT:amy Tryz.prog 3 T=5)(z:Pre Tryz.prog D ow μ [.bld T bs] w ae ad)
 (aa:a2b Tryz.prog D w' (adk rs) r) (hv:∀g,v.ownBlock=some g->ow g=some 0) (hp:p'=.pointer none\/p'=.pointer (some ⟨μ 0,0,none⟩)) (h:BAt T (μ 0) p' O U w') (M:Else (μ 0) v.ownBlock w w') (hg:∀g,O.ownBlock=some g->v.ownBlock=some g\/w.heap.size<=g):
 Post Tryz.prog D w ow μ [.bld T bs] rs [.bld T U] r D w':=by
 have h0:=z.objs.obj 0 _ rfl
 obtain⟨p,v0,ai,ag,Z,W,_⟩:=BldRep.bat hT h0
 have Y:μ 0<w'.heap.size:=(Array.getElem?_eq_some_iff.1 h.1).1
 have af:∀g,O.ownBlock=some g->g<w'.heap.size:=λg hg=>(h.2.1.lt g hg).2
 have H:∀b,ow b=some 0->∀o,¬D b o:=λb ob o d=>z.objs.lone b 0 _ ob rfl (by simp) o d
 have ab:∀b,b<w.heap.size->ow b=none->w'.heap[b]?=w.heap[b]?:=λb m hn=>M.block b m (λe=>by rw[e,Z]at hn;cases hn) (λe=>by have:=hv b e.symm;rw[hn]at this;cases this)
 have J:∀b o,D b o->ow b=none:=λb o d=>by
  cases m:ow b with
  |none=>rfl
  |some k=>
   have G:=(z.objs.owlt b k m).2;have:k=0:=by simp at G;omega
   subst this;exact absurd d (H b m o)
 have I:∀b,(b=μ 0\/O.ownBlock=some b)->∀o,¬D b o:=λb t o d=>by
  rcases t with rfl|t
  ·exact W o d
  ·rcases hg b t with V|V
   ·exact H b (hv b V) o d
   ·have:=z.dlt b o d;omega
 refine⟨λ_ _ d=>d,λ_ _ d=>Or.inl d,⟨λb=>if b=μ 0\/O.ownBlock=some b then some 0 else none,μ,⟨λk b G=>?_,λb k m=>?_,λb o d=>A0 (z.dlt b o d) M.size,λb k x m _ _ o d=>?_⟩,(aiz (aa _ _ _)).1,λb k m ah=>?_,λk b G=>?_,λk E g xs ys G=>?_⟩,M.os,M.tape,M.output,M.size,ab,Keeps.of_heap λb o d=>ab b (z.dlt b o d) (J b o d)⟩
 ·cases k with
  |zero=>cases G;exact BAt.rep (ow:=λb=>if b=μ 0\/O.ownBlock=some b then some 0 else none) hT hp h (if_pos (Or.inl rfl)) W (λg X=>⟨if_pos (Or.inr X),I g (Or.inr X)⟩)
  |succ k=>simp at G
 ·split at m
  ·rename_i t;cases m;refine⟨?_,by simp⟩;rcases t with rfl|t
   ·exact Y
   ·exact af b t
  ·cases m
 ·split at m
  ·rename_i t;exact I b t o d
  ·cases m
 ·split at m
  ·rename_i t;cases m;rcases t with rfl|t
   ·exact Z
   ·rcases hg b t with V|V
    ·exact hv b V
    ·omega
  ·cases m
 ·cases k with
  |zero=>cases G;exact⟨_,rfl,rfl,λ_ _=>rfl⟩
  |succ k=>simp at G
 ·cases k with
  |zero=>cases G
  |succ k=>simp at G
def a7l(T:TypeId):Prop:=amy Tryz.prog 3 T=5/\T≠5/\liesAt Tryz.prog Tryz.prog.depth T (2 / Tryz.prog.cellsOf T) 0 258 1=true
theorem ag2{T:TypeId}(H:a7l T)(bs s:Bn)(z:bs.length+s.length<=140737488355328):Meets Tryz.prog 314 [.bref 0 258,.str s] [.bld T bs] [.int .i64 s.length,.raw .nilIface] [.bld T (bs++s)]:=by
 refine⟨aa1 Tryz.func314 (by kernel_rfl) (by kernel_rfl),λD ow μ w o m=>?_⟩;have U:=m.objs.obj 0 _ rfl;obtain⟨p,v,hp,I,aa,Y,hv⟩:=BldRep.bat H.1 U;obtain⟨v0,J,rfl⟩:∃v0 J,o=#[v0,J]:=by
  have:=m.size;match o,this with
  |⟨[a,b]⟩,_=>exact⟨a,b,rfl⟩
 have M:=m.arg 0 _ v0 rfl rfl;have O:=m.arg 1 _ J rfl rfl;cases M;cases O;refine(ar5 H.2.2 hp I H.2.1 ⟨s.toArray⟩ (by simpa[ByteArray.size]using z)).mono λe w' Z=>?_;obtain⟨rfl,v',V,W,X⟩:=Z;refine⟨_,D,rfl,aug H.1 m ?_ (λg hg=>(hv g hg).1) (Or.inr rfl) V W X⟩;intro ab ad st';refine .tup rfl (λi s' u t G=>?_);match i,t,G with
 |0,t,G=>cases t;cases G;exact .int
 |1,t,G=>cases t;cases G;exact .raw
theorem aoe{T:TypeId}(G:a7l T)(bs:Bn):Meets Tryz.prog 214 [.bref 0 258] [.bld T bs] [.str bs] [.bld T bs]:=by
 refine⟨aa1 Tryz.func214 (by kernel_rfl) (by kernel_rfl),λD ow μ w o m=>?_⟩;have I:=m.objs.obj 0 _ rfl;obtain⟨p,v,W,t,V,O,X⟩:=BldRep.bat G.1 I;obtain⟨v0,rfl⟩:∃v0,o=#[v0]:=by
  have:=m.size;match o,this with
  |⟨[a]⟩,_=>exact⟨a,rfl⟩
 have H:=m.arg 0 _ v0 rfl rfl;cases H;refine(a7c t).mono λe w' U=>?_;obtain⟨rfl,J,M⟩:=U;refine⟨_,D,rfl,aug G.1 m ?_ (λg z=>(X g z).1) W J M (λg z=>Or.inl z)⟩;intro Y Z st';exact .str
set_option maxHeartbeats 1000000 in
theorem bic{T:TypeId}{b:Nat}{p v:Value}{bs:Bn}{w:World}(h:BAt T b p v bs w):
 Calls Tryz.prog 317 #[.pointer (some ⟨b,0,none⟩)] w λe w'=>e=.returned (.int .i64 bs.length)/\w'=w:=by
 obtain⟨t,m,z⟩:=h
 obtain⟨o,cap,rfl⟩:∃o cap,v=.slice o bs.length cap:=by
  rcases m.2 with⟨G,I⟩|⟨g,cap,H,fz,G,_⟩
  ·exact⟨none,0,by rw[G,I]⟩
  ·exact⟨_,_,G⟩
 have J:w.cell? ⟨b,1,none⟩=some (.slice o bs.length cap):=by rw[Lib.cell_of_heap t];rfl
 clear m z
 go_enter Tryz.func317,Tryz.ntmps317
 go_wp2
 go_ret
 exact⟨rfl,rfl⟩
theorem axs{T:TypeId}(G:a7l T)(bs:Bn):Meets Tryz.prog 317 [.bref 0 258] [.bld T bs] [.int .i64 bs.length] [.bld T bs]:=by
 refine⟨aa1 Tryz.func317 (by kernel_rfl) (by kernel_rfl),λD ow μ w o m=>?_⟩;have I:=m.objs.obj 0 _ rfl;obtain⟨p,v,U,t,O,J,V⟩:=BldRep.bat G.1 I;obtain⟨v0,rfl⟩:∃v0,o=#[v0]:=by
  have:=m.size;match o,this with
  |⟨[a]⟩,_=>exact⟨a,rfl⟩
 have H:=m.arg 0 _ v0 rfl rfl;cases H;refine(bic t).mono λe w' M=>?_;obtain⟨rfl,rfl⟩:=M;refine⟨_,D,rfl,aug G.1 m ?_ (λg z=>(V g z).1) U t ⟨rfl,rfl,rfl,Nat.le_refl _,λ_ _ _ _=>rfl⟩ (λg z=>Or.inl z)⟩;intro W X st';exact .int
end Go.Ab
