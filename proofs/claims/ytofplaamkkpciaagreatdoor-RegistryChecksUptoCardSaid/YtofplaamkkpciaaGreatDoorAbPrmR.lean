/- What the package promote says of two kinds, by hand. -/
import Derived.Test.YtofplaamkkpciaaGreatDoorAbFmtR
import Derived.BigRegion
import Derived.Below
import Derived.Laws.ResultCell
import Derived.Shelf.Abstract
set_option linter.unusedVariables false
set_option linter.unusedSimpArgs false
set_option linter.unnecessarySimpa false
namespace Go.Ab
open Go Go.Proofs Go.RowKit
structure PrmT(w:World):Prop where
 f1:w.cell? ⟨5,1,none⟩=some (.int .i64 2)
 f2:w.cell? ⟨5,2,none⟩=some (.int .i64 2)
 hs:3<w.heap.size
 hs5:5<w.heap.size
 b2:w.cell? ⟨3,2,none⟩=some (.int .u64 2147483648)
 b3:w.cell? ⟨3,3,none⟩=some (.int .u64 2147483647)
 b4:w.cell? ⟨3,4,none⟩=some (.int .u64 9223372036854775808)
 b5:w.cell? ⟨3,5,none⟩=some (.int .u64 9223372036854775807)
theorem bi2(w:World):Calls Tryz.prog 450 #[.int .i64 1] w λe w'=>e=.returned (.int .i64 0)/\w'=w:=by go_enter Tryz.func450,Tryz.ntmps450;go_wp2;go_ret;exact⟨rfl,rfl⟩
theorem is_2(w:World):Calls Tryz.prog 428 #[.int .i64 2] w λe w'=>e=.returned (.bool true)/\w'=w:=by go_enter Tryz.func428,Tryz.ntmps428;go_wp2;go_ret;exact⟨rfl,rfl⟩
theorem is_3(w:World):Calls Tryz.prog 428 #[.int .i64 3] w λe w'=>e=.returned (.bool true)/\w'=w:=by go_enter Tryz.func428,Tryz.ntmps428;go_wp2;go_ret;exact⟨rfl,rfl⟩
theorem num_2(w:World):Calls Tryz.prog 449 #[.int .i64 2] w λe w'=>e=.returned (.bool true)/\w'=w:=by go_enter Tryz.func449,Tryz.ntmps449;go_wp2;go_ret;exact⟨rfl,rfl⟩
theorem num_3(w:World):Calls Tryz.prog 449 #[.int .i64 3] w λe w'=>e=.returned (.bool true)/\w'=w:=by go_enter Tryz.func449,Tryz.ntmps449;go_wp2;go_ret;exact⟨rfl,rfl⟩
theorem sgn_3(w:World):Calls Tryz.prog 464 #[.int .i64 3] w λe w'=>e=.returned (.bool true)/\w'=w:=by go_enter Tryz.func464,Tryz.ntmps464;go_wp2;go_ret;exact⟨rfl,rfl⟩
theorem bhq(w:World)(h:PrmT w):Calls Tryz.prog 463 #[.int .i64 1,.int .i64 2] w λe w'=>e=.returned (.int .i64 2)/\w'=w:=by have m:=h.f1;go_enter Tryz.func463,Tryz.ntmps463;go_wp2_with (first|(go_at_call 450;refine(bi2 _).mono ?_;rintro e w' ⟨rfl,rfl⟩)|(go_at_call 428;refine(is_2 _).mono ?_;rintro e w' ⟨rfl,rfl⟩));go_ret;exact⟨rfl,rfl⟩
theorem bhr(w:World)(h:PrmT w):Calls Tryz.prog 463 #[.int .i64 1,.int .i64 3] w λe w'=>e=.returned (.int .i64 2)/\w'=w:=by have m:=h.f2;go_enter Tryz.func463,Tryz.ntmps463;go_wp2_with (first|(go_at_call 450;refine(bi2 _).mono ?_;rintro e w' ⟨rfl,rfl⟩)|(go_at_call 428;refine(is_3 _).mono ?_;rintro e w' ⟨rfl,rfl⟩));go_ret;exact⟨rfl,rfl⟩
theorem blf(w:World)(h:PrmT w):Calls Tryz.prog 448 #[.int .i64 1,.int .i64 2,.int .i64 3] w λe w'=>e=.returned (.bool true)/\w'=w:=by go_enter Tryz.func448,Tryz.ntmps448;go_wp2_with fail;go_at_call 463;refine(bhq _ h).mono ?_;rintro e w' ⟨rfl,rfl⟩;go_wp2_with fail;go_at_call 463;refine(bhr _ h).mono ?_;rintro e w' ⟨rfl,rfl⟩;go_wp2;go_ret;exact⟨rfl,rfl⟩
theorem blg(w:World)(h:PrmT w):Calls Tryz.prog 448 #[.int .i64 1,.int .i64 3,.int .i64 2] w λe w'=>e=.returned (.bool true)/\w'=w:=by go_enter Tryz.func448,Tryz.ntmps448;go_wp2_with fail;go_at_call 463;refine(bhr _ h).mono ?_;rintro e w' ⟨rfl,rfl⟩;go_wp2_with fail;go_at_call 463;refine(bhq _ h).mono ?_;rintro e w' ⟨rfl,rfl⟩;go_wp2;go_ret;exact⟨rfl,rfl⟩
theorem bke(w:World)(h:PrmT w):Calls Tryz.prog 452 #[.int .i64 3,.int .i64 2,.int .u64 2147483648] w λe w'=>e=.returned (.bool false)/\w'=w:=by have m:=h.b3;go_enter Tryz.func452,Tryz.ntmps452;go_wp2_with (go_at_call 464;refine(sgn_3 _).mono ?_;rintro e w' ⟨rfl,rfl⟩);go_ret;exact⟨rfl,rfl⟩
theorem PrmT.below{w w':World}(h:PrmT w)(t:Below w.heap.size w w'):PrmT w':=by
 have m:∀o,w'.cell? ⟨3,o,none⟩=w.cell? ⟨3,o,none⟩:=λo=>by simp[World.cell?,t.block 3 h.hs]
 have z:∀o,w'.cell? ⟨5,o,none⟩=w.cell? ⟨5,o,none⟩:=λo=>by simp[World.cell?,t.block 5 h.hs5]
 exact⟨(z _).trans h.f1,(z _).trans h.f2,A0 h.hs t.size,A0 h.hs5 t.size,(m _).trans h.b2,(m _).trans h.b3,(m _).trans h.b4,(m _).trans h.b5⟩
theorem al1(w:World)(o:Obj):(w.alloc o).heap.size=w.heap.size+1:=by simp
theorem sz2(w:World)(o p:Obj):w.heap.size<=((w.alloc o).alloc p).drew.heap.size:=by have m:=al1 w o;have t:=al1 (w.alloc o) p;show w.heap.size<=((w.alloc o).alloc p).heap.size;omega
theorem al2(w:World)(o p:Obj)(k:Nat)(h:k<w.heap.size):((w.alloc o).alloc p).drew.heap[k]?=w.heap[k]?:=by have m:=al1 w o;exact(Below.heap_alloc (w.alloc o) p k (by omega)).trans (Below.heap_alloc w o k h)
theorem al0(w:World)(o:Obj):(w.alloc o).heap[w.heap.size]?=some o:=by show(w.heap.push o)[w.heap.size]?=_;simp
theorem bar(w:World)(h:PrmT w):Calls Tryz.prog 413 #[.int .i64 1,.int .i64 3,.int .i64 2] w λe w'=>e=.returned (.int .i64 1)/\Below w.heap.size w w':=by
 have o:=h.b2;have t:=h.b3;have z:=h.b4;have G:=h.b5;have H:=h.hs;go_enter Tryz.func413,Tryz.ntmps413;go_wp2_with (first|(go_at_call 448;refine(blg _ h).mono ?_;rintro e w' ⟨rfl,rfl⟩)|(go_at_call 449;refine(num_3 _).mono ?_;rintro e w' ⟨rfl,rfl⟩));go_region;all_goals
  go_wp2
  go_ret
  exact⟨rfl,rfl,rfl,rfl,sz2 _ _ _,λb m=>al2 _ _ _ _ m⟩
theorem bkm(w:World)(h:PrmT w):Calls Tryz.prog 413 #[.int .i64 1,.int .i64 2,.int .i64 3] w λe w'=>e=.returned (.int .i64 2)/\Below w.heap.size w w':=by
 have o:=h.b2;have t:=h.b3;have z:=h.b4;have G:=h.b5;have H:=h.hs;go_enter Tryz.func413,Tryz.ntmps413;go_wp2_with (first|(go_at_call 448;refine(blf _ h).mono ?_;rintro e w' ⟨rfl,rfl⟩)|(go_at_call 449;refine(num_2 _).mono ?_;rintro e w' ⟨rfl,rfl⟩));go_region;all_goals
  go_wp2
  go_ret
  exact⟨rfl,rfl,rfl,rfl,sz2 _ _ _,λb m=>al2 _ _ _ _ m⟩
theorem Below.set{B:Nat}{w w':World}(h:Below B w w')(o:Nat)(v:Value)(b:Nat)(t:B<=b):Below B w (w'.setCell ⟨b,o,none⟩ v):=by refine⟨h.os,h.tape,h.output,by simpa[World.setCell]using h.size,λk m=>?_⟩;rw[Below.heap_setCell _ _ _ _ (λe=>by have e:k=b:=e;omega)];exact h.block k m
theorem bj1(w:World)(h:PrmT w):Calls Tryz.prog 414 #[.int .i64 1,.int .i64 3,.int .i64 2] w λe w'=>e=.returned (.tuple #[.agg #[.int .i64 3,.int .u64 2147483648,.string ⟨#[]⟩,.slice none 0 0,.slice none 0 0,.slice none 0 0,.slice none 0 0],.bool true])/\Below w.heap.size w w':=by
 have hs:=h.hs;have X:=h.hs5;go_enter Tryz.func414,Tryz.ntmps414;have G:∀o,Below w.heap.size w (w.alloc o):=λo=>⟨rfl,rfl,rfl,by rw[al1];omega,λk W=>Below.heap_alloc w o k W⟩;go_wp2_with (first|(go_at_call 450;refine(bi2 _).mono ?_;rintro e w' ⟨rfl,U⟩;subst w'));go_at_call 428;refine(is_3 _).mono ?_;rintro e w' ⟨rfl,U⟩;subst w';go_wp2_with fail;go_at_call 428;refine(is_2 _).mono ?_;rintro e w' ⟨rfl,U⟩;subst w';go_wp2_with fail;go_at_call 413;refine(bar _ (h.below (G _))).mono ?_;rintro e V ⟨rfl,t⟩;have J:Below w.heap.size w V:=(G _).trans (t.mono (by rw[al1];omega));have I:=t.block w.heap.size (by rw[al1];omega);have O:w.heap.size<V.heap.size:=A0 (by rw[al1];omega) t.size;rw[al0]at I;clear t;go_wp2_with fail;go_at_call 413;refine(bar _ (h.below J)).mono ?_;rintro e z ⟨rfl,H⟩;have M:Below w.heap.size w z:=J.trans (H.mono J.size);have m:=(H.block w.heap.size O).trans I;have k:=h.below M;have k1:=k.b3;have k2:=k.b5;have f:∀o,z.frozen? ⟨w.heap.size,o,none⟩=false:=λo=>by simp[World.frozen?,m]
 have Y:z.cell? ⟨w.heap.size,0,none⟩=some (.int .i64 0):=by simp[World.cell?,m]
 have Z:z.cell? ⟨w.heap.size,1,none⟩=some (.int .u64 0):=by simp[World.cell?,m]
 have c2:z.cell? ⟨w.heap.size,2,none⟩=some (.string ⟨#[]⟩):=by simp[World.cell?,m]
 have c3:z.cell? ⟨w.heap.size,3,none⟩=some (.slice none 0 0):=by simp[World.cell?,m]
 have c4:z.cell? ⟨w.heap.size,4,none⟩=some (.slice none 0 0):=by simp[World.cell?,m]
 have c5:z.cell? ⟨w.heap.size,5,none⟩=some (.slice none 0 0):=by simp[World.cell?,m]
 have c6:z.cell? ⟨w.heap.size,6,none⟩=some (.slice none 0 0):=by simp[World.cell?,m]
 clear I m G H;go_wp2;refine⟨rfl,.tuple #[.agg #[.int .i64 3,.int .u64 2147483648,.string ⟨#[]⟩,.slice none 0 0,.slice none 0 0,.slice none 0 0,.slice none 0 0],.bool true],?_,rfl,?_⟩
 ·rw[results_cell_tmp rfl];go_simp;trace_state
 ·iterate 7 refine Below.set ?_ _ _ _ (Nat.le_refl _)
  exact M
theorem prmT{ow:Own}{w:World}(h:Tabs Tryz.prog ow w):PrmT w:=by
 have H:Tryz.prog.globalNamed "wireschema/promote.families"=some 5:=by kernel_rfl
 have G:Tryz.prog.globalNamed "wireschema/promote.bounds"=some 3:=by kernel_rfl
 obtain⟨_,cs,T,M,t,z⟩:=h ("wireschema/promote.families",_) (by simp[als];rfl) _ H;obtain⟨_,J,U,O,m,o⟩:=h ("wireschema/promote.bounds",_) (by simp[als];rfl) _ G;have I:5<w.heap.size:=(Array.getElem?_eq_some_iff.1 t).1;refine⟨?_,?_,by omega,I,?_,?_,?_,?_⟩
 ·simp[World.cell?,t,z.1]
 ·simp[World.cell?,t,z.2]
 ·simp[World.cell?,m,o.1]
 ·simp[World.cell?,m,o.2.1]
 ·simp[World.cell?,m,o.2.2.1]
 ·simp[World.cell?,m,o.2.2.2]
def ase(l:List (IntKind×Int)):List SV:=l.map λp=>.int p.1 p.2
theorem ivals{P:Program}{D:Dom}{ow:Own}{μ:Nat->Nat}{st:List BX}{w:World}{m:Array Value}(l:List (IntKind×Int))(o:Pre P D ow μ st w (ase l) m):m=(l.map λp=>Value.int p.1 p.2).toArray:=by
 have H:=o.size;apply Array.ext (by simpa[ase]using H);intro i t z;have G:i<l.length:=by simpa using z
 have:=o.arg i (.int (l[i]).1 (l[i]).2) m[i] (by simp[ase,G]) (by simp[t]);generalize m[i]=x at this ⊢;cases this;simp
theorem agv{f:FuncId}{o:List SV}(l:List (IntKind×Int))(v:Value)(H:ak3 Tryz.prog f)(G:∀D w,a2b Tryz.prog D w (adk o) v)(h:∀w,PrmT w->Calls Tryz.prog f (l.map λp=>Value.int p.1 p.2).toArray w λe w'=>e=.returned v/\Below w.heap.size w w'):Meets Tryz.prog f (ase l) [] o []:=by refine ae6 H (λD ow μ w t m=>?_);rw[ivals l m];refine(h w (prmT m.tabs)).mono ?_;rintro e w' ⟨rfl,z⟩;exact⟨v,rfl,G D w',z⟩
theorem anj{f:FuncId}{vs:Array Value}{v:Value}{w:World}(h:Calls Tryz.prog f vs w λe w'=>e=.returned v/\w'=w):Calls Tryz.prog f vs w λe w'=>e=.returned v/\Below w.heap.size w w':=by refine h.mono ?_;rintro e w' ⟨rfl,rfl⟩;exact⟨rfl,Below.refl _ _⟩
def exV:PV:=.agg [.int 3,.int 2147483648,.str [],.slice [],.slice [],.slice [],.slice []]
set_option maxRecDepth 10000 in
theorem bho(D:Dom)(w:World):Rep Tryz.prog D w 83 exV [.int .i64 3,.int .u64 2147483648,.string ⟨#[]⟩,.slice none 0 0,.slice none 0 0,.slice none 0 0,.slice none 0 0]:=by
 refine .agg Tryz.underlying83 (by kernel_rfl) (by simp[Value.oneCell']) rfl ?_;intro i v f m o;match i,m,o with
 |0,m,o=>cases m;cases o;exact .int Tryz.underlying3
 |1,m,o=>cases m;cases o;exact .int Tryz.underlying38
 |2,m,o=>cases m;cases o;exact .str Tryz.underlying9
 |3,m,o=>cases m;cases o;exact .nil Tryz.underlying78 (λ_=>rfl)
 |4,m,o=>cases m;cases o;exact .nil Tryz.underlying79 (λ_=>rfl)
 |5,m,o=>cases m;cases o;exact .nil Tryz.underlying80 (λ_=>rfl)
 |6,m,o=>cases m;cases o;exact .nil Tryz.underlying81 (λ_=>rfl)
 |n+7,m,o=>cases m
def mPrm:Memo:=[(463,ase [(.i64,1),(.i64,2)],[.int .i64 2]),(463,ase [(.i64,1),(.i64,3)],[.int .i64 2]),(413,ase [(.i64,1),(.i64,2),(.i64,3)],[.int .i64 2]),(413,ase [(.i64,1),(.i64,3),(.i64,2)],[.int .i64 1]),(452,ase [(.i64,3),(.i64,2),(.u64,2147483648)],[.bool false]),(414,ase [(.i64,1),(.i64,3),(.i64,2)],[.data 83 exV,.bool true])]
theorem bie:MemoOk Tryz.prog mPrm:=by
 intro e t;simp only[mPrm,Bi,List.not_mem_nil,or_false]at t;rcases t with rfl|rfl|rfl|rfl|rfl|rfl
 ·exact agv _ _ (aa1 Tryz.func463 (by kernel_rfl) (by kernel_rfl)) (λD w ow μ st=>.int) (λw h=>anj (bhq w h))
 ·exact agv _ _ (aa1 Tryz.func463 (by kernel_rfl) (by kernel_rfl)) (λD w ow μ st=>.int) (λw h=>anj (bhr w h))
 ·exact agv _ _ (aa1 Tryz.func413 (by kernel_rfl) (by kernel_rfl)) (λD w ow μ st=>.int) (λw h=>bkm w h)
 ·exact agv _ _ (aa1 Tryz.func413 (by kernel_rfl) (by kernel_rfl)) (λD w ow μ st=>.int) (λw h=>bar w h)
 ·exact agv _ _ (aa1 Tryz.func452 (by kernel_rfl) (by kernel_rfl)) (λD w ow μ st=>.bool) (λw h=>anj (bke w h))
 ·refine agv _ _ (aa1 Tryz.func414 (by kernel_rfl) (by kernel_rfl)) (λD w ow μ st=>?_) (λw h=>bj1 w h);refine .tup rfl ?_;intro i s v m o;match i,m,o with
  |0,m,o=>cases m;cases o;exact .data (by kernel_rfl) (bho D w)
  |1,m,o=>cases m;cases o;exact .bool
  |n+2,m,o=>cases m
end Go.Ab
