/- sort.Slice at a row of at most one element: nothing is turned. -/
import Derived.Test.YtjogoleiodbfdaaGreatAbLibZ
import Derived.Shelf.GgSortFunc.Tiny
import Derived.Shelf.SlSortFuncK.WholeK
set_option linter.unusedVariables false
set_option linter.unusedSimpArgs false
set_option linter.unnecessarySimpa false
set_option maxRecDepth 100000
namespace Go.Ab
open Go Go.Proofs Go.Shelf Go.RowKit Go.Sort Go.Lib
end Go.Ab
set_option maxRecDepth 100000
namespace Go.Ab
open Go Go.Proofs Go.Shelf Go.RowKit Go.Sort Go.Lib
abbrev UseT:=List UInt8×Int×Int
def encU (x:UseT):List Value:=[.string ⟨x.1.toArray⟩,.int .i64 x.2.1,.int .i64 x.2.2]
def ltU (x y:UseT):Bool:=bif x.1==y.1 then decide (x.2.1<y.2.1) else Op.bytesLess x.1 y.1
theorem ao7 (w:World) (n m:Nat):(w.drewN n).drewN m=w.drewN (n+m):=by simp [World.drewN,Nat.add_assoc]
set_option maxHeartbeats 4000000 in
theorem lessU (blk off c Bs size:Nat) (W:World) (S:Nat->List UInt8) (G:Nat->Int) (hs:W.cell? ⟨Bs,0,none⟩=some (.slice (some ⟨blk,off,none⟩) size c))
 (hc0:∀ t,t<size->W.cell? ⟨blk,off+t*3,none⟩=some (.string ⟨(S t).toArray⟩)) (hc1:∀ t,t<size->W.cell? ⟨blk,off+t*3+1,none⟩=some (.int .i64 (G t))) (i j:Nat) (hi:i<size) (hj:j<size) (hsz:size<4611686018427387904):
 Calls Tryz.prog 32 #[.int .i64 i,.int .i64 j,.pointer (some ⟨Bs,0,none⟩)] W fun e w'=>e=.returned (.bool (bif S i==S j then decide (G i<G j) else Op.bytesLess (S i) (S j)))/\∃ q,w'=W.drewN q:=by
 have ci:=hc0 i hi
 have cj:=hc0 j hj
 have di:=hc1 i hi
 have dj:=hc1 j hj
 go_enter Tryz.func32,Tryz.ntmps32
 go_wp2
 go_quiet (fail)
 go_wp2
 ·go_quiet (fail)
  go_wp2
  go_ret
  have he:(S i==S j)=false:=by simpa using (by assumption:(!S i==S j)=true)
  refine ⟨by rw [he];rfl,?_⟩
  exact ⟨_,ao7 _ _ _⟩
 ·go_quiet (fail)
  go_wp2
  go_ret
  have he:(S i==S j)=true:=by simpa using (by assumption:(!S i==S j)=false)
  refine ⟨by rw [he];rfl,?_⟩
  exact ⟨_,ao7 _ _ _⟩
theorem aja (x y:UseT):ltU x y=true ↔ x.1<y.1∨(x.1=y.1/\x.2.1<y.2.1):=by
 unfold ltU
 cases h:x.1==y.1 with
 | true=>
  have e:=eq_of_beq h
  simp [e,List.lt_irrefl]
 | false=>
  have e:x.1≠y.1:=by simpa using h
  simp [bytesLess_eq,e]
theorem swo_ltU:SWO ltU where
 irrefl:=fun x=>by simp [ltU]
 trans:=fun x y z h1 h2=>by
  rw [aja] at*
  rcases h1 with h1 | ⟨e1,h1⟩
  ·rcases h2 with h2 | ⟨e2,h2⟩
   ·exact .inl (List.lt_trans h1 h2)
   ·exact .inl (e2▸h1)
  ·rcases h2 with h2 | ⟨e2,h2⟩
   ·exact .inl (e1▸h2)
   ·exact .inr ⟨e1.trans e2,by omega⟩
 ntrans:=fun x y z h1 h2=>by
  rw [<-Bool.not_eq_true,aja] at*
  have a1:¬x.1<y.1:=fun h=>h1 (.inl h)
  have a2:¬y.1<z.1:=fun h=>h2 (.inl h)
  have b1:=List.not_lt.1 a1;have b2:=List.not_lt.1 a2
  rintro (h | ⟨e,h⟩)
  ·exact List.not_lt.2 (List.le_trans b2 b1) h
  ·have e1:x.1=y.1:=List.le_antisymm (e▸b2) b1
   have e2:y.1=z.1:=e1.symm.trans e
   by_cases q:x.2.1<y.2.1
   ·exact h1 (.inr ⟨e1,q⟩)
   ·exact h2 (.inr ⟨e2,by omega⟩)
theorem sortU (blk off c Bs:Nat) (d:Array UseT) (h2:2<=d.size) (hsz:d.size<4611686018427387904) (w:World) (hH:HoldsK encU 3 w blk off d) (hblk:blk<w.heap.size)
 (hBs:w.cell? ⟨Bs,0,none⟩=some (.slice (some ⟨blk,off,none⟩) d.size c)) (hB1:Bs<w.heap.size) (hB2:Bs≠blk):
 Calls Tryz.prog 31 #[.iface 39 (.slice (some ⟨blk,off,none⟩) d.size c),.func (.func 32) #[] #[.pointer (some ⟨Bs,0,none⟩)]] w fun e w'=>
  e=.returned (.tuple #[])/\∃ d' n os,PermIn 0 d.size d d'/\SortedIn ltU 0 d.size d'/\w'=grow (putRowK encU 3 (Sort.ahead w n) blk off d') os:=by
 have hless:LessReadsK Tryz.prog 32 #[.pointer (some ⟨Bs,0,none⟩)] encU 3 ltU blk off d.size w:=by
  intro m os dk hs i j hi hj
  have e:sortWorldK encU 3 w blk off m dk os=putRowK encU 3 (grow (Sort.ahead w m) os) blk off dk:=by
   unfold sortWorldK;rw [putRowK_grow _ _ (Sort.ahead w m) _ blk off _ hblk]
  have hHg:HoldsK encU 3 (grow (Sort.ahead w m) os) blk off d:=holdsK_grow _ _ _ _ blk off d hblk (holdsK_ahead _ _ _ _ _ _ _ hH)
  refine lessU blk off c Bs d.size _ (fun t=>dk[t]!.1) (fun t=>dk[t]!.2.1) ?_ (fun t ht=>?_) (fun t ht=>?_) i j hi hj (by omega)
  ·rw [e,cell?_putRowK_other _ _ _ blk off dk _ (by exact hB2),cell?_grow _ _ _ (by exact hB1)];exact hBs
  ·rw [e];exact ((holdsK_putRowK _ _ _ blk off d dk hHg hs).cell (i:=t) (c:=0) (by omega) (by omega)).1
  ·rw [e];exact ((holdsK_putRowK _ _ _ blk off d dk hHg hs).cell (i:=t) (c:=1) (by omega) (by omega)).1
 have hk:∀ n,2<=n->swapperK n ((Tryz.prog.info? 62).getD default) 25=9:=by
  intro n h2
  have c:(n==0)=false:=by simp;omega
  have d:(n==1)=false:=by simp;omega
  have a:((Tryz.prog.info? 62).getD default).hasPointers=true:=by kernel_rfl
  have b:(((Tryz.prog.info? 62).getD default).bytes==8)=false:=by kernel_rfl
  have f:((25:Nat)==24)=false:=rfl
  unfold swapperK
  rw [c,d,a,b,f]
  rfl
 exact Any.sort_Slice_cells_sorted Tryz.laysGg6 39 62 ((Tryz.prog.info? 39).getD default) ((Tryz.prog.info? 62).getD default) (by kernel_rfl) (by kernel_rfl) (by kernel_rfl) (by kernel_rfl) 25 (fun w=>by kernel_rfl) encU 3 (fun _=>rfl) (by kernel_rfl) (fun _=>by kernel_rfl)
  (fun x v hv=>by simp [encU] at hv;rcases hv with rfl | rfl | rfl<;>rfl) ltU swo_ltU 32 _
  (enters_of Tryz.func32 (by kernel_rfl) rfl) blk off c d h2 hsz 91 (by rw [hk _ h2];kernel_rfl) false
  (fun args W=>run_callFunc_extern Tryz.func91 (by kernel_rfl) (by kernel_rfl) (by kernel_rfl) (e:=Extern.ReflectliteSwapper.swap false) (by kernel_rfl) args W) w hless hH hblk
end Go.Ab
set_option maxRecDepth 100000
namespace Go.Ab
open Go Go.Proofs Go.Shelf Go.RowKit Go.Sort Go.Lib
def ag1 (x:PV):UseT:=((x.fld 0).asStr,(x.fld 1).asInt,(x.fld 2).asInt)
def aax (u:UseT):PV:=.agg [.str u.1,.int u.2.1,.int u.2.2]
def ltP (x y:PV):Bool:=ltU (ag1 x) (ag1 y)
def insP (x:PV):List PV->List PV
 | []=>[x]
 | y::r=>bif ltP x y then x::y::r else y::insP x r
def alj:List PV->List PV
 | []=>[]
 | x::r=>insP x (alj r)
def ag7:List PV->Bool
 | []=>true
 | x::r=>r.all (fun y=>ltP x y||ltP y x)&&ag7 r
theorem akv (x:PV):∀ l,(insP x l).Perm (x::l)
 | []=>.refl _
 | y::r=>by
  unfold insP
  cases ltP x y with
  | true=>exact .refl _
  | false=>exact ((akv x r).cons y).trans (.swap _ _ _)
theorem ae4:∀ l,(alj l).Perm l
 | []=>.refl _
 | x::r=>(akv x _).trans ((ae4 r).cons x)
theorem axb {x y z:PV} (h:ltP x y=true) (k:ltP y z=true):ltP x z=true:=swo_ltU.trans _ _ _ h k
theorem akw (x:PV):∀ l:List PV,l.Pairwise (fun a b=>ltP a b=true)->(∀ y,y∈l->ltP x y=true∨ltP y x=true)->(insP x l).Pairwise (fun a b=>ltP a b=true)
 | [],_,_=>by simp [insP]
 | y::r,h,hx=>by
  rw [List.pairwise_cons] at h
  unfold insP
  cases hxy:ltP x y with
  | true=>
   refine List.pairwise_cons.2 ⟨fun z hz=>?_,List.pairwise_cons.2 h⟩
   rcases List.mem_cons.1 hz with rfl | hz
   ·exact hxy
   ·exact axb hxy (h.1 z hz)
  | false=>
   refine List.pairwise_cons.2 ⟨fun z hz=>?_,akw x r h.2 fun z hz=>hx z (List.mem_cons_of_mem _ hz)⟩
   rcases List.mem_cons.1 ((akv x r).mem_iff.1 hz) with rfl | hz
   ·rcases hx y (by simp) with h1 | h1
    ·rw [hxy] at h1;cases h1
    ·exact h1
   ·exact h.1 z hz
theorem akz {x:PV}{r:List PV} (h:ag7 (x::r)=true):(∀ y,y∈r->ltP x y=true∨ltP y x=true)/\ag7 r=true:=by
 simp only [ag7,Bool.and_eq_true,List.all_eq_true,Bool.or_eq_true] at h
 exact h
theorem aju:∀ l,ag7 l=true->(alj l).Pairwise (fun a b=>ltP a b=true)
 | [],_=>.nil
 | x::r,h=>by
  obtain ⟨h1,h2⟩:=akz h
  exact akw x _ (aju r h2) fun y hy=>h1 y ((ae4 r).mem_iff.1 hy)
theorem apq:∀ l:List PV,ag7 l=true->l.Pairwise (fun a b=>ltP a b=true∨ltP b a=true)
 | [],_=>.nil
 | x::r,h=>by
  obtain ⟨h1,h2⟩:=akz h
  exact List.pairwise_cons.2 ⟨h1,apq r h2⟩
theorem aqg:∀ {l l':List UseT},l.Perm l'->l.Pairwise (fun a b=>ltU a b=true)->l'.Pairwise (fun a b=>ltU a b=true)->l=l'
 | [],l',hp,_,_=>(List.Perm.nil_eq hp)
 | x::r,[],hp,_,_=>by have:=hp.length_eq;simp at this
 | x::r,y::q,hp,h,k=>by
  rw [List.pairwise_cons] at h k
  have e:x=y:=by
   have h1:x∈y::q:=hp.mem_iff.1 (by simp)
   have h2:y∈x::r:=hp.mem_iff.2 (by simp)
   rcases List.mem_cons.1 h1 with e | h1
   ·exact e
   ·rcases List.mem_cons.1 h2 with e | h2
    ·exact e.symm
    ·have:=swo_ltU.trans _ _ _ (h.1 y h2) (k.1 x h1)
     rw [swo_ltU.irrefl] at this;cases this
  subst e
  rw [aqg hp.cons_inv h.2 k.2]
def aws (P:Program) (E:TypeId):Bool:=
 match P.underlying E with
 | some (.struct fs)=>
  match fs.toList with
  | [a,b,c]=>(match P.underlying a.type,P.underlying b.type,P.underlying c.type with | some .string,some (.int .i64),some (.int .i64)=>true | _,_,_=>false)&&Nat.beq a.offset 0&&Nat.beq b.offset 1&&Nat.beq c.offset 2&&Nat.beq (P.cellsOf a.type) 1&&Nat.beq (P.cellsOf b.type) 1&&Nat.beq (P.cellsOf c.type) 1
  | _=>false
 | _=>false
theorem amn {P:Program}{E:TypeId} (h:aws P E=true):∃ a b c:Field,P.underlying E=some (.struct #[a,b,c])/\P.underlying a.type=some .string/\P.underlying b.type=some (.int .i64)/\P.underlying c.type=some (.int .i64)/\a.offset=0/\b.offset=1/\c.offset=2/\P.cellsOf a.type=1/\P.cellsOf b.type=1/\P.cellsOf c.type=1:=by
 unfold aws at h
 split at h
 case h_2=>cases h
 rename_i fs hfs
 split at h
 case h_2=>cases h
 rename_i a b c hl
 simp only [Bool.and_eq_true] at h
 obtain ⟨⟨⟨⟨⟨⟨h0,h1⟩,h2⟩,h3⟩,h4⟩,h5⟩,h6⟩:=h
 split at h0
 case h_2=>cases h0
 rename_i e1 e2 e3
 have:fs=#[a,b,c]:=by rw [<-Array.toArray_toList (xs:=fs),hl]
 subst this
 exact ⟨a,b,c,hfs,e1,e2,e3,Nat.eq_of_beq_eq_true h1,Nat.eq_of_beq_eq_true h2,Nat.eq_of_beq_eq_true h3,Nat.eq_of_beq_eq_true h4,Nat.eq_of_beq_eq_true h5,Nat.eq_of_beq_eq_true h6⟩
theorem aze {P:Program}{D:Dom}{w:World}{T:TypeId}{v:PV}{cs:List Value} (h:Rep P D w T v cs) (hT:P.underlying T=some .string):cs=[.string ⟨v.asStr.toArray⟩]/\v=.str v.asStr:=by
 cases h with
 | str=>exact ⟨rfl,rfl⟩
 | raw h=>simp [rawT,hT] at h
 | map _ _ h=>rw [hT] at h;cases h
 | _ h=>rw [hT] at h;cases h
theorem at2 {P:Program}{D:Dom}{w:World}{T:TypeId}{k:IntKind}{v:PV}{cs:List Value} (h:Rep P D w T v cs) (hT:P.underlying T=some (.int k)):cs=[.int k v.asInt]/\v=.int v.asInt:=by
 cases h with
 | int h=>rw [hT] at h;cases h;exact ⟨rfl,rfl⟩
 | raw h=>simp [rawT,hT] at h
 | map _ _ h=>rw [hT] at h;cases h
 | _ h=>rw [hT] at h;cases h
theorem aoh {P:Program}{D:Dom}{w:World}{E:TypeId} (hE:aws P E=true) (hc:P.cellsOf E=3) {v:PV}{cs:List Value} (h:Rep P D w E v cs):cs=encU (ag1 v)/\v=aax (ag1 v):=by
 obtain ⟨a,b,c,hT,ta,tb,tc,oa,ob,oc,ca,cb,cc⟩:=amn hE
 cases h with
 | agg hT' hl ho hv hr=>
  rename_i fs vs
  rw [hT] at hT';cases hT'
  match vs,hv with
  | [x,y,z],_=>
   have h0:=aze (hr 0 x a rfl rfl) ta
   have h1:=at2 (hr 1 y b rfl rfl) tb
   have h2:=at2 (hr 2 z c rfl rfl) tc
   rw [hc] at hl
   match cs,hl with
   | [p,q,r],_=>
    rw [oa,ca] at h0;rw [ob,cb] at h1;rw [oc,cc] at h2
    simp at h0 h1 h2
    obtain ⟨rfl,h0⟩:=h0
    obtain ⟨rfl,h1⟩:=h1
    obtain ⟨rfl,h2⟩:=h2
    refine ⟨rfl,?_⟩
    show PV.agg [x,y,z]=.agg [.str x.asStr,.int y.asInt,.int z.asInt]
    rw [<-h0,<-h1,<-h2]
 | raw h=>simp [rawT,hT] at h
 | map _ _ h=>rw [hT] at h;cases h
 | _ h=>rw [hT] at h;cases h
theorem ax7 {P:Program}{D:Dom}{w:World}{E:TypeId} (hE:aws P E=true) (hc:P.cellsOf E=3) (u:UseT):Rep P D w E (aax u) (encU u):=by
 obtain ⟨a,b,c,hT,ta,tb,tc,oa,ob,oc,ca,cb,cc⟩:=amn hE
 refine .agg hT (by rw [hc];rfl) (by simp [encU];exact ⟨rfl,rfl,rfl⟩) rfl (fun i v f hv hf=>?_)
 match i,hv,hf with
 | 0,hv,hf=>simp at hv hf;subst hv;subst hf;rw [oa,ca];exact .str ta
 | 1,hv,hf=>simp at hv hf;subst hv;subst hf;rw [ob,cb];exact .int tb
 | 2,hv,hf=>simp at hv hf;subst hv;subst hf;rw [oc,cc];exact .int tc
 | n+3,hv,hf=>simp at hv
theorem aph (w:World) (n blk:Nat) (d:Array UseT) (os:Array Obj) (b:Nat) (hb:b<w.heap.size):
 (grow (putRowK encU 3 (Sort.ahead w n) blk 0 d) os).heap[b]?=if blk=b then (w.heap[b]?).map (onCells (putCells id 0 (flatK encU 3 d))) else w.heap[b]?:=by
 have h1:(putRowK encU 3 (Sort.ahead w n) blk 0 d).heap=w.heap.modify blk (onCells (putCells id 0 (flatK encU 3 d))):=rfl
 rw [heap_grow_old _ _ (by rw [h1];simpa using hb),h1,Array.getElem?_modify]
theorem ap4 (d:Array UseT) (cur:Array Value) (hs:d.size*3<=cur.size) (i:Nat) (hi:i<d.size):(((putCells id 0 (flatK encU 3 d) cur).toList.drop (i*3)).take 3)=encU d[i]!:=by
 have g:∀ j,j<3->(putCells id 0 (flatK encU 3 d) cur)[i*3+j]?=some (encU d[i]!)[j]!:=by
  intro j hj
  have lt:i*3+j<d.size*3:=by omega
  have e1:(i*3+j) / 3=i:=by omega
  have e2:(i*3+j)%3=j:=by omega
  unfold putCells
  rw [Array.getElem?_mapIdx,Array.getElem?_eq_getElem (by omega)]
  simp only [Option.map_some]
  rw [if_pos ⟨Nat.zero_le _,by simp;omega⟩,Nat.sub_zero,get_flatK _ _ _ _ lt,e1,e2]
  rfl
 have l3:∀ (l:List Value) (k:Nat) (a b c:Value),l[k]?=some a->l[k+1]?=some b->l[k+2]?=some c->(l.drop k).take 3=[a,b,c]:=by
  intro l k a b c ha hb hc
  refine List.ext_getElem? fun t=>?_
  match t with
  | 0=>simpa [List.getElem?_take,List.getElem?_drop] using ha
  | 1=>simpa [List.getElem?_take,List.getElem?_drop] using hb
  | 2=>simpa [List.getElem?_take,List.getElem?_drop] using hc
  | t+3=>simp [List.getElem?_take];omega
 rw [l3 _ _ (encU d[i]!)[0]! (encU d[i]!)[1]! (encU d[i]!)[2]! (by simpa using g 0 (by omega)) (by simpa using g 1 (by omega)) (by simpa using g 2 (by omega))]
 rfl
def amc (fuel:Nat) (xs:List PV) (_:Unit):Option (List PV×Unit):=bif decide (xs.length<=aat)&&ag7 xs then some (alj xs,()) else none
def avq (fuel:Nat):CallE:=⟨31,⟨2,[.arr 62 0,.box 39 .leaf],[(.con (.ifc 39 (.arr 0 0 62))),(.con (.fn 32 0 [(.ref 1 [] 39)])),(.slice 62),(.con (.arr 0 0 62))]⟩,⟨0,[.arr 62 1,.box 39 .leaf],[(.slice 62),(.con (.arr 0 1 62))]⟩,fun x=>amc fuel x.2.2.1 x.2.2.2,([],())⟩
theorem am2 {D:Dom}{ow:Own}{μ:Nat->Nat}{w w':World}{vals:Array Value}{asv:List SV}{xs ys:List PV}{v0:Value}{T':TypeId} (pre:Pre Tryz.prog D ow μ [.arr 62 0 xs,.box 39 (.arr 0 0 62)] w asv vals)
 (hos:w'.os=w.os) (htp:w'.tape=w.tape) (hout:w'.output=w.output) (hsz:w.heap.size<=w'.heap.size)
 (hh:∀ b,b<w.heap.size->(b=μ 0->xs=[])->w'.heap[b]?=w.heap[b]?) (hb:w.heap[μ 1]?=some (.cells #[v0] T' (0,0))) (hbo:ow (μ 1)=some 1) (hc1:1=Tryz.prog.cellsOf 39)
 (ha:ama Tryz.prog D w' ow μ 0 62 ys) (hr:SRep Tryz.prog D w' ow μ [.arr 62 1 ys,.box 39 (.arr 0 1 62)] (.arr 0 1 62) (pack Tryz.prog 39 [v0])) (hx:xs≠[]->ow (μ 0)=some 0) (hne:μ 1=μ 0->xs=[]):
 Post Tryz.prog D w ow μ [.arr 62 0 xs,.box 39 (.arr 0 0 62)] [] [.arr 62 1 ys,.box 39 (.arr 0 1 62)] (.tuple #[]) D w':=by
 have hlt:=pre.objs.owlt
 have hold:∀ b,b<w.heap.size->ow b=none->w'.heap[b]?=w.heap[b]?:=fun b hb hn=>hh b hb fun e=>by
  by_cases q:xs=[]
  ·exact q
  ·have:=hx q;rw [<-e,hn] at this;cases this
 have hk:Keeps D w w':=Keeps.of_heap fun b o d=>hh b (pre.objs.dlt b o d) fun e=>by
  by_cases q:xs=[]
  ·exact q
  ·exact absurd d (by rw [e];exact pre.objs.lone _ 0 _ (hx q) rfl (fun g=>by simp) o)
 refine ⟨fun _ _ d=>d,fun _ _ d=>Or.inl d,⟨ow,μ,⟨fun k b hk=>?_,fun b k q=>?_,fun b o d=>?_,fun b k x q r hx=>?_⟩,(aim (rs:=[]) (.tup rfl (fun i s v hs hv=>by cases hs))).1,fun b k q _=>q,fun k b hk=>?_,fun k E g xs ys' hk hk'=>?_⟩,hos,htp,hout,hsz,hold,hk⟩
 ·match k,hk with
  | 0,hk=>cases hk;exact ha
  | 1,hk=>
   cases hk
   exact ⟨[v0],T',by rw [hh _ (hlt _ _ hbo).1 hne];exact hb,hc1,hbo,pre.objs.lone _ 1 _ hbo rfl (fun g=>by simp),hr⟩
  | k+2,hk=>cases hk
 ·exact ⟨by have:=(hlt b k q).1;omega,(hlt b k q).2⟩
 ·have:=pre.objs.dlt b o d;omega
 ·match k,r with
  | 0,r=>exact pre.objs.lone b 0 _ q rfl (fun g=>by simp)
  | 1,r=>exact pre.objs.lone b 1 _ q rfl (fun g=>by simp)
  | k+2,r=>cases r
 ·match k,hk with
  | 0,hk=>cases hk;exact ⟨_,rfl,rfl,fun _ _=>rfl⟩
  | 1,hk=>cases hk;exact ⟨_,rfl,rfl,fun _ _=>rfl⟩
  | k+2,hk=>cases hk
 ·match k,hk' with
  | 0,hk'=>cases hk'
  | 1,hk'=>cases hk'
  | k+2,hk'=>cases hk'
theorem aye (fuel:Nat):(avq fuel).Ok Tryz.prog:=by
 intro x y h
 obtain ⟨⟨⟩,⟨⟩,xs,⟨⟩⟩:=x
 obtain ⟨ys,⟨⟩⟩:=y
 have h:amc fuel xs ()=some (ys,()):=h
 unfold amc at h
 cases hn0:decide (xs.length<=aat)&&ag7 xs with
 | false=>rw [hn0] at h;cases h
 | true=>
 rw [hn0] at h
 rw [Bool.and_eq_true] at hn0
 obtain ⟨hmx,hn⟩:=hn0
 have hmx:=of_decide_eq_true hmx
 simp only [cond_true,Option.some.injEq,Prod.mk.injEq,and_true] at h
 subst h
 have hE:aws Tryz.prog 62=true:=by kernel_rfl
 have hc:Tryz.prog.cellsOf 62=3:=by kernel_rfl
 have hc1:1=Tryz.prog.cellsOf 39:=by kernel_rfl
 have hpk:∀ v,pack Tryz.prog 39 [v]=v:=fun v=>by
  have:aah Tryz.prog 39=false:=by kernel_rfl
  simp [pack,this]
 refine ⟨akk Tryz.func31 (by kernel_rfl) (by kernel_rfl),fun D ow μ w vals pre=>?_⟩
 obtain ⟨u,v,rfl⟩:∃ u v,vals=#[u,v]:=by
  have:=pre.size
  match vals,this with
  | ⟨[a,b]⟩,_=>exact ⟨a,b,rfl⟩
 have h1:=pre.arg 0 _ u rfl rfl
 have h2:=pre.arg 1 _ v rfl rfl
 have h0:ama Tryz.prog D w ow μ 0 62 xs:=pre.objs.obj 0 _ rfl
 have hb:BoxRep Tryz.prog D w ow μ _ 1 39 (.arr 0 0 62):=pre.objs.obj 1 _ rfl
 obtain ⟨cells,T',b1,b2,b3,b4,b5⟩:=hb
 obtain ⟨v0,rfl⟩:∃ v0,cells=[v0]:=by
  rw [<-hc1] at b2
  match cells,b2 with
  | [a],_=>exact ⟨a,rfl⟩
 rw [hpk] at b5
 cases h1 with
 | ifc h1=>
 cases h2 with
 | fn h2 h3 h4=>
 rename_i us vs
 obtain rfl:us=#[]:=Array.eq_empty_of_size_eq_zero h2
 obtain ⟨q,rfl⟩:∃ q,vs=#[q]:=by
  have hs:vs.size=1:=by simpa using h3
  match vs,hs with
  | ⟨[a]⟩,_=>exact ⟨a,rfl⟩
 obtain rfl:q=.pointer (some ⟨μ 1,0,none⟩):=by
  have:=h4 0 _ q rfl rfl
  cases this with
  | ref q1 q2=>cases q2;rfl
 have hlt:=pre.objs.owlt
 have hbl:=(hlt _ _ b3).1
 have hx0:xs≠[]->ow (μ 0)=some 0:=fun q=>by
  rcases h0 with h0 | ⟨_,_,h0,_⟩
  ·exact absurd h0 q
  ·exact h0
 have hne:μ 1=μ 0->xs=[]:=fun e=>by
  by_cases q:xs=[]
  ·exact q
  ·have:=hx0 q;rw [<-e,b3] at this;cases this
 have hall:∀ x,x∈xs->x=aax (ag1 x):=fun x hx=>by
  rcases h0 with rfl | ⟨cur,_,_,_,_,h0⟩
  ·cases hx
  ·obtain ⟨i,hi⟩:=List.mem_iff_getElem?.1 hx
   have:=h0 i x hi
   rw [hc] at this
   exact (aoh hE hc this).2
 have hval:∀ {w':World}{ys:List PV}{v:Value},SRep Tryz.prog D w ow μ [.arr 62 0 xs,.box 39 (.arr 0 0 62)] (.arr 0 0 62) v->ys.length=xs.length->(∀ cur,w.heap[μ 0]?=some (.cells cur 62 (0,0))->ow (μ 0)=some 0->∃ cur',w'.heap[μ 0]?=some (.cells cur' 62 (0,0))/\cur'.size=cur.size)->
  SRep Tryz.prog D w' ow μ [.arr 62 1 ys,.box 39 (.arr 0 1 62)] (.arr 0 1 62) v:=by
  intro w' ys v h hl hcur
  cases h with
  | arrOld hk hg _=>cases hk;omega
  | arrNil hk=>
   cases hk
   have:ys=[]:=List.length_eq_zero_iff.1 hl
   subst this
   exact .arrNil rfl
  | arr hk h5 h6 h7 h8 h9=>
   cases hk
   obtain ⟨cur',k1,k2⟩:=hcur _ h7 h8
   rw [<-hl]
   exact .arr rfl (by omega) h6 k1 h8 (by omega)
 have tiny:∀ p n c,n<=1->xs.length<=1->Calls Tryz.prog 31 #[.iface 39 (.slice p n c),.func (.func 32) #[] #[.pointer (some ⟨μ 1,0,none⟩)]] w fun e w'=>∃ v D',e=afq [] v/\Post Tryz.prog D w ow μ [.arr 62 0 xs,.box 39 (.arr 0 0 62)] [] [.arr 62 1 (alj xs),.box 39 (.arr 0 1 62)] v D' w':=by
  intro p n c hn hx1
  have ks:∃ f,Tryz.prog.funcs.findIdx? (·.name== "internal/reflectlite"++ ".Swapper$"++toString (swapperK n ((Tryz.prog.info? 62).getD default) 25))=some f:=by
   rcases Nat.lt_or_ge n 1 with q | q
   ·obtain rfl:n=0:=by omega
    exact ⟨83,by kernel_rfl⟩
   ·obtain rfl:n=1:=by omega
    exact ⟨84,by kernel_rfl⟩
  obtain ⟨f,hf⟩:=ks
  refine (Any.sort_Slice_tiny Tryz.laysGg6 39 62 ((Tryz.prog.info? 39).getD default) ((Tryz.prog.info? 62).getD default) (by kernel_rfl) (by kernel_rfl) (by kernel_rfl) (by kernel_rfl) 25 (fun w=>by kernel_rfl) p n c hn f hf _ _ _ w).mono ?_
  rintro e w' ⟨rfl,os,rfl⟩
  have hh:∀ b,b<w.heap.size->(grow w os).heap[b]?=w.heap[b]?:=fun b hb=>Array.getElem?_append_left hb
  have hs:alj xs=xs:=by
   match xs,hx1 with
   | [],_=>rfl
   | [x],_=>rfl
  rw [hs]
  refine ⟨.tuple #[],D,rfl,am2 pre rfl rfl rfl (by simp only [size_grow];omega) (fun b hb _=>hh b hb) b1 b3 hc1 ?_ (by rw [hpk];exact hval b5 rfl fun cur h7 h8=>⟨cur,by rw [hh _ (hlt _ _ h8).1];exact h7,rfl⟩) hx0 hne⟩
  rcases h0 with rfl | ⟨cur,a1,a2,a3,a4,a5⟩
  ·exact Or.inl rfl
  ·refine Or.inr ⟨cur,by rw [hh _ (hlt _ _ a2).1];exact a1,a2,a3,a4,fun i x hx=>?_⟩
   obtain ⟨e1,e2⟩:=aoh hE hc (a5 i x hx)
   have:=ax7 (D:=D) (w:=grow w os) hE hc (ag1 x)
   rw [<-e1,<-e2] at this
   exact this
 cases h1 with
 | arrOld hk hg _=>cases hk;omega
 | arrNil hk=>cases hk;exact tiny _ _ _ (by omega) (by simp)
 | arr hk k1 k2 k3 k4 k5=>
 cases hk
 rename_i cap cur
 by_cases h2:xs.length<=1
 ·exact tiny _ _ _ h2 h2
 have hnil:xs≠[]:=fun e=>by rw [e] at h2;simp at h2
 rcases h0 with h0 | ⟨cur',a1,a2,a3,a4,a5⟩
 ·exact absurd h0 hnil
 rw [k3] at a1;cases a1
 rw [hc] at k5 a4 a5
 have hv0:v0=.slice (some ⟨μ 0,0,none⟩) xs.length cap:=by
  cases b5 with
  | arrOld hk hg _=>cases hk;omega
  | arrNil hk=>cases hk;exact absurd rfl hnil
  | arr hk q1 q2 q3 q4 q5=>
   cases hk
   rw [k3] at q3;cases q3
   rw [hc] at q5
   congr 1
   omega
 obtain ⟨d,hdl⟩:∃ d:Array UseT,d.toList=xs.map ag1:=⟨(xs.map ag1).toArray,rfl⟩
 have hd:d.size=xs.length:=by rw [<-Array.length_toList,hdl,List.length_map]
 have hget:∀ i,(hi:i<xs.length)->d[i]! =ag1 xs[i]:=fun i hi=>by
  rw [getElem!_pos d i (by omega),<-Array.getElem_toList]
  simp only [hdl,List.getElem_map]
 have hH:HoldsK encU 3 w (μ 0) 0 d:=by
  intro j hj
  rw [size_flatK,hd] at hj
  have hi:j / 3<xs.length:=by omega
  have he:=(aoh hE hc (a5 (j / 3) xs[j / 3] (List.getElem?_eq_getElem hi))).1
  have hcell:cur[j]?=some (encU (ag1 xs[j / 3]))[j%3]!:=by
   have h3:j%3<3:=by omega
   have:((cur.toList.drop (j / 3*3)).take 3)[j%3]?=(encU (ag1 xs[j / 3]))[j%3]?:=by rw [he]
   rw [List.getElem?_take_of_lt h3,List.getElem?_drop] at this
   rw [show j / 3*3+j%3=j by omega] at this
   rw [<-Array.getElem?_toList,this]
   rw [List.getElem!_eq_getElem?_getD,List.getElem?_eq_getElem (show j%3<(encU (ag1 xs[j / 3])).length from h3)]
   rfl
  rw [get_flatK _ _ _ _ (by rw [hd];exact hj),hget _ hi]
  refine ⟨?_,?_⟩
  ·rw [Nat.zero_add];simp only [World.cell?,k3];exact hcell
  ·simp [World.frozen?,k3]
 have hBs:w.cell? ⟨μ 1,0,none⟩=some (.slice (some ⟨μ 0,0,none⟩) d.size cap):=by
  rw [hd,<-hv0]
  simp [World.cell?,b1]
 have hs:=sortU (μ 0) 0 cap (μ 1) d (by omega) (by have h62:xs.length<=68719476736:=hmx;omega) w hH (hlt _ _ a2).1 hBs hbl (fun e=>hnil (hne e))
 rw [hd] at hs
 refine hs.mono ?_
 rintro e w' ⟨rfl,d',n,os,⟨p1,_,p3⟩,hso,rfl⟩
 rw [hd] at p1
 have hw:∀ b,b<w.heap.size->_:=fun b hb=>aph w n (μ 0) d' os b hb
 have hp:d'.toList.Perm (xs.map ag1):=by
  have e1:d'.extract 0 xs.length=d':=by rw [<-p1];simp
  have e2:d.extract 0 xs.length=d:=by rw [<-hd];simp
  rw [e1,e2,hdl] at p3
  exact p3
 have hcmp:d'.toList.Pairwise (fun a b=>ltU a b=true∨ltU b a=true):=by
  have:(xs.map ag1).Pairwise (fun a b=>ltU a b=true∨ltU b a=true):=List.pairwise_map.2 (apq xs hn)
  exact (hp.pairwise_iff (fun h=>h.symm)).2 this
 have hstr:d'.toList.Pairwise (fun a b=>ltU a b=true):=by
  rw [List.pairwise_iff_getElem] at hcmp ⊢
  intro i j hi hj hij
  have l1:d'.toList.length=xs.length:=by simp [p1]
  have:=hso i j (Nat.zero_le _) hij (by omega)
  rcases hcmp i j hi hj hij with h | h
  ·exact h
  ·rw [getElem!_pos d' j (by omega),getElem!_pos d' i (by omega)] at this
   simp only [Array.getElem_toList] at h
   rw [this] at h;cases h
 have hd':d'.toList=(alj xs).map ag1:=aqg (hp.trans ((ae4 xs).symm.map _)) hstr (List.pairwise_map.2 (aju xs hn))
 have hlen:(alj xs).length=xs.length:=(ae4 xs).length_eq
 have hgd:∀ i x,(alj xs)[i]?=some x->i<d'.size/\d'[i]! =ag1 x:=fun i x hx=>by
  obtain ⟨hi,rfl⟩:=List.getElem?_eq_some_iff.1 hx
  have l1:i<d'.size:=by omega
  refine ⟨l1,?_⟩
  rw [getElem!_pos d' i l1,<-Array.getElem_toList]
  simp only [hd',List.getElem_map]
 refine ⟨.tuple #[],D,rfl,am2 pre rfl rfl rfl ?_ (fun b hb hb0=>?_) b1 b3 hc1 ?_ ?_ hx0 hne⟩
 ·have:(putRowK encU 3 (Sort.ahead w n) (μ 0) 0 d').heap.size=w.heap.size:=by
   show (w.heap.modify _ _).size=_
   simp
  simp only [size_grow,this];omega
 ·rw [hw b hb,if_neg (fun e=>hnil (hb0 e.symm))]
 ·refine Or.inr ⟨_,by rw [hw _ (hlt _ _ a2).1,if_pos rfl,k3];rfl,a2,a3,by rw [hc,hlen];simp only [putCells,Array.size_mapIdx];omega,fun i x hx=>?_⟩
  obtain ⟨l1,l2⟩:=hgd i x hx
  rw [hc,ap4 d' cur (by omega) i l1,l2,hall x ((ae4 xs).mem_iff.1 (List.mem_of_getElem? hx))]
  exact ax7 hE hc _
 ·rw [hpk]
  exact hval b5 hlen fun cur2 h7 h8=>⟨_,by rw [hw _ (hlt _ _ h8).1,if_pos rfl,h7];rfl,by simp [putCells]⟩
end Go.Ab
