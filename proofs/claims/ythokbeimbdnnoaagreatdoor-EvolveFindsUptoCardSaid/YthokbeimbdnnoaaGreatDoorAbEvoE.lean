/- strings.Cut; slices.Compact at []string, on a row of the call's own. -/
import Derived.Test.YthokbeimbdnnoaaGreatDoorAbLibE
import Derived.Lib.SlicesCompact
import Derived.Sort.EncStr
set_option linter.unusedVariables false
set_option linter.unusedSimpArgs false
set_option linter.unnecessarySimpa false
namespace Go.Ab
open Go Go.Proofs Go.Shelf Go.RowKit Go.Sort Go.Lib
theorem a1g {P:Program}{D:Dom}{ow:Own}{μ:Nat->Nat}{st:List BX}{w:World}{s t:SV}{vals:Array Value} (pre:Pre P D ow μ st w [s,t] vals):∃ u v,vals=#[u,v]/\SRep P D w ow μ st s u/\SRep P D w ow μ st t v:=by
 have:=pre.size
 match vals,this,pre with
 | ⟨[a,b]⟩,_,pre=>exact ⟨a,b,rfl,pre.arg 0 _ a rfl rfl,pre.arg 1 _ b rfl rfl⟩
theorem axz {P:Program}{ow:Own}{w:World} (ht:Tabs P ow w) {g:Nat} (hg:P.globalNamed "internal/bytealg.MaxLen"=some g):∃ m,w.cell? ⟨g,0,none⟩=some (.int .i64 m):=by
 obtain ⟨_,cs,T,fr,hh,m,hm⟩:=ht ("internal/bytealg.MaxLen",fun cs=>∃ m,cs[0]?=some (.int .i64 m)) (by simp [alb]) g hg
 exact ⟨m,by simp [World.cell?,hh,hm]⟩
def Lcut (fuel:Nat) (s sep:List UInt8):Option (List UInt8×List UInt8×Bool):=bif decide (s.length<4294967281) then some (Lib.cut s sep) else none
def a4f (fuel:Nat):CallE:={ f:=191,A:=⟨2,[],[.str,.str]⟩,R:=⟨3,[],[.str,.str,.bool]⟩,F:=fun x=>Lcut fuel x.1 x.2,dflt:=([],[],false) }
theorem a4g (fuel:Nat):(a4f fuel).Ok Tryz.prog:=by
 intro x y h
 obtain ⟨s,sep⟩:=x
 have h:Lcut fuel s sep=some y:=h
 obtain ⟨hb,rfl⟩:=aaw h
 have hb:=of_decide_eq_true hb
 refine adw (aa2 Tryz.func191 (by kernel_rfl) (by kernel_rfl)) (fun D ow μ w vals pre=>?_)
 obtain ⟨u,v,rfl,h1,h2⟩:=a1g pre
 cases h1;cases h2
 obtain ⟨m,hm⟩:=axz (g:=0) pre.tabs (by kernel_rfl)
 refine (Tryz.strings_Cut ⟨s.toArray⟩ ⟨sep.toArray⟩ m w hb hm).mono ?_
 rintro e w' ⟨rfl,n,rfl⟩
 refine ⟨_,rfl,fun ow' μ' st'=>?_,⟨rfl,rfl,rfl,Nat.le_refl _,fun b hb=>rfl⟩⟩
 refine .tup rfl (fun i s' v' hs hv=>?_)
 match i,hs,hv with
 | 0,hs,hv=>cases hs;cases hv;exact .str
 | 1,hs,hv=>cases hs;cases hv;exact .str
 | 2,hs,hv=>cases hs;cases hv;exact .bool
theorem a0v {P:Program}{D:Dom}{w w':World}{ow:Own}{μ:Nat->Nat}{E:TypeId}{fl cap:Nat}{xs ys:List PV}{asv:List SV}{vals:Array Value}{cur cur':Array Value} (pre:Pre P D ow μ [.arr E fl xs] w asv vals)
 (hh:w.heap[μ 0]?=some (.cells cur E (0,0))) (ho:ow (μ 0)=some 0) (hh':w'.heap[μ 0]?=some (.cells cur' E (0,0))) (hs:cur'.size=cur.size) (hc:cap*P.cellsOf E=cur.size) (hm:cap<=maxLen) (hle:ys.length<=cap)
 (hoth:∀ b,b≠μ 0->b<w.heap.size->w'.heap[b]?=w.heap[b]?) (hsz:w.heap.size<=w'.heap.size) (h1:w'.os=w.os) (h2:w'.tape=w.tape) (h3:w'.output=w.output)
 (hr:∀ (i:Nat) (x:PV),ys[i]?=some x->Rep P D w' E x ((cur'.toList.drop (i*P.cellsOf E)).take (P.cellsOf E))):
 Post P D w ow μ [.arr E fl xs] [.arr 0 1 E] [.arr E 1 ys] (.slice (some ⟨μ 0,0,none⟩) ys.length cap) D w':=by
 have lone:∀ b,ow b=some 0->∀ o,¬D b o:=fun b ob o d=>pre.objs.lone b 0 _ ob rfl (by simp) o d
 have hDm:=lone _ ho
 have noOwn:∀ b o,D b o->ow b=none:=fun b o d=>by
  cases hb:ow b with
  | none=>rfl
  | some k=>
   have hk:=(pre.objs.owlt b k hb).2
   have:k=0:=by simp at hk;omega
   subst this
   exact absurd d (lone b hb o)
 have old:∀ b,b<w.heap.size->ow b=none->w'.heap[b]?=w.heap[b]?:=fun b hb hn=>hoth b (fun e=>by rw [e,ho] at hn;cases hn) hb
 have hlt:μ 0<w.heap.size:=(Array.getElem?_eq_some_iff.1 hh).1
 refine ⟨fun _ _ d=>d,fun _ _ d=>Or.inl d,⟨fun b=>if b=μ 0 then some 0 else none,μ,⟨fun k b hk=>?_,fun b k hb=>?_,fun b o d=>Nat.lt_of_lt_of_le (pre.dlt b o d) hsz,fun b k x hb _ _ o d=>?_⟩,?_,fun b k hb hlt=>?_,fun k b hk=>?_,fun k E' g xs' ys' hk hk'=>?_⟩,h1,h2,h3,hsz,old,Keeps.of_heap fun b o d=>old b (pre.dlt b o d) (noOwn b o d)⟩
 ·cases k with
  | zero=>
   cases hk
   exact Or.inr ⟨cur',hh',if_pos rfl,hDm,by rw [hs,<-hc];exact Nat.mul_le_mul_right _ hle,hr⟩
  | succ k=>simp at hk
 ·split at hb
  ·rename_i e;cases hb;subst e;exact ⟨Nat.lt_of_lt_of_le hlt hsz,by simp⟩
  ·cases hb
 ·split at hb
  ·rename_i e;subst e;exact hDm o d
  ·cases hb
 ·exact .arr (cur:=cur') rfl hle hm hh' (if_pos rfl) (by rw [hs];exact hc)
 ·split at hb
  ·rename_i e;cases hb;subst e;exact ho
  ·cases hb
 ·cases k with
  | zero=>cases hk;exact ⟨_,rfl,rfl,fun _ h=>absurd rfl (h _ _ _)⟩
  | succ k=>simp at hk
 ·cases k with
  | zero=>cases hk'
  | succ k=>simp at hk
theorem ap4 {P:Program}{D:Dom}{w:World}{ow:Own}{μ:Nat->Nat}{E:TypeId}{fl:Nat}{asv:List SV}{vals:Array Value}{a:Option Addr} (pre:Pre P D ow μ [.arr E fl []] w asv vals):
 Post P D w ow μ [.arr E fl []] [.arr 0 1 E] [.arr E 1 []] (.slice a 0 0) D w:=by
 have lone:∀ b,ow b=some 0->∀ o,¬D b o:=fun b ob o d=>pre.objs.lone b 0 _ ob rfl (by simp) o d
 refine ⟨fun _ _ d=>d,fun _ _ d=>Or.inl d,⟨fun _=>none,μ,⟨fun k b hk=>?_,fun b k hb=>(by cases hb),fun b o d=>pre.dlt b o d,fun b k x hb=>(by cases hb)⟩,?_,fun b k hb=>(by cases hb),fun k b hk=>?_,fun k E' g xs' ys' hk hk'=>?_⟩,rfl,rfl,rfl,Nat.le_refl _,fun _ _ _=>rfl,Keeps.refl _ _⟩
 ·cases k with
  | zero=>cases hk;exact Or.inl rfl
  | succ k=>simp at hk
 ·exact .arrNil rfl
 ·cases k with
  | zero=>cases hk;exact ⟨_,rfl,rfl,fun _ h=>absurd rfl (h _ _ _)⟩
  | succ k=>simp at hk
 ·cases k with
  | zero=>cases hk'
  | succ k=>simp at hk
theorem a0u {D:Dom}{w:World}{x:PV}{cs:List Value} (h:Rep Tryz.prog D w 9 x cs):x=.str x.asStr/\cs=[.string ⟨x.asStr.toArray⟩]:=by
 cases h with
 | str hT=>exact ⟨rfl,rfl⟩
 | raw h _=>exact absurd h (by simp [rawT,Tryz.underlying9])
 | _=>rename_i hT;first | (rw [Tryz.underlying9] at hT;cases hT;done) | (exfalso;simp_all [Tryz.underlying9])
def agf (xs:List PV):List PV:=(Lib.compact (xs.map PV.asStr)).map PV.str
def ah2 (fuel:Nat) (xs:List PV):Option (Unit×List PV):=bif decide (xs.length<=aam) then some ((),agf xs) else none
theorem akx {α:Type} [Inhabited α] [DecidableEq α] (d:Array α) (m:Nat):(Lib.compactUpTo d m).length<=m:=by
 unfold Lib.compactUpTo
 rw [List.length_map]
 refine Nat.le_trans (List.length_filter_le _ _) (by simp)
theorem ane (fl:Nat) (xs:List PV) (hx:xs.length<=aam):Meets Tryz.prog 63 [.arr 0 fl 9] [.arr 9 fl xs] [.arr 0 1 9] [.arr 9 1 (agf xs)]:=by
 refine ⟨aa2 Tryz.func63 (by kernel_rfl) (by kernel_rfl),fun D ow μ w vals pre=>?_⟩
 obtain ⟨v0,rfl⟩:∃ v0,vals=#[v0]:=by
  have:=pre.size
  match vals,this with
  | ⟨[a]⟩,_=>exact ⟨a,rfl⟩
 have a0:=pre.arg 0 _ v0 rfl rfl
 have hcell:Tryz.prog.cellsOf 9=1:=by kernel_rfl
 cases a0 with
 | arrOld h1 h2 _=>cases h1;omega
 | @arrNil _ _ _ a h1=>
  cases h1
  refine (Tryz.slices_Compact_string_empty a 0 w).mono ?_
  rintro e w' ⟨rfl,rfl⟩
  exact ⟨_,D,rfl,ap4 pre⟩
 | @arr _ _ cap _ _ cur h1 h2 h3 h4 h5 h6=>
  cases h1
  rw [hcell,Nat.mul_one] at h6
  have hcells:∀ (j:Nat),j<xs.length->cur[j]?=some (encStr (xs.getD j .bad).asStr)/\xs[j]?=some (.str (xs.getD j .bad).asStr):=by
   intro j hj
   rcases pre.objs.obj 0 _ rfl with h | ⟨cur',a1,a2,a3,a4,a5⟩
   ·subst h;simp at hj
   ·rw [h4] at a1;cases a1
    have hjx:xs[j]?=some (xs.getD j .bad):=by simp [List.getElem?_eq_getElem hj]
    obtain ⟨q1,q2⟩:=a0u (a5 j _ hjx)
    rw [hcell,Nat.mul_one] at q2
    refine ⟨?_,by rw [<-q1];exact hjx⟩
    have:(List.take 1 (List.drop j cur.toList))[0]?=some (encStr (xs.getD j .bad).asStr):=by rw [q2];rfl
    simpa using this
  have hzs:(xs.map PV.asStr).length=xs.length:=by simp
  have hH:Holds encStr w (μ 0) 0 (xs.map PV.asStr).toArray:=by
   intro j hj
   have hj:j<xs.length:=by simpa using hj
   have e:(xs.map PV.asStr).toArray[j]! =(xs.getD j .bad).asStr:=by
    rw [getElem!_pos _ j (by simpa using hj)];simp [hj]
   obtain ⟨q1,_⟩:=hcells j hj
   rw [e]
   refine ⟨by simp only [World.cell?,h4,Nat.zero_add];simpa using q1,by simp [World.frozen?,h4]⟩
  have hmx:xs.length<=9223372036854775807:=by unfold aam at hx;omega
  have hrun:=Tryz.slices_Compact_string (μ 0) 0 cap (xs.map PV.asStr) w hH (by rw [hzs];exact hmx) (by rw [hzs];exact h2)
  rw [hzs] at hrun
  refine hrun.mono ?_
  rintro e w' ⟨rfl,q,rfl⟩
  have hlc:(Lib.compact (xs.map PV.asStr)).length<=xs.length:=by rw [<-hzs];exact akx _ _
  have hly:(agf xs).length=(Lib.compact (xs.map PV.asStr)).length:=by simp [agf]
  generalize hd:(Lib.compact (xs.map PV.asStr)++List.replicate (xs.length-(Lib.compact (xs.map PV.asStr)).length) []).toArray=d
  have hdz:d.size=xs.length:=by rw [<-hd];simp;omega
  have hheap:(putRow encStr (Sort.ahead w q) (μ 0) 0 d).heap[μ 0]?=some (.cells (putCells encStr 0 d cur) 9 (0,0)):=by
   have hlt:μ 0<w.heap.size:=(Array.getElem?_eq_some_iff.1 h4).1
   simp only [putRow,mapBlock,Array.getElem?_modify,if_true]
   show Option.map _ w.heap[μ 0]?=_
   rw [h4];rfl
  refine ⟨_,D,rfl,?_⟩
  rw [<-hly]
  refine a0v pre h4 h5 hheap (by simp [putCells]) (by rw [hcell,Nat.mul_one];exact h6) h3 (by omega) (fun b hb _=>?_) (by simp) rfl rfl rfl (fun i x hi=>?_)
  ·simp only [putRow,mapBlock,Array.getElem?_modify,if_neg (Ne.symm hb)]
   rfl
  ·have hil:i<(Lib.compact (xs.map PV.asStr)).length:=by rw [<-hly];exact (List.getElem?_eq_some_iff.1 hi).1
   have ex:x=.str (Lib.compact (xs.map PV.asStr))[i]:=by
    unfold agf at hi
    rw [List.getElem?_map,List.getElem?_eq_getElem hil] at hi
    exact (Option.some.inj hi).symm
   rw [hcell,Nat.mul_one]
   have ed:d[i]! =(Lib.compact (xs.map PV.asStr))[i]:=by
    rw [getElem!_pos _ i (by rw [hdz];omega)]
    have e2:d.toList=Lib.compact (xs.map PV.asStr)++List.replicate (xs.length-(Lib.compact (xs.map PV.asStr)).length) []:=by rw [<-hd]
    rw [<-Array.getElem_toList]
    have:∀ (l l':List (List UInt8)) (h:i<l.length) (h':i<l'.length),l=l'->l[i]=l'[i]:=fun l l' h h' e=>by subst e;rfl
    rw [this _ _ _ (by rw [List.length_append];omega) e2,List.getElem_append_left hil]
   have hic:i<cur.size:=by omega
   have ec:(putCells encStr 0 d cur)[i]?=some (encStr (Lib.compact (xs.map PV.asStr))[i]):=by
    simp only [putCells,Array.getElem?_mapIdx,Array.getElem?_eq_getElem hic,Option.map_some]
    rw [if_pos ⟨Nat.zero_le _,by rw [hdz];omega⟩,Nat.sub_zero,ed]
   have et:List.take 1 (List.drop i (putCells encStr 0 d cur).toList)=[encStr (Lib.compact (xs.map PV.asStr))[i]]:=by
    have hl:i<(putCells encStr 0 d cur).toList.length:=by simp [putCells];exact hic
    have hx:(putCells encStr 0 d cur).toList[i]=encStr (Lib.compact (xs.map PV.asStr))[i]:=by
     have h9:=ec
     rw [<-Array.getElem?_toList,List.getElem?_eq_getElem hl] at h9
     exact Option.some.inj h9
    rw [List.drop_eq_getElem_cons hl,hx,show (1:Nat)=0+1 from rfl,List.take_succ_cons,List.take_zero]
   rw [et,ex]
   exact .str Tryz.underlying9
def afg (fuel:Nat):CallE:={ f:=63,A:=⟨1,[.arr 9 0],[.con (.arr 0 0 9),.slice 9]⟩,R:=⟨1,[.arr 9 1],[.con (.arr 0 1 9),.slice 9]⟩,F:=fun x=>ah2 fuel x.2,dflt:=((),[]) }
theorem af9 (fuel:Nat):(afg fuel).Ok Tryz.prog:=by
 intro x y h
 obtain ⟨u,xs⟩:=x
 have h:ah2 fuel xs=some y:=h
 obtain ⟨hb,rfl⟩:=aaw h
 exact ane 0 xs (of_decide_eq_true hb)
end Go.Ab
