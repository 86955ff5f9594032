/- strings.Cut; slices.Compact at []string, on a row of the call's own. -/
import Derived.Test.YthokbeimbdnnoaaGreatDoorAbLibE
import Derived.Lib.SlicesCompact
import Derived.Sort.EncStr
set_option linter.unusedVariables false
set_option linter.unusedSimpArgs false
set_option linter.unnecessarySimpa false
namespace Go.Ab
open Go Go.Proofs Go.Shelf Go.RowKit Go.Sort Go.Lib
theorem a3l {P:Program}{D:Dom}{ow:Own}{μ:Nat->Nat}{st:List BX}{w:World}{s t:SV}{o:Array Value} (h:Pre P D ow μ st w [s,t] o):∃ u v,o=#[u,v]/\SRep P D w ow μ st s u/\SRep P D w ow μ st t v:=by
 have:=h.size;match o,this,h with
 | ⟨[a,b]⟩,_,h=>exact ⟨a,b,rfl,h.arg 0 _ a rfl rfl,h.arg 1 _ b rfl rfl⟩
theorem ay9 {P:Program}{ow:Own}{w:World} (H:Tabs P ow w) {g:Nat} (h:P.globalNamed "internal/bytealg.MaxLen"=some g):∃ m,w.cell? ⟨g,0,none⟩=some (.int .i64 m):=by obtain ⟨_,cs,T,I,o,m,z⟩:=H ("internal/bytealg.MaxLen",λcs=>∃ m,cs[0]?=some (.int .i64 m)) (by simp [aly]) g h;exact ⟨m,by simp [World.cell?,o,z]⟩
def Lcut (o:Nat) (s h:Bq):Option (Bq×Bq×Bool):=bif decide (s.length<4294967281) then some (Lib.cut s h) else none
def a6x (h:Nat):CallE:={ f:=191,A:=⟨2,[],[.str,.str]⟩,R:=⟨3,[],[.str,.str,.bool]⟩,F:=λx=>Lcut h x.1 x.2,dflt:=([],[],false) }
theorem a6y (o:Nat):(a6x o).Ok Tryz.prog:=by
 intro x y h;obtain ⟨s,J⟩:=x;have h:Lcut o s J=some y:=h;obtain ⟨M,rfl⟩:=aa0 h;have M:=of_decide_eq_true M;refine aea (aa7 Tryz.func191 (by kernel_rfl) (by kernel_rfl)) (λD ow μ w O I=>?_);obtain ⟨u,v,rfl,Z,h2⟩:=a3l I;cases Z;cases h2;obtain ⟨m,hm⟩:=ay9 (g:=0) I.tabs (by kernel_rfl);refine (Tryz.strings_Cut ⟨s.toArray⟩ ⟨J.toArray⟩ m w M hm).mono ?_;rintro e w' ⟨rfl,n,rfl⟩;refine ⟨_,rfl,λaa ab st'=>?_,⟨rfl,rfl,rfl,Nat.le_refl _,λb M=>rfl⟩⟩;refine .tup rfl (λi s' v' z H=>?_);match i,z,H with
 | 0,z,H=>cases z;cases H;exact .str
 | 1,z,H=>cases z;cases H;exact .str
 | 2,z,H=>cases z;cases H;exact .bool
theorem a2o {P:Program}{D:Dom}{w w':World}{ow:Own}{μ:Nat->Nat}{E:TypeId}{fl cap:Nat}{xs ys:List PV}{ai:List SV}{ah:Array Value}{cur z:Array Value} (J:Pre P D ow μ [.arr E fl xs] w ai ah)
 (hh:w.heap[μ 0]?=some (.cells cur E (0,0))) (ho:ow (μ 0)=some 0) (ab:w'.heap[μ 0]?=some (.cells z E (0,0))) (hs:z.size=cur.size) (hc:cap*P.cellsOf E=cur.size) (hm:cap<=maxLen) (ad:ys.length<=cap)
 (af:∀ b,b≠μ 0->b<w.heap.size->w'.heap[b]?=w.heap[b]?) (O:w.heap.size<=w'.heap.size) (h1:w'.os=w.os) (h2:w'.tape=w.tape) (h3:w'.output=w.output)
 (hr:∀ (i:Nat) (x:PV),ys[i]?=some x->Rep P D w' E x ((z.toList.drop (i*P.cellsOf E)).take (P.cellsOf E))):
 Post P D w ow μ [.arr E fl xs] [.arr 0 1 E] [.arr E 1 ys] (.slice (some ⟨μ 0,0,none⟩) ys.length cap) D w':=by
 have M:∀ b,ow b=some 0->∀ o,¬D b o:=λb ob o d=>J.objs.lone b 0 _ ob rfl (by simp) o d
 have aa:=M _ ho
 have Z:∀ b o,D b o->ow b=none:=λb o d=>by
  cases H:ow b with
  | none=>rfl
  | some k=>
   have I:=(J.objs.owlt b k H).2;have:k=0:=by simp at I;omega
   subst this;exact absurd d (M b H o)
 have ag:∀ b,b<w.heap.size->ow b=none->w'.heap[b]?=w.heap[b]?:=λb H hn=>af b (λe=>by rw [e,ho] at hn;cases hn) H
 have ae:μ 0<w.heap.size:=(Array.getElem?_eq_some_iff.1 hh).1
 refine ⟨λ_ _ d=>d,λ_ _ d=>Or.inl d,⟨λb=>if b=μ 0 then some 0 else none,μ,⟨λk b I=>?_,λb k H=>?_,λb o d=>A5 (J.dlt b o d) O,λb k x H _ _ o d=>?_⟩,?_,λb k H ae=>?_,λk b I=>?_,λk E' g xs' ak I aj=>?_⟩,h1,h2,h3,O,ag,Keeps.of_heap λb o d=>ag b (J.dlt b o d) (Z b o d)⟩
 ·cases k with
  | zero=>cases I;exact Or.inr ⟨z,ab,if_pos rfl,aa,by rw [hs,<-hc];exact Ay _ ad,hr⟩
  | succ k=>simp at I
 ·split at H
  ·rename_i e;cases H;subst e;exact ⟨A5 ae O,by simp⟩
  ·cases H
 ·split at H
  ·rename_i e;subst e;exact aa o d
  ·cases H
 ·exact .arr (cur:=z) rfl ad hm ab (if_pos rfl) (by rw [hs];exact hc)
 ·split at H
  ·rename_i e;cases H;subst e;exact ho
  ·cases H
 ·cases k with
  | zero=>cases I;exact ⟨_,rfl,rfl,λ_ h=>absurd rfl (h _ _ _)⟩
  | succ k=>simp at I
 ·cases k with
  | zero=>cases aj
  | succ k=>simp at I
theorem arb {P:Program}{D:Dom}{w:World}{ow:Own}{μ:Nat->Nat}{E:TypeId}{Z:Nat}{M:List SV}{J:Array Value}{a:Option Addr} (I:Pre P D ow μ [.arr E Z []] w M J):
 Post P D w ow μ [.arr E Z []] [.arr 0 1 E] [.arr E 1 []] (.slice a 0 0) D w:=by
 have aa:∀ b,ow b=some 0->∀ o,¬D b o:=λb ob o d=>I.objs.lone b 0 _ ob rfl (by simp) o d
 refine ⟨λ_ _ d=>d,λ_ _ d=>Or.inl d,⟨λ_=>none,μ,⟨λk b z=>?_,λb k H=>(by cases H),λb o d=>I.dlt b o d,λb k x H=>(by cases H)⟩,?_,λb k H=>(by cases H),λk b z=>?_,λk E' g xs' ab z O=>?_⟩,rfl,rfl,rfl,Nat.le_refl _,λ_ _ _=>rfl,Keeps.refl _ _⟩
 ·cases k with
  | zero=>cases z;exact Or.inl rfl
  | succ k=>simp at z
 ·exact .arrNil rfl
 ·cases k with
  | zero=>cases z;exact ⟨_,rfl,rfl,λ_ h=>absurd rfl (h _ _ _)⟩
  | succ k=>simp at z
 ·cases k with
  | zero=>cases O
  | succ k=>simp at z
theorem a2n {D:Dom}{w:World}{x:PV}{cs:List Value} (h:Rep Tryz.prog D w 9 x cs):x=.str x.asStr/\cs=[.string ⟨x.asStr.toArray⟩]:=by
 cases h with
 | str o=>exact ⟨rfl,rfl⟩
 | raw h _=>exact absurd h (by simp [rawT,Tryz.underlying9])
 | _=>rename_i o;first | (rw [Tryz.underlying9] at o;cases o;done) | (exfalso;simp_all [Tryz.underlying9])
def ags (xs:List PV):List PV:=(Lib.compact (xs.map PV.asStr)).map PV.str
def aik (h:Nat) (xs:List PV):Option (Unit×List PV):=bif decide (xs.length<=aae) then some ((),ags xs) else none
theorem alh {h:Type} [Inhabited h] [DecidableEq h] (d:Array h) (m:Nat):(Lib.compactUpTo d m).length<=m:=by unfold Lib.compactUpTo;rw [List.length_map];refine Nat.le_trans (List.length_filter_le _ _) (by simp)
theorem aoh (fl:Nat) (xs:List PV) (hx:xs.length<=aae):Meets Tryz.prog 63 [.arr 0 fl 9] [.arr 9 fl xs] [.arr 0 1 9] [.arr 9 1 (ags xs)]:=by
 refine ⟨aa7 Tryz.func63 (by kernel_rfl) (by kernel_rfl),λD ow μ w O z=>?_⟩;obtain ⟨v0,rfl⟩:∃ v0,O=#[v0]:=by
  have:=z.size;match O,this with
  | ⟨[a]⟩,_=>exact ⟨a,rfl⟩
 have a0:=z.arg 0 _ v0 rfl rfl;have o:Tryz.prog.cellsOf 9=1:=by kernel_rfl
 cases a0 with
 | arrOld h1 h2 _=>cases h1;omega
 | @arrNil _ _ _ a h1=>cases h1;refine (Tryz.slices_Compact_string_empty a 0 w).mono ?_;rintro e w' ⟨rfl,rfl⟩;exact ⟨_,D,rfl,arb z⟩
 | @arr _ _ cap _ _ cur h1 h2 h3 h4 h5 h6=>
  cases h1;rw [o,Nat.mul_one] at h6;have H:∀ (j:Nat),j<xs.length->cur[j]?=some (encStr (xs.getD j .bad).asStr)/\xs[j]?=some (.str (xs.getD j .bad).asStr):=by
   intro j J;rcases z.objs.obj 0 _ rfl with h | ⟨ah,a1,a2,a3,a4,a5⟩
   ·subst h;simp at J
   ·rw [h4] at a1;cases a1;have ae:xs[j]?=some (xs.getD j .bad):=by simp [Aq J]
    obtain ⟨q1,q2⟩:=a2n (a5 j _ ae);rw [o,Nat.mul_one] at q2;refine ⟨?_,by rw [<-q1];exact ae⟩;have:(List.take 1 (List.drop j cur.toList))[0]?=some (encStr (xs.getD j .bad).asStr):=by rw [q2];rfl
    simpa using this
  have I:(xs.map PV.asStr).length=xs.length:=by simp
  have hH:Holds encStr w (μ 0) 0 (xs.map PV.asStr).toArray:=by
   intro j J;have J:j<xs.length:=by simpa using J
   have e:(xs.map PV.asStr).toArray[j]! =(xs.getD j .bad).asStr:=by rw [getElem!_pos _ j (by simpa using J)];simp [J]
   obtain ⟨q1,_⟩:=H j J;rw [e];refine ⟨by simp only [World.cell?,h4,Nat.zero_add];simpa using q1,by simp [World.frozen?,h4]⟩
  have ag:xs.length<=9223372036854775807:=by unfold aae at hx;omega
  have M:=Tryz.slices_Compact_string (μ 0) 0 cap (xs.map PV.asStr) w hH (by rw [I];exact ag) (by rw [I];exact h2);rw [I] at M;refine M.mono ?_;rintro e w' ⟨rfl,q,rfl⟩;have ai:(Lib.compact (xs.map PV.asStr)).length<=xs.length:=by rw [<-I];exact alh _ _
  have af:(ags xs).length=(Lib.compact (xs.map PV.asStr)).length:=by simp [ags]
  generalize hd:(Lib.compact (xs.map PV.asStr)++List.replicate (xs.length-(Lib.compact (xs.map PV.asStr)).length) []).toArray=d;have aa:d.size=xs.length:=by rw [<-hd];simp;omega
  have Z:(putRow encStr (Sort.ahead w q) (μ 0) 0 d).heap[μ 0]?=some (.cells (putCells encStr 0 d cur) 9 (0,0)):=by have aj:μ 0<w.heap.size:=(Array.getElem?_eq_some_iff.1 h4).1;simp only [putRow,mapBlock,Array.getElem?_modify,Ba];show Option.map _ w.heap[μ 0]?=_;rw [h4];rfl
  refine ⟨_,D,rfl,?_⟩;rw [<-af];refine a2o z h4 h5 Z (by simp [putCells]) (by rw [o,Nat.mul_one];exact h6) h3 (by omega) (λb hb _=>?_) (by simp) rfl rfl rfl (λi x hi=>?_)
  ·simp only [putRow,mapBlock,Array.getElem?_modify,if_neg (Ne.symm hb)];rfl
  ·have ad:i<(Lib.compact (xs.map PV.asStr)).length:=by rw [<-af];exact (List.getElem?_eq_some_iff.1 hi).1
   have ex:x=.str (Lib.compact (xs.map PV.asStr))[i]:=by unfold ags at hi;rw [Bf,Aq ad] at hi;exact (Option.some.inj hi).symm
   rw [o,Nat.mul_one];have ed:d[i]! =(Lib.compact (xs.map PV.asStr))[i]:=by
    rw [getElem!_pos _ i (by rw [aa];omega)];have e2:d.toList=Lib.compact (xs.map PV.asStr)++List.replicate (xs.length-(Lib.compact (xs.map PV.asStr)).length) []:=by rw [<-hd]
    rw [<-Array.getElem_toList];have:∀ (l l':List Bq) (h:i<l.length) (h':i<l'.length),l=l'->l[i]=l'[i]:=λl l' h h' e=>by subst e;rfl
    rw [this _ _ _ (by rw [Ak];omega) e2,List.getElem_append_left ad]
   have ab:i<cur.size:=by omega
   have ec:(putCells encStr 0 d cur)[i]?=some (encStr (Lib.compact (xs.map PV.asStr))[i]):=by simp only [putCells,Array.getElem?_mapIdx,Array.getElem?_eq_getElem ab,Option.map_some];rw [if_pos ⟨Nat.zero_le _,by rw [aa];omega⟩,Nat.sub_zero,ed]
   have et:List.take 1 (List.drop i (putCells encStr 0 d cur).toList)=[encStr (Lib.compact (xs.map PV.asStr))[i]]:=by
    have hl:i<(putCells encStr 0 d cur).toList.length:=by simp [putCells];exact ab
    have hx:(putCells encStr 0 d cur).toList[i]=encStr (Lib.compact (xs.map PV.asStr))[i]:=by have h9:=ec;rw [<-Bp,Aq hl] at h9;exact Option.some.inj h9
    rw [List.drop_eq_getElem_cons hl,hx,show (1:Nat)=0+1 from rfl,List.take_succ_cons,List.take_zero]
   rw [et,ex];exact .str Tryz.underlying9
def afs (h:Nat):CallE:={ f:=63,A:=⟨1,[.arr 9 0],[.con (.arr 0 0 9),.slice 9]⟩,R:=⟨1,[.arr 9 1],[.con (.arr 0 1 9),.slice 9]⟩,F:=λx=>aik h x.2,dflt:=((),[]) }
theorem agm (o:Nat):(afs o).Ok Tryz.prog:=by intro x y h;obtain ⟨u,xs⟩:=x;have h:aik o xs=some y:=h;obtain ⟨z,rfl⟩:=aa0 h;exact aoh 0 xs (of_decide_eq_true z)
end Go.Ab
