/- strings.Cut; slices.Compact at []string, on a row of the call's own. -/
import Derived.Test.YtodichgnoiaanaaGreatDoorAbLibE
import Derived.Lib.SlicesCompact
import Derived.Sort.EncStr
set_option linter.unusedVariables false
set_option linter.unusedSimpArgs false
set_option linter.unnecessarySimpa false
namespace Go.Ab
open Go Go.Proofs Go.Shelf Go.RowKit Go.Sort Go.Lib
theorem baq {P:Program}{D:Dom}{ow:Own}{μ:Nat->Nat}{st:List BX}{w:World}{s t:SV}{o:Array Value} (h:Pre P D ow μ st w [s,t] o):∃ u v,o=#[u,v]/\SRep P D w ow μ st s u/\SRep P D w ow μ st t v:=by
 have:=h.size;match o,this,h with
 | ⟨[a,b]⟩,_,h=>exact ⟨a,b,rfl,h.arg 0 _ a rfl rfl,h.arg 1 _ b rfl rfl⟩
theorem a4v {P:Program}{ow:Own}{w:World} (o:Tabs P ow w) {g:Nat} (h:P.globalNamed "internal/bytealg.MaxLen"=some g):∃ m,w.cell? ⟨g,0,none⟩=some (.int .i64 m):=by obtain ⟨_,cs,T,z,H,m,I⟩:=o ("internal/bytealg.MaxLen",λcs=>∃ m,cs[0]?=some (.int .i64 m)) (by simp [an9]) g h;grind [World.cell?]
def Lcut (o:Nat) (s h:Bo):Option (Bo×Bo×Bool):=bif decide (s.length<4294967281) then some (Lib.cut s h) else none
def bc9 (h:Nat):CallE:={ f:=171,A:=⟨2,[],[.str,.str]⟩,R:=⟨3,[],[.str,.str,.bool]⟩,F:=λx=>Lcut h x.1 x.2,dflt:=([],[],false) }
theorem bda (o:Nat):(bc9 o).Ok Tryz.prog:=by
 intro x y h;obtain ⟨s,J⟩:=x;have h:Lcut o s J=some y:=h;obtain ⟨M,rfl⟩:=aaz h;have M:=of_decide_eq_true M;refine aev (aa4 Tryz.func171 (by kernel_rfl) (by kernel_rfl)) (λD ow μ w O I=>?_);obtain ⟨u,v,rfl,Z,h2⟩:=baq I;cases Z;cases h2;obtain ⟨m,hm⟩:=a4v (g:=0) I.tabs (by kernel_rfl);refine (Tryz.strings_Cut ⟨s.toArray⟩ ⟨J.toArray⟩ m w M hm).mono ?_;rintro e w' ⟨rfl,n,rfl⟩;refine ⟨_,rfl,λaa ab st'=>?_,⟨rfl,rfl,rfl,Nat.le_refl _,λb M=>rfl⟩⟩;refine .tup rfl (λi s' v' z H=>?_);match i,z,H with
 | 0,z,H=>cases z;cases H;exact .str
 | 1,z,H=>cases z;cases H;exact .str
 | 2,z,H=>cases z;cases H;exact .bool
theorem a9t {P:Program}{D:Dom}{w w':World}{ow:Own}{μ:Nat->Nat}{E:TypeId}{fl cap:Nat}{xs ys:List PV}{af:List SV}{ae:Array Value}{cur cur':Array Value} (z:Pre P D ow μ [.arr E fl xs] w af ae)
 (hh:w.heap[μ 0]?=some (.cells cur E (0,0))) (ho:ow (μ 0)=some 0) (M:w'.heap[μ 0]?=some (.cells cur' E (0,0))) (hs:cur'.size=cur.size) (hc:cap*P.cellsOf E=cur.size) (hm:cap<=maxLen) (O:ys.length<=cap)
 (Z:∀ b,b≠μ 0->b<w.heap.size->w'.heap[b]?=w.heap[b]?) (aa:w.heap.size<=w'.heap.size) (h1:w'.os=w.os) (h2:w'.tape=w.tape) (h3:w'.output=w.output)
 (hr:∀ (i:Nat) (x:PV),ys[i]?=some x->Rep P D w' E x ((cur'.toList.drop (i*P.cellsOf E)).take (P.cellsOf E))):
 Post P D w ow μ [.arr E fl xs] [.arr 0 1 E] [.arr E 1 ys] (.slice (some ⟨μ 0,0,none⟩) ys.length cap) D w':=by
 have ab:∀ b,ow b=some 0->∀ o,¬D b o:=λb ob o d=>z.objs.lone b 0 _ ob rfl (by simp) o d
 have ag:=ab _ ho
 have I:∀ b o,D b o->ow b=none:=λb o d=>by
  cases J:ow b with
  | none=>rfl
  | some k=>have H:=(z.objs.owlt b k J).2;grind
 have ad:∀ b,b<w.heap.size->ow b=none->w'.heap[b]?=w.heap[b]?:=λb J hn=>Z b (λe=>by grind) J
 have ah:μ 0<w.heap.size:=(Array.getElem?_eq_some_iff.1 hh).1
 refine ⟨λ_ _ d=>d,λ_ _ d=>Or.inl d,⟨λb=>if b=μ 0 then some 0 else none,μ,⟨λk b H=>?_,λb k J=>?_,λb o d=>Az (z.dlt b o d) aa,λb k x J _ _ o d=>?_⟩,?_,λb k J ah=>?_,λk b H=>?_,λk E' g xs' aj H ai=>?_⟩,h1,h2,h3,aa,ad,Keeps.of_heap λb o d=>ad b (z.dlt b o d) (I b o d)⟩
 ·cases k with
  | zero=>cases H;exact Or.inr ⟨cur',M,if_pos rfl,ag,by rw [hs,<-hc];exact Au _ O,hr⟩
  | succ k=>simp at H
 ·grind
 ·grind
 ·exact .arr (cur:=cur') rfl O hm M (if_pos rfl) (by grind)
 ·grind
 ·cases k with
  | zero=>cases H;exact ⟨_,rfl,rfl,λ_ h=>absurd rfl (h _ _ _)⟩
  | succ k=>simp at H
 grind
theorem auz {P:Program}{D:Dom}{w:World}{ow:Own}{μ:Nat->Nat}{E:TypeId}{O:Nat}{M:List SV}{J:Array Value}{a:Option Addr} (I:Pre P D ow μ [.arr E O []] w M J):
 Post P D w ow μ [.arr E O []] [.arr 0 1 E] [.arr E 1 []] (.slice a 0 0) D w:=by
 have Z:∀ b,ow b=some 0->∀ o,¬D b o:=λb ob o d=>I.objs.lone b 0 _ ob rfl (by simp) o d
 refine ⟨λ_ _ d=>d,λ_ _ d=>Or.inl d,⟨λ_=>none,μ,⟨λk b z=>?_,λb k H=>(by cases H),λb o d=>I.dlt b o d,λb k x H=>(by cases H)⟩,?_,λb k H=>(by cases H),λk b z=>?_,λk E' g xs' ab z aa=>?_⟩,rfl,rfl,rfl,Nat.le_refl _,λ_ _ _=>rfl,Keeps.refl _ _⟩
 ·cases k with
  | zero=>cases z;exact Or.inl rfl
  | succ k=>simp at z
 ·exact .arrNil rfl
 ·cases k with
  | zero=>cases z;exact ⟨_,rfl,rfl,λ_ h=>absurd rfl (h _ _ _)⟩
  | succ k=>simp at z
 grind
theorem ay5 {D:Dom}{w:World}{x:PV}{cs:List Value} (h:Rep Tryz.prog D w 9 x cs):x=.str x.asStr/\cs=[.string ⟨x.asStr.toArray⟩]:=by
 cases h with
 | str o=>exact ⟨rfl,rfl⟩
 | raw h _=>grind [absurd,rawT,Tryz.underlying9]
 | _=>rename_i o;first | (rw [Tryz.underlying9] at o;cases o;done) | grind [Tryz.underlying9]
def af1 (xs:List PV):List PV:=(Lib.compact (xs.map PV.asStr)).map PV.str
def ac0 (h:Nat) (xs:List PV):Option (Unit×List PV):=bif decide (xs.length<=aae) then some ((),af1 xs) else none
theorem ahn {h:Type} [Inhabited h] [DecidableEq h] (d:Array h) (m:Nat):(Lib.compactUpTo d m).length<=m:=by grind [Lib.compactUpTo,List.length_map,Nat.le_trans,List.length_filter_le]
theorem aq4 (fl:Nat) (xs:List PV) (hx:xs.length<=aae):Meets Tryz.prog 14 [.arr 0 fl 9] [.arr 9 fl xs] [.arr 0 1 9] [.arr 9 1 (af1 xs)]:=by
 refine ⟨aa4 Tryz.func14 (by kernel_rfl) (by kernel_rfl),λD ow μ w J z=>?_⟩;obtain ⟨v0,rfl⟩:∃ v0,J=#[v0]:=by
  have:=z.size;match J,this with
  | ⟨[a]⟩,_=>grind
 have a0:=z.arg 0 _ v0 rfl rfl;have o:Tryz.prog.cellsOf 9=1:=by kernel_rfl
 cases a0 with
 | arrOld Z h2 _=>cases Z;omega
 | @arrNil _ _ _ a Z=>cases Z;refine (Tryz.slices_Compact_string_empty a 0 w).mono ?_;rintro e w' ⟨rfl,rfl⟩;exact ⟨_,D,rfl,auz z⟩
 | @arr _ _ cap _ _ cur Z h2 h3 O h5 h6=>
  cases Z;rw [o,Nat.mul_one] at h6;have H:∀ (j:Nat),j<xs.length->cur[j]?=some (encStr (xs.getD j .bad).asStr)/\xs[j]?=some (.str (xs.getD j .bad).asStr):=by
   intro j hj;rcases z.objs.obj 0 _ rfl with h | ⟨cur',a1,a2,a3,a4,a5⟩
   ·grind
   ·rw [O] at a1;cases a1;have ad:xs[j]?=some (xs.getD j .bad):=by grind
    obtain ⟨q1,q2⟩:=ay5 (a5 j _ ad);rw [o,Nat.mul_one] at q2;refine ⟨?_,by grind⟩;have:(List.take 1 (List.drop j cur.toList))[0]?=some (encStr (xs.getD j .bad).asStr):=by rw [q2];rfl
    simpa using this
  have aa:(xs.map PV.asStr).length=xs.length:=by simp
  have hH:Holds encStr w (μ 0) 0 (xs.map PV.asStr).toArray:=by
   intro j hj;have hj:j<xs.length:=by simpa using hj
   have e:(xs.map PV.asStr).toArray[j]! =(xs.getD j .bad).asStr:=by grind
   obtain ⟨q1,_⟩:=H j hj;rw [e];refine ⟨by simp only [World.cell?,O,Nat.zero_add];simpa using q1,by simp [World.frozen?,O]⟩
  have aj:xs.length<=9223372036854775807:=by grind [aae]
  have I:=Tryz.slices_Compact_string (μ 0) 0 cap (xs.map PV.asStr) w hH (by grind) (by grind);rw [aa] at I;refine I.mono ?_;rintro e w' ⟨rfl,q,rfl⟩;have ah:(Lib.compact (xs.map PV.asStr)).length<=xs.length:=by rw [<-aa];exact ahn _ _
  have ae:(af1 xs).length=(Lib.compact (xs.map PV.asStr)).length:=by simp [af1]
  generalize hd:(Lib.compact (xs.map PV.asStr)++List.replicate (xs.length-(Lib.compact (xs.map PV.asStr)).length) []).toArray=d;have af:d.size=xs.length:=by grind
  have M:(putRow encStr (Sort.ahead w q) (μ 0) 0 d).heap[μ 0]?=some (.cells (putCells encStr 0 d cur) 9 (0,0)):=by have ai:μ 0<w.heap.size:=(Array.getElem?_eq_some_iff.1 O).1;simp only [putRow,mapBlock,Array.getElem?_modify,A9];show Option.map _ w.heap[μ 0]?=_;rw [O];rfl
  refine ⟨_,D,rfl,?_⟩;rw [<-ae];refine a9t z O h5 M (by simp [putCells]) (by grind) h3 (by omega) (λb hb _=>?_) (by simp) rfl rfl rfl (λi x hi=>?_)
  ·simp only [putRow,mapBlock,Array.getElem?_modify,if_neg (Ne.symm hb)];rfl
  ·have ag:i<(Lib.compact (xs.map PV.asStr)).length:=by grind
   have ex:x=.str (Lib.compact (xs.map PV.asStr))[i]:=by grind [af1,List.getElem?_eq_getElem,Option.some.inj]
   rw [o,Nat.mul_one];have ed:d[i]! =(Lib.compact (xs.map PV.asStr))[i]:=by grind
   have ab:i<cur.size:=by omega
   have ec:(putCells encStr 0 d cur)[i]?=some (encStr (Lib.compact (xs.map PV.asStr))[i]):=by simp only [putCells,Array.getElem?_mapIdx,Array.getElem?_eq_getElem ab,Option.map_some];grind
   have et:List.take 1 (List.drop i (putCells encStr 0 d cur).toList)=[encStr (Lib.compact (xs.map PV.asStr))[i]]:=by
    have hl:i<(putCells encStr 0 d cur).toList.length:=by grind
    have hx:(putCells encStr 0 d cur).toList[i]=encStr (Lib.compact (xs.map PV.asStr))[i]:=by grind
    rw [List.drop_eq_getElem_cons hl,hx,show (1:Nat)=0+1 from rfl,List.take_succ_cons,List.take_zero]
   rw [et,ex];exact .str Tryz.underlying9
def agq (h:Nat):CallE:={ f:=14,A:=⟨1,[.arr 9 0],[.con (.arr 0 0 9),.slice 9]⟩,R:=⟨1,[.arr 9 1],[.con (.arr 0 1 9),.slice 9]⟩,F:=λx=>ac0 h x.2,dflt:=((),[]) }
theorem ahj (o:Nat):(agq o).Ok Tryz.prog:=by intro x y h;obtain ⟨u,xs⟩:=x;have h:ac0 o xs=some y:=h;obtain ⟨z,rfl⟩:=aaz h;exact aq4 0 xs (of_decide_eq_true z)
end Go.Ab
namespace Go.Ab
open Go Go.Proofs Go.Shelf Go.RowKit Go.Sort Go.Lib
theorem a9s {P:Program}{D:Dom}{w w':World}{ow:Own}{μ:Nat->Nat}{E:TypeId}{fl:Nat}{xs ys:List PV}{ab:List SV}{aa:Array Value}{cur cur':Array Value} (z:Pre P D ow μ [.arr E fl xs] w ab aa)
 (hh:w.heap[μ 0]?=some (.cells cur E (0,0))) (ho:ow (μ 0)=some 0) (M:w'.heap[μ 0]?=some (.cells cur' E (0,0))) (hs:cur'.size=cur.size) (hl:ys.length=xs.length) (ad:ys.length*P.cellsOf E<=cur'.size)
 (H:∀ b,b≠μ 0->b<w.heap.size->w'.heap[b]?=w.heap[b]?) (O:w.heap.size<=w'.heap.size) (h1:w'.os=w.os) (h2:w'.tape=w.tape) (h3:w'.output=w.output)
 (hr:∀ (i:Nat) (x:PV),ys[i]?=some x->Rep P D w' E x ((cur'.toList.drop (i*P.cellsOf E)).take (P.cellsOf E))):
 Post P D w ow μ [.arr E fl xs] [] [.arr E 0 ys] (.tuple #[]) D w':=by
 have Z:∀ b,ow b=some 0->∀ o,¬D b o:=λb ob o d=>z.objs.lone b 0 _ ob rfl (by simp) o d
 have J:=Z _ ho
 have ag:=z.objs.owlt
 have af:∀ b,b<w.heap.size->ow b=none->w'.heap[b]?=w.heap[b]?:=λb hb hn=>H b (λe=>by grind) hb
 have h:Keeps D w w':=Keeps.of_heap λb o d=>H b (λe=>J o (by grind)) (z.dlt b o d)
 refine ⟨λ_ _ d=>d,λ_ _ d=>Or.inl d,⟨ow,μ,⟨λk b h=>?_,λb k q=>?_,λb o d=>Az (z.dlt b o d) O,λb k x q r hx=>?_⟩,(afa (rs:=[]) (.tup rfl (λi s v hs hv=>by cases hs))).1,λb k q _=>q,λk b h=>?_,λk E' g xs' ah h I=>?_⟩,h1,h2,h3,O,af,h⟩
 ·match k,h with
  | 0,h=>cases h;exact Or.inr ⟨cur',M,ho,J,ad,hr⟩
  | k+1,h=>cases h
 ·grind
 ·grind
 ·match k,h with
  | 0,h=>cases h;exact ⟨_,rfl,rfl,λ_ _=>rfl⟩
  | k+1,h=>cases h
 ·match k,h,I with
  | 0,h,I=>cases h;cases I;refine ⟨hl,λc hc ae=>⟨rfl,ae,cur',M,?_⟩⟩;grind
  | k+1,h,_=>cases h
theorem auy {P:Program}{D:Dom}{w:World}{ow:Own}{μ:Nat->Nat}{E:TypeId}{O:Nat}{J:List SV}{I:Array Value} (H:Pre P D ow μ [.arr E O []] w J I):
 Post P D w ow μ [.arr E O []] [] [.arr E 0 []] (.tuple #[]) D w:=by
 have Z:∀ b,ow b=some 0->∀ o,¬D b o:=λb ob o d=>H.objs.lone b 0 _ ob rfl (by simp) o d
 have M:=H.objs.owlt
 refine ⟨λ_ _ d=>d,λ_ _ d=>Or.inl d,⟨ow,μ,⟨λk b h=>?_,λb k q=>M b k q,λb o d=>H.dlt b o d,λb k x q r hx=>?_⟩,(afa (rs:=[]) (.tup rfl (λi s v hs hv=>by cases hs))).1,λb k q _=>q,λk b h=>?_,λk E' g xs' aa h z=>?_⟩,rfl,rfl,rfl,Nat.le_refl _,λ_ _ _=>rfl,Keeps.refl _ _⟩
 ·match k,h with
  | 0,h=>cases h;exact Or.inl rfl
  | k+1,h=>cases h
 ·grind
 ·match k,h with
  | 0,h=>cases h;exact ⟨_,rfl,rfl,λ_ _=>rfl⟩
  | k+1,h=>cases h
 ·match k,h,z with
  | 0,h,z=>cases h;cases z;exact ⟨rfl,ArrKeep.refl _ _ _ _ _⟩
  | k+1,h,_=>cases h
def insS (x:Bo):List Bo->List Bo
 | []=>[x]
 | y::r=>bif Op.bytesLess y x then y::insS x r else x::y::r
def adk:List Bo->List Bo
 | []=>[]
 | x::r=>insS x (adk r)
theorem at3 (x:Bo):∀ l,(insS x l).Perm (x::l):=by
 intro l;induction l with
 | nil=>exact .refl _
 | cons y r h=>grind [insS,Op.bytesLess]
theorem adc:∀ l,(adk l).Perm l:=by
 intro l;induction l with
 | nil=>exact .refl _
 | cons x r h=>exact (at3 x _).trans (h.cons x)
theorem awn (x:Bo):∀ l:List Bo,l.Pairwise (·<=·)->(insS x l).Pairwise (·<=·):=by
 intro l;induction l with
 | nil=>intro _;exact List.pairwise_singleton ..
 | cons y r O=>
  intro h;have I:=List.pairwise_cons.1 h;unfold insS;cases o:Op.bytesLess y x with
  | true=>rw [bytesLess_eq] at o;have M:y<=x:=List.le_of_lt (of_decide_eq_true o);refine List.pairwise_cons.2 ⟨λz H=>?_,O I.2⟩;rcases List.mem_cons.1 ((at3 x r).mem_iff.1 H) with rfl | H;all_goals grind
  | false=>rw [bytesLess_eq] at o;have J:x<=y:=of_decide_eq_false o;refine List.pairwise_cons.2 ⟨λz H=>?_,h⟩;grind
theorem aef:∀ l,(adk l).Pairwise (·<=·):=by
 intro l;induction l with
 | nil=>exact .nil
 | cons x r h=>exact awn x _ h
theorem a3x (l:List Bo):(l.mergeSort λx y=>decide (x<=y))=adk l:=by
 have H:∀ a b c:Bo,decide (a<=b)=true->decide (b<=c)=true->decide (a<=c)=true:=λa b c o z=>Ag (List.le_trans (of_decide_eq_true o) (of_decide_eq_true z));have I:∀ a b:Bo,(decide (a<=b)||decide (b<=a))=true:=λa b=>by grind
 refine List.Perm.eq_of_pairwise (le:=λa b=>decide (a<=b)=true) (λa b _ _ o z=>List.le_antisymm (of_decide_eq_true o) (of_decide_eq_true z)) (List.pairwise_mergeSort (le:=λx y=>decide (x<=y)) H I l) ((aef l).imp λ{a b} h=>Ag h) ((List.mergeSort_perm l _).trans (adc l).symm)
def ao5 (xs:List PV):List PV:=(adk (xs.map PV.asStr)).map PV.str
theorem alu (xs:List PV):(ao5 xs).length=xs.length:=by simp [ao5,(adc (xs.map PV.asStr)).length_eq]
def afw (h:Nat) (xs:List PV):Option (List PV):=bif decide (xs.length<=aae) then some (ao5 xs) else none
theorem axk (fl:Nat) (xs:List PV) (hx:xs.length<=aae):Meets Tryz.prog 13 [.arr 0 fl 9] [.arr 9 fl xs] [] [.arr 9 0 (ao5 xs)]:=by
 refine ⟨aa4 Tryz.func13 (by kernel_rfl) (by kernel_rfl),λD ow μ w O z=>?_⟩;obtain ⟨v0,rfl⟩:∃ v0,O=#[v0]:=by
  have:=z.size;match O,this with
  | ⟨[a]⟩,_=>grind
 have a0:=z.arg 0 _ v0 rfl rfl;have o:Tryz.prog.cellsOf 9=1:=by kernel_rfl
 cases a0 with
 | arrOld h1 h2 _=>cases h1;omega
 | @arrNil _ _ _ a h1=>cases h1;refine (Any.slices_Sort_string_none Tryz.lays190 a 0 w).mono ?_;rintro e w' ⟨rfl,rfl⟩;have e0:ao5 []=[]:=rfl;rw [e0];exact ⟨_,D,rfl,auy z⟩
 | @arr _ _ cap _ _ cur h1 h2 h3 h4 h5 h6=>
  cases h1;rw [o,Nat.mul_one] at h6;have H:∀ (j:Nat),j<xs.length->cur[j]?=some (encStr (xs.getD j .bad).asStr)/\xs[j]?=some (.str (xs.getD j .bad).asStr):=by
   intro j hj;rcases z.objs.obj 0 _ rfl with h | ⟨cur',a1,a2,a3,a4,a5⟩
   ·grind
   ·rw [h4] at a1;cases a1;have ae:xs[j]?=some (xs.getD j .bad):=by grind
    obtain ⟨q1,q2⟩:=ay5 (a5 j _ ae);rw [o,Nat.mul_one] at q2;refine ⟨?_,by grind⟩;have:(List.take 1 (List.drop j cur.toList))[0]?=some (encStr (xs.getD j .bad).asStr):=by rw [q2];rfl
    simpa using this
  have ag:(xs.map PV.asStr).length=xs.length:=by simp
  have hH:Holds encStr w (μ 0) 0 (xs.map PV.asStr).toArray:=by
   intro j hj;have hj:j<xs.length:=by simpa using hj
   have e:(xs.map PV.asStr).toArray[j]! =(xs.getD j .bad).asStr:=by grind
   obtain ⟨q1,_⟩:=H j hj;rw [e];refine ⟨by simp only [World.cell?,h4,Nat.zero_add];simpa using q1,by simp [World.frozen?,h4]⟩
  have af:(xs.map PV.asStr).length<4611686018427387904:=by grind [aae]
  have I:μ 0<w.heap.size:=(Array.getElem?_eq_some_iff.1 h4).1;have M:=Tryz.slices_Sort_string (μ 0) 0 cap (xs.map PV.asStr) w hH I af;rw [ag] at M;refine M.mono ?_;rintro e w' ⟨rfl,q,os,rfl⟩;rw [a3x];generalize hd:(adk (xs.map PV.asStr)).toArray=d;have ab:d.toList=adk (xs.map PV.asStr):=by rw [<-hd]
  have ai:d.size=xs.length:=by have:=congrArg List.length ab;rw [(adc (xs.map PV.asStr)).length_eq] at this;simpa using this
  have ak:(putRow encStr (Sort.ahead w q) (μ 0) 0 d).heap.size=w.heap.size:=by simp_all
  have J:∀ b,b<w.heap.size->(grow (putRow encStr (Sort.ahead w q) (μ 0) 0 d) os).heap[b]?=(putRow encStr (Sort.ahead w q) (μ 0) 0 d).heap[b]?:=λb hb=>Array.getElem?_append_left (by grind);have Z:(grow (putRow encStr (Sort.ahead w q) (μ 0) 0 d) os).heap[μ 0]?=some (.cells (putCells encStr 0 d cur) 9 (0,0)):=by rw [J _ I];simp only [putRow,mapBlock,Array.getElem?_modify,A9];show Option.map _ w.heap[μ 0]?=_;rw [h4];rfl
  refine ⟨_,D,rfl,a9s (cur':=putCells encStr 0 d cur) z h4 h5 Z (by simp [putCells]) (alu xs) (by rw [alu,o,Nat.mul_one];grind [putCells]) (λb hb aa=>?_) (by grind) rfl rfl rfl (λi x hi=>?_)⟩
  ·rw [J b aa];simp only [putRow,mapBlock,Array.getElem?_modify,if_neg (Ne.symm hb)];rfl
  ·have aj:i<xs.length:=by grind [alu,List.getElem?_eq_some_iff]
   have ah:i<d.toList.length:=by grind
   have ex:x=.str d.toList[i]:=by grind [ao5,List.getElem?_eq_getElem,Option.some.inj]
   rw [o,Nat.mul_one];have ed:d[i]! =d.toList[i]:=by grind
   have ad:i<cur.size:=by omega
   have ec:(putCells encStr 0 d cur)[i]?=some (encStr d.toList[i]):=by simp only [putCells,Array.getElem?_mapIdx,Array.getElem?_eq_getElem ad,Option.map_some];grind
   have et:List.take 1 (List.drop i (putCells encStr 0 d cur).toList)=[encStr d.toList[i]]:=by
    have hl:i<(putCells encStr 0 d cur).toList.length:=by grind
    have hx:(putCells encStr 0 d cur).toList[i]=encStr d.toList[i]:=by grind
    rw [List.drop_eq_getElem_cons hl,hx,show (1:Nat)=0+1 from rfl,List.take_succ_cons,List.take_zero]
   rw [et,ex];exact .str Tryz.underlying9
def ajw (h:Nat):CallE:={ f:=13,A:=⟨1,[.arr 9 0],[.con (.arr 0 0 9),.slice 9]⟩,R:=⟨0,[.arr 9 0],[.slice 9]⟩,F:=λx=>afw h x.2,dflt:=[] }
theorem ak3 (o:Nat):(ajw o).Ok Tryz.prog:=by intro x y h;obtain ⟨u,xs⟩:=x;have h:afw o xs=some y:=h;obtain ⟨z,rfl⟩:=aaz h;exact axk 0 xs (of_decide_eq_true z)
end Go.Ab
