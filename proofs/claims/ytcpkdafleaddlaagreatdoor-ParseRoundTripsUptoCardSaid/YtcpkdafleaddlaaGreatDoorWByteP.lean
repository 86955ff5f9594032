/- (*strings.Builder).WriteByte: what it does, every other block left alone. -/
import Derived.Test.YtcpkdafleaddlaaGreatDoorAbCaughtP
import Derived.Lib.FrozenHead2
set_option linter.unusedVariables false
set_option linter.unusedSimpArgs false
set_option linter.unnecessarySimpa false
namespace Go.Ab
open Go Go.Proofs Go.RowKit
theorem api {P:Program} (w:World) (t ty e:TypeId) (i:TypeInfo) (ht:P.underlying t=some (.slice e)) (hi:P.info? e=some i) (hz:i.zero=some (.int .u8 0)) (hsize:i.size=1) (hby:i.bytes=1)
 (v:Value) (n:Nat) (xs:List Value) (hown:w.ownsRowF 0 e 1 v n xs) (ad:Addr) (m c:Nat) (news:List Value) (hl:news.length=m*1) (hnews:∀ j u,news[j]?=some u->w.cell? (ad.add j)=some u) (h1:∀ u∈news,u.oneCell'=true)
 (h63:n+m<=maxLen) (hbytes:(n+m)*1<=140737488355328) {v':Value}{w':World} (hr:(Builtin.append_ #[t,t] ty #[v,.slice (some ad) m c]).run P w=.ok v' w'):
 ∀ g,v'.ownBlock=some g->v.ownBlock=some g∨w.heap.size<=g:=by
 intro g hg
 have hsmall:n+m<=9223372036854775807:=by simp only [maxLen] at h63;omega
 rcases hown.2 with ⟨rfl,rfl⟩ | ⟨g0,cap,cur,fz,rfl,_,hg0,hfz,hnc,hcm,hcs,htake⟩
 ·obtain ⟨v2,w2,r1,h2,_⟩:=run_append_own (P:=P) w w.heap.size t ty e i (.int .u8 0) 1 1 ht hi hz hsize hby rfl (by decide) (.slice none 0 0) 0 xs ⟨hown.1,.inl ⟨rfl,rfl⟩⟩ ad m c news hl hnews h1 h63 hbytes (Nat.le_refl _)
  rw [hr] at r1;cases r1
  rcases h2.2 with ⟨rfl,_⟩ | ⟨g1,c1,u1,rfl,hb,_⟩
  ·simp [Value.ownBlock] at hg
  ·simp [Value.ownBlock] at hg;subst hg;exact Or.inr hb
 ·by_cases hroom:n+m<=cap
  ·have hx:=run_append_roomF (P:=P) w t ty e i ht hi g0 n cap cur fz hg0 (by rw [hsize];exact hfz) ad m c news (by rw [hsize];exact hl) hnews h1 hroom (by rw [hsize,hl,hcs];omega)
   rw [hr] at hx;cases hx
   exact Or.inl hg
  ·have hx:=run_append_grow (P:=P) w t ty e i (.int .u8 0) ht hi hz ⟨g0,0,none⟩ n cap xs (by rw [hsize];exact hown.1) (hown.cells (g:=g0) rfl) ad m c news (by rw [hsize];exact hl) hnews (by omega) (by omega) (by rw [hby];exact growslice_fits (by omega) (by omega))
   rw [hr] at hx;cases hx
   simp [Value.ownBlock] at hg;subst hg;exact Or.inr (Nat.le_refl _)
theorem aj0 {P:Program}{w:World}{ops:Array Oper}{rest:List Oper}{o:Oper}{a:Act}{Q:Exit->Act->World->Prop} (hgd:o.guard=none) (sl x:Operand) (t:TypeId)
 (ho:o.op=.call { callee:=.builtin .append,args:=#[sl,x],argTypes:=#[t,t] })
 (e:TypeId) (i:TypeInfo) (ht:P.underlying t=some (.slice e)) (hi:P.info? e=some i) (hz:i.zero=some (.int .u8 0)) (hsize:i.size=1) (hby:i.bytes=1)
 (v:Value) (n:Nat) (xs:List Value) (hs:a.eval sl=v) (hown:w.ownsRowF 0 e 1 v n xs) (ad:Addr) (m c:Nat) (news:List Value) (hx:a.eval x=.slice (some ad) m c) (hl:news.length=m*1) (hnews:∀ j u,news[j]?=some u->w.cell? (ad.add j)=some u) (h1:∀ u∈news,u.oneCell'=true)
 (h63:n+m<=maxLen) (hbytes:(n+m)*1<=140737488355328)
 (h:∀ v' w',w'.ownsRowF 0 e 1 v' (n+m) (xs++news)->w.grownBy w' v.ownBlock->(∀ g,v'.ownBlock=some g->v.ownBlock=some g∨w.heap.size<=g)->wpList P ops Q rest (a.put o.dst v') w'):wpList P ops Q (o::rest) a w:=by
 refine wpList_plain hgd fun K hK=>?_
 obtain ⟨v',w',hr,h2,h3,_⟩:=run_append_ownF (P:=P) w 0 t o.type e i (.int .u8 0) 1 1 ht hi hz hsize hby rfl (by decide) v n xs hown ad m c news hl hnews h1 h63 hbytes (Nat.zero_le _)
 have h5:=api w t o.type e i ht hi hz hsize hby v n xs hown ad m c news hl hnews h1 h63 hbytes hr
 unfold Oper.wp execOp
 simp only [ho,resolve,invoke,builtin,Sem.run_bind,Sem.run_pure,Result.andThen_ok,List.map_toArray,List.map_cons,List.map_nil,hs,hx,hr]
 exact hK _ _ (h v' w' h2 h3 h5)
set_option maxHeartbeats 2000000 in
set_option maxRecDepth 100000 in
theorem aql {T:TypeId} (hl:liesAt Tryz.prog Tryz.prog.depth T (2 / Tryz.prog.cellsOf T) 0 106 1=true) {b:Nat}{p v:Value}{bs:List UInt8}{w:World} (hp:p=.pointer none∨p=.pointer (some ⟨b,0,none⟩)) (h:BAt T b p v bs w) (hTe:T≠5)
 (c:UInt8) (hlen:bs.length+1<=140737488355328):
 Calls Tryz.prog 67 #[.pointer (some ⟨b,0,none⟩),.int .u8 c.toNat] w fun e w'=>e=.returned .nilIface/\∃ v',BAt T b (.pointer (some ⟨b,0,none⟩)) v' (bs++[c]) w'/\Else b v.ownBlock w w'/\
  (∀ g,v'.ownBlock=some g->v.ownBlock=some g∨w.heap.size<=g):=by
 obtain ⟨i0,hi,hz0,hz1,hz2⟩:=aws
 go_enter Tryz.func67,Tryz.ntmps67
 go_wp2_with (go_at_call 143;refine (ajg hl hp h).mono ?_)
 rintro e w1 ⟨rfl,h1,hb1⟩
 obtain ⟨hbk,hown,hne⟩:=h1
 have c0:w1.cell? ⟨b,0,none⟩=some (.pointer (some ⟨b,0,none⟩)):=by rw [Lib.cell_of_heap hbk];rfl
 have c1:w1.cell? ⟨b,1,none⟩=some v:=by rw [Lib.cell_of_heap hbk];rfl
 go_wp2_with (at_builtin;refine aj0 rfl _ _ 104 rfl 5 i0 Tryz.underlying104 hi hz0 hz1 hz2 _ _ _ rfl (hown.alloc _) ⟨w1.heap.size,0,none⟩ 1 1 [.int .u8 c.toNat] rfl rfl ?c1 ?c2 ?c3 ?c4 ?_)
 case c1=>
  intro j u hj
  match j,hj with
  | 0,hj=>simp at hj;subst hj;simp [Addr.add]
 case c2=>intro u hu;simp at hu;subst hu;rfl
 case c3=>unfold maxLen;omega
 case c4=>omega
 intro v' w2 hown' hgrow hnew
 have hlt:b<w1.heap.size:=by
  rcases Nat.lt_or_ge b w1.heap.size with h' | h'
  ·exact h'
  ·simp [Array.getElem?_eq_none h'] at hbk
 have hb2:w2.heap[b]?=some (.cells #[.pointer (some ⟨b,0,none⟩),v] T (0,0)):=by
  rw [hgrow.block b (by simp;omega) (fun e=>hne e.symm),Lib.alloc_old w1 _ b hlt]
  exact hbk
 have d0:w2.cell? ⟨b,0,none⟩=some (.pointer (some ⟨b,0,none⟩)):=by rw [Lib.cell_of_heap hb2];rfl
 have d1:w2.cell? ⟨b,1,none⟩=some v:=by rw [Lib.cell_of_heap hb2];rfl
 have f1:w2.frozen? ⟨b,1,none⟩=false:=Lib.frozen_of_heap hb2 1
 obtain ⟨ao,n',cap,rfl⟩:∃ ao n' cap,v'=.slice ao n' cap:=by
  rcases hown'.2 with ⟨hv,_⟩ | ⟨g,cap,cur,fz,hv,_⟩
  ·exact ⟨_,_,_,hv⟩
  ·exact ⟨_,_,_,hv⟩
 go_wp2
 go_ret
 refine ⟨rfl,.slice ao n' cap,⟨by simp [World.setCell,Array.getElem?_modify,hb2],?_,?_⟩,⟨hgrow.os.trans hb1.os,hgrow.tape.trans hb1.tape,hgrow.output.trans hb1.output,?_,fun k hk hkb hkv=>?_⟩,fun g hg=>?_⟩
 ·have e1:bs.length+1=(bs++[c]).length:=by rw [List.length_append];rfl
  have e2:Lib.byteCells bs++[.int .u8 c.toNat]=Lib.byteCells (bs++[c]):=by simp [Lib.byteCells]
  rw [e1,e2] at hown'
  exact hown'.kept (row:=some b) ⟨rfl,rfl,rfl,by simp [World.setCell],fun k _ hk=>Below.heap_setCell _ _ _ _ (fun e=>hk (by simp [e]))⟩ (Or.inr (Lib.ownBlock_neF hown' hb2 hTe))
 ·exact Lib.ownBlock_neF hown' hb2 hTe
 ·have:=hb1.size;have:=hgrow.size;simp [World.setCell] at *;omega
 ·have:=hb1.size
  rw [Below.heap_setCell _ _ _ _ hkb,hgrow.block k (by simp;omega) hkv,Lib.alloc_old w1 _ k (by omega)]
  exact hb1.block k hk hkb (by simp)
 ·rcases hnew g hg with h' | h'
  ·exact Or.inl h'
  ·have:=hb1.size;exact Or.inr (by omega)
theorem alz {T:TypeId} (hT:a0q T) (bs:List UInt8) (c:UInt8) (hlen:bs.length+1<=140737488355328):Meets Tryz.prog 67 [.bref 0 106,.int .u8 c.toNat] [.bld T bs] [.raw .nilIface] [.bld T (bs++[c])]:=by
 refine ⟨aav Tryz.func67 (by kernel_rfl) (by kernel_rfl),fun D ow μ w vals pre=>?_⟩
 have h0:=pre.objs.obj 0 _ rfl
 obtain ⟨p,v,hp,hat,hom,hDm,hv⟩:=BldRep.bat hT.1 h0
 obtain ⟨v0,v1,rfl⟩:∃ v0 v1,vals=#[v0,v1]:=by
  have:=pre.size
  match vals,this with
  | ⟨[a,b]⟩,_=>exact ⟨a,b,rfl⟩
 have a0:=pre.arg 0 _ v0 rfl rfl
 have a1:=pre.arg 1 _ v1 rfl rfl
 cases a0;cases a1
 refine (aql hT.2.2 hp hat hT.2.1 c hlen).mono fun e w' he=>?_
 obtain ⟨rfl,v',h1,h2,h3⟩:=he
 refine ⟨_,D,rfl,akx hT.1 pre ?_ (fun g hg=>(hv g hg).1) (Or.inr rfl) h1 h2 h3⟩
 intro ow' μ' st'
 exact .raw
def adk (fuel:Nat) (c:Int) (bs:List UInt8):Option (Value×List UInt8):=bif decide (0<=c/\c<=255)&&Nat.ble (bs.length+1) 140737488355328 then some (.nilIface,bs++[UInt8.ofNat c.toNat]) else none
def aha (fuel:Nat):CallE:={ f:=67,A:=⟨2,[.bld 106],[.con (.bref 0 106),.int .u8,.str]⟩,R:=⟨1,[.bld 106],[.raw,.str]⟩,F:=fun x=>adk fuel x.2.1 x.2.2,dflt:=(undef,[]) }
theorem akp (fuel:Nat):(aha fuel).Ok Tryz.prog:=by
 intro x y h
 obtain ⟨_,c,bs⟩:=x
 have h:adk fuel c bs=some y:=h
 unfold adk at h
 obtain ⟨hb,rfl⟩:=abb h
 simp only [Bool.and_eq_true,decide_eq_true_eq,Nat.ble_eq] at hb
 have hc:((UInt8.ofNat c.toNat).toNat:Int)=c:=by rw [UInt8.toNat_ofNat'];omega
 have:=alz ajh bs (UInt8.ofNat c.toNat) hb.2
 rw [hc] at this
 exact this
end Go.Ab
