/- The changes in the order of the specification: merged by keys; they ascend strictly. -/
import Derived.Test.YtjogoleiodbfdaaGreatPTurnT
set_option linter.unusedVariables false
set_option linter.unusedSimpArgs false
set_option linter.unnecessarySimpa false
namespace Go.Ab
open Go
set_option maxRecDepth 100000
structure Key {κ:Type} (c:κ->κ->Int):Prop where
 lin:Lin c
 zero:∀ x y,c x y=0 ↔ x=y
theorem Key.cI:Key Ab.cI:=⟨Lin.cI,fun _ _=>cI_zero⟩
theorem Key.cB:Key Ab.cB:=⟨Lin.cB,fun _ _=>cB_zero⟩
section
variable {κ:Type} [BEq κ] [LawfulBEq κ] {key:PV->κ}{c:κ->κ->Int}
theorem ays {A:List PV} (uA:(A.map key).Nodup) {x:PV} (hx:x∈A):fst key (key x) A=some x:=by
 induction A with
 | nil=>cases hx
 | cons a r ih=>
  rw [List.map_cons,List.nodup_cons] at uA
  unfold fst at ih ⊢
  rw [List.find?_cons]
  rcases List.mem_cons.1 hx with rfl | hx
  ·simp
  ·have:(key a==key x)=false:=by
    cases h:key a==key x with
    | false=>rfl
    | true=>exact absurd (by rw [eq_of_beq h];exact List.mem_map_of_mem hx) uA.1
   rw [this]
   exact ih uA.2 hx
end
theorem a0q {x y:Int} (h:x<0):or2 x y<0:=by unfold or2;rw [if_neg (by omega)];exact h
theorem an9 {x y:Int} (h:x=0):or2 x y=y:=by unfold or2;rw [if_pos h]
theorem cmp_k {a b:PV} (h1:grp (chK a)=grp (chK b)) (h2:chD a=chD b) (h3:chN a=chN b) (h4:mth a=mth b) (h:chK a<chK b):cmpC a b<0:=by
 unfold cmpC orL orL orL orL
 rw [an9 (cI_zero.2 h1),an9 (cB_zero.2 h2),an9 (cI_zero.2 h3),an9 (cB_zero.2 h4)]
 exact a0q (by unfold cI;rw [if_pos h];omega)
abbrev Lt (a b:PV):Prop:=cmpC a b<0
structure At (g:Int) (d:List UInt8) (n:Int) (m:List UInt8) (e:PV):Prop where
 g:grp (chK e)=g
 d:chD e=d
 n:chN e=n
 m:mth e=m
theorem At.lt {g n:Int}{d m:List UInt8}{e e':PV} (h:At g d n m e) (h':At g d n m e') (k:chK e<chK e'):Lt e e':=cmp_k (h.g.trans h'.g.symm) (h.d.trans h'.d.symm) (h.n.trans h'.n.symm) (h.m.trans h'.m.symm) k
structure SUp (s:PV):Prop where
 uq:SUq s
 item:∀ m,m∈(s.fld 1).asList->∀ x,x∈(m.fld 2).asList->0<=adk x
 meth:∀ m,m∈(s.fld 2).asList->∀ x,x∈(m.fld 1).asList->azg (aak x)=true
theorem SchemaV.up {s:PV} (h:SchemaV s):SUp s:=by
 have at':∀ {l:List PV}{x:PV},x∈l->∃ i,i<l.length/\l.getD i .bad=x:=fun {l x} hx=>by
  obtain ⟨i,hi,rfl⟩:=List.mem_iff_getElem.1 hx
  exact ⟨i,hi,aaf hi⟩
 refine ⟨h.uq,fun m hm x hx=>?_,fun m hm x hx=>?_⟩
 ·obtain ⟨i,hi,rfl⟩:=at' hm
  obtain ⟨j,hj,rfl⟩:=at' hx
  exact (h.enum i hi j hj).pos
 ·obtain ⟨i,hi,rfl⟩:=at' hm
  obtain ⟨j,hj,rfl⟩:=at' hx
  exact (h.svc i hi j hj).name
end Go.Ab
