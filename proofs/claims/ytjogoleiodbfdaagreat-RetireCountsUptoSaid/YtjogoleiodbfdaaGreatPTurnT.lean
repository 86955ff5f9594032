/- Comparing in both directions: what is collected is the same, turned back. -/
import Derived.Test.YtjogoleiodbfdaaGreatPCmpT
import Derived.Test.YtjogoleiodbfdaaGreatPSrt5T
import Derived.Test.YtjogoleiodbfdaaGreatPVld3T
set_option linter.unusedVariables false
set_option linter.unusedSimpArgs false
set_option linter.unnecessarySimpa false
namespace Go.Ab
open Go
set_option maxRecDepth 100000
section
variable {κ:Type} [BEq κ] [LawfulBEq κ] {key:PV->κ}
end
theorem av1 {α:Type}{c:α->α->Int} (hc:Lin c):∀ {l:List α},(∀ i (hi:i+1<l.length),c (l[i]'(by omega)) l[i+1]<0)->l.Pairwise fun x y=>c x y<0:=by
 intro l
 induction l with
 | nil=>intro _;exact .nil
 | cons x r ih=>
  intro h
  have hr:r.Pairwise fun x y=>c x y<0:=ih fun i hi=>h (i+1) (by simp only [List.length_cons];omega)
  refine .cons (fun y hy=>?_) hr
  match r,hr,h with
  | y0::r',hr,h=>
   have h0:c x y0<0:=h 0 (by simp only [List.length_cons];omega)
   rcases List.mem_cons.1 hy with rfl | hy
   ·exact h0
   ·have h1:=(List.pairwise_cons.1 hr).1 y hy
    have:=hc.tr x y0 y (by omega) (by omega)
    rcases Int.lt_or_eq_of_le this.1 with h2 | h2
    ·exact h2
    ·have:=(this.2 h2).1;omega
theorem aoc {α:Type}{c:α->α->Int} (hc:Lin c) {l:List α} (h:l.Pairwise fun x y=>c x y<0):l.Nodup:=h.imp fun {a b} hab e=>by
 subst e
 have:=hc.anti a a
 omega
theorem azb {l:List PV} (h:∀ i,i+1<l.length->ascB (nmL l) i=true):(l.map aak).Pairwise fun x y=>cB x y<0:=by
 refine av1 Lin.cB fun i hi=>?_
 rw [List.length_map] at hi
 have h1:=h i hi
 have e:∀ j,j<l.length->(nmL l).getD j .bad=.str (aak (l.getD j .bad)):=fun j hj=>by
  have:j<(nmL l).length:=by simpa [nmL] using hj
  rw [aaf this,aaf hj]
  simp only [nmL,List.getElem_map]
  rfl
 unfold ascB at h1
 rw [e i (by omega),e (i+1) hi,Bool.not_eq_true',Bool.or_eq_false_iff] at h1
 change Op.bytesLess (aak (l.getD (i+1) .bad)) (aak (l.getD i .bad))=false/\(aak (l.getD (i+1) .bad)==aak (l.getD i .bad))=false at h1
 rw [<-a1b,aaf hi,aaf (show i<l.length by omega)] at h1
 rw [List.getElem_map,List.getElem_map]
 have h2:=of_decide_eq_false h1.1
 have h3:cB (aak l[i+1]) (aak l[i])≠0:=fun h=>by rw [cB_zero.1 h] at h1;simp at h1
 have h4:=Lin.cB.anti (aak l[i]) (aak l[i+1])
 omega
theorem aoq {l:List PV} (h:∀ i,i+1<l.length->ascB (nmL l) i=true):(l.map aak).Nodup:=aoc Lin.cB (azb h)
theorem a0s {l:List PV}{key:PV->Int} (h:∀ i,i<l.length->0<i->key (l.getD (i-1) .bad)<key (l.getD i .bad)):(l.map key).Pairwise fun x y=>cI x y<0:=by
 refine av1 Lin.cI fun i hi=>?_
 rw [List.length_map] at hi
 have h1:=h (i+1) hi (by omega)
 rw [show i+1-1=i by omega,aaf hi,aaf (show i<l.length by omega)] at h1
 rw [List.getElem_map,List.getElem_map]
 unfold cI
 rw [if_pos h1]
 omega
theorem ax6 {l:List PV}{key:PV->Int} (h:∀ i,i<l.length->0<i->key (l.getD (i-1) .bad)<key (l.getD i .bad)):(l.map key).Nodup:=aoc Lin.cI (a0s h)
theorem MsgV.uq {m:PV} (h:MsgV m):((m.fld 1).asList.map kNum).Nodup:=ax6 fun i hi h0=>(h i hi).up h0
theorem EnumV.uq {m:PV} (h:EnumV m):((m.fld 2).asList.map adk).Nodup:=ax6 fun i hi h0=>(h i hi).up h0
theorem SvcV.pw {m:PV} (h:SvcV m):((m.fld 1).asList.map aak).Pairwise fun x y=>cB x y<0:=by
 refine av1 Lin.cB fun i hi=>?_
 rw [List.length_map] at hi
 have h1:=(h (i+1) hi).up (by omega)
 rw [show i+1-1=i by omega,Bool.or_eq_false_iff] at h1
 change Op.bytesLess (aak ((m.fld 1).asList.getD (i+1) .bad)) (aak ((m.fld 1).asList.getD i .bad))=false/\(aak ((m.fld 1).asList.getD (i+1) .bad)==aak ((m.fld 1).asList.getD i .bad))=false at h1
 rw [<-a1b,aaf hi,aaf (show i<(m.fld 1).asList.length by omega)] at h1
 rw [List.getElem_map,List.getElem_map]
 have h2:=of_decide_eq_false h1.1
 have h3:cB (aak (m.fld 1).asList[i+1]) (aak (m.fld 1).asList[i])≠0:=fun h=>by rw [cB_zero.1 h] at h1;simp at h1
 have h4:=Lin.cB.anti (aak (m.fld 1).asList[i]) (aak (m.fld 1).asList[i+1])
 omega
theorem SvcV.uq {m:PV} (h:SvcV m):((m.fld 1).asList.map aak).Nodup:=aoc Lin.cB h.pw
structure SUq (s:PV):Prop where
 m:((s.fld 0).asList.map aak).Nodup
 e:((s.fld 1).asList.map aak).Nodup
 v:((s.fld 2).asList.map aak).Nodup
 ms:∀ x,x∈(s.fld 0).asList->((x.fld 1).asList.map kNum).Nodup
 es:∀ x,x∈(s.fld 1).asList->((x.fld 2).asList.map adk).Nodup
 vs:∀ x,x∈(s.fld 2).asList->((x.fld 1).asList.map aak).Nodup
theorem SchemaV.uq {s:PV} (h:SchemaV s):SUq s:=by
 have at':∀ {l:List PV}{x:PV},x∈l->∃ i,i<l.length/\l.getD i .bad=x:=fun {l x} hx=>by
  obtain ⟨i,hi,rfl⟩:=List.mem_iff_getElem.1 hx
  exact ⟨i,hi,aaf hi⟩
 refine ⟨aoq h.ascM,aoq h.ascE,aoq h.ascS,fun x hx=>?_,fun x hx=>?_,fun x hx=>?_⟩
 ·obtain ⟨i,hi,rfl⟩:=at' hx;exact (h.msg i hi).uq
 ·obtain ⟨i,hi,rfl⟩:=at' hx;exact (h.enum i hi).uq
 ·obtain ⟨i,hi,rfl⟩:=at' hx;exact (h.svc i hi).uq
end Go.Ab
