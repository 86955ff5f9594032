/- Comparing in both directions: what is collected is the same, turned back. -/
import Derived.Test.YtjogoleiodbfdaaGreatPCmpT
import Derived.Test.YtjogoleiodbfdaaGreatPSrt5T
import Derived.Test.YtjogoleiodbfdaaGreatPVld3T
set_option linter.unusedVariables false
set_option linter.unusedSimpArgs false
set_option linter.unnecessarySimpa false
namespace Go.Ab
open Go
set_option maxRecDepth 100000
section
variable {κ:Type} [BEq κ] [LawfulBEq κ] {key:PV->κ}
end
theorem ava {α:Type}{c:α->α->Int} (hc:Lin c):∀ {l:List α},(∀ i (hi:i+1<l.length),c (l[i]'(by omega)) l[i+1]<0)->l.Pairwise fun x y=>c x y<0:=by
 intro l
 induction l with
 | nil=>intro _;exact .nil
 | cons x r ih=>
  intro h
  have hr:r.Pairwise fun x y=>c x y<0:=ih fun i hi=>h (i+1) (by simp only [List.length_cons];omega)
  refine .cons (fun y hy=>?_) hr
  match r,hr,h with
  | y0::r',hr,h=>
   have h0:c x y0<0:=h 0 (by simp only [List.length_cons];omega)
   rcases List.mem_cons.1 hy with rfl | hy
   ·exact h0
   ·have h1:=(List.pairwise_cons.1 hr).1 y hy
    have:=hc.tr x y0 y (by omega) (by omega)
    rcases Int.lt_or_eq_of_le this.1 with h2 | h2
    ·exact h2
    ·have:=(this.2 h2).1;omega
theorem anv {α:Type}{c:α->α->Int} (hc:Lin c) {l:List α} (h:l.Pairwise fun x y=>c x y<0):l.Nodup:=h.imp fun {a b} hab e=>by
 subst e
 have:=hc.anti a a
 omega
theorem ayl {l:List PV} (h:∀ i,i+1<l.length->ascB (nmL l) i=true):(l.map aau).Pairwise fun x y=>cB x y<0:=by
 refine ava Lin.cB fun i hi=>?_
 rw [List.length_map] at hi
 have h1:=h i hi
 have e:∀ j,j<l.length->(nmL l).getD j .bad=.str (aau (l.getD j .bad)):=fun j hj=>by
  have:j<(nmL l).length:=by simpa [nmL] using hj
  rw [aag this,aag hj]
  simp only [nmL,List.getElem_map]
  rfl
 unfold ascB at h1
 rw [e i (by omega),e (i+1) hi,Bool.not_eq_true',Bool.or_eq_false_iff] at h1
 change Op.bytesLess (aau (l.getD (i+1) .bad)) (aau (l.getD i .bad))=false/\(aau (l.getD (i+1) .bad)==aau (l.getD i .bad))=false at h1
 rw [<-a0g,aag hi,aag (show i<l.length by omega)] at h1
 rw [List.getElem_map,List.getElem_map]
 have h2:=of_decide_eq_false h1.1
 have h3:cB (aau l[i+1]) (aau l[i])≠0:=fun h=>by rw [cB_zero.1 h] at h1;simp at h1
 have h4:=Lin.cB.anti (aau l[i]) (aau l[i+1])
 omega
theorem an8 {l:List PV} (h:∀ i,i+1<l.length->ascB (nmL l) i=true):(l.map aau).Nodup:=anv Lin.cB (ayl h)
theorem azw {l:List PV}{key:PV->Int} (h:∀ i,i<l.length->0<i->key (l.getD (i-1) .bad)<key (l.getD i .bad)):(l.map key).Pairwise fun x y=>cI x y<0:=by
 refine ava Lin.cI fun i hi=>?_
 rw [List.length_map] at hi
 have h1:=h (i+1) hi (by omega)
 rw [show i+1-1=i by omega,aag hi,aag (show i<l.length by omega)] at h1
 rw [List.getElem_map,List.getElem_map]
 unfold cI
 rw [if_pos h1]
 omega
theorem axf {l:List PV}{key:PV->Int} (h:∀ i,i<l.length->0<i->key (l.getD (i-1) .bad)<key (l.getD i .bad)):(l.map key).Nodup:=anv Lin.cI (azw h)
theorem MsgV.uq {m:PV} (h:MsgV m):((m.fld 1).asList.map kNum).Nodup:=axf fun i hi h0=>(h i hi).up h0
theorem EnumV.uq {m:PV} (h:EnumV m):((m.fld 2).asList.map av6).Nodup:=axf fun i hi h0=>(h i hi).up h0
theorem SvcV.pw {m:PV} (h:SvcV m):((m.fld 1).asList.map aau).Pairwise fun x y=>cB x y<0:=by
 refine ava Lin.cB fun i hi=>?_
 rw [List.length_map] at hi
 have h1:=(h (i+1) hi).up (by omega)
 rw [show i+1-1=i by omega,Bool.or_eq_false_iff] at h1
 change Op.bytesLess (aau ((m.fld 1).asList.getD (i+1) .bad)) (aau ((m.fld 1).asList.getD i .bad))=false/\(aau ((m.fld 1).asList.getD (i+1) .bad)==aau ((m.fld 1).asList.getD i .bad))=false at h1
 rw [<-a0g,aag hi,aag (show i<(m.fld 1).asList.length by omega)] at h1
 rw [List.getElem_map,List.getElem_map]
 have h2:=of_decide_eq_false h1.1
 have h3:cB (aau (m.fld 1).asList[i+1]) (aau (m.fld 1).asList[i])≠0:=fun h=>by rw [cB_zero.1 h] at h1;simp at h1
 have h4:=Lin.cB.anti (aau (m.fld 1).asList[i]) (aau (m.fld 1).asList[i+1])
 omega
theorem SvcV.uq {m:PV} (h:SvcV m):((m.fld 1).asList.map aau).Nodup:=anv Lin.cB h.pw
structure SUq (s:PV):Prop where
 m:((s.fld 0).asList.map aau).Nodup
 e:((s.fld 1).asList.map aau).Nodup
 v:((s.fld 2).asList.map aau).Nodup
 ms:∀ x,x∈(s.fld 0).asList->((x.fld 1).asList.map kNum).Nodup
 es:∀ x,x∈(s.fld 1).asList->((x.fld 2).asList.map av6).Nodup
 vs:∀ x,x∈(s.fld 2).asList->((x.fld 1).asList.map aau).Nodup
theorem SchemaV.uq {s:PV} (h:SchemaV s):SUq s:=by
 have at':∀ {l:List PV}{x:PV},x∈l->∃ i,i<l.length/\l.getD i .bad=x:=fun {l x} hx=>by
  obtain ⟨i,hi,rfl⟩:=List.mem_iff_getElem.1 hx
  exact ⟨i,hi,aag hi⟩
 refine ⟨an8 h.ascM,an8 h.ascE,an8 h.ascS,fun x hx=>?_,fun x hx=>?_,fun x hx=>?_⟩
 ·obtain ⟨i,hi,rfl⟩:=at' hx;exact (h.msg i hi).uq
 ·obtain ⟨i,hi,rfl⟩:=at' hx;exact (h.enum i hi).uq
 ·obtain ⟨i,hi,rfl⟩:=at' hx;exact (h.svc i hi).uq
end Go.Ab
