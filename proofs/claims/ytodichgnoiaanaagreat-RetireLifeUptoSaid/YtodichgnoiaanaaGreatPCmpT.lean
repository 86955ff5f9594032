/- What evolve.Compare collects. -/
import Derived.Test.YtodichgnoiaanaaGreatPVld3T
import Derived.Test.YtodichgnoiaanaaGreatPNTextT
import Derived.Test.YtodichgnoiaanaaGreatPOrdT
set_option linter.unusedVariables false
set_option linter.unusedSimpArgs false
set_option linter.unnecessarySimpa false
namespace Go.Ab
open Go
set_option maxRecDepth 100000
def ah8 (x:PV):List UInt8:=(x.fld 0).asStr
end Go.Ab
namespace Go.Ab
open Go
set_option maxRecDepth 100000
section
variable {κ:Type} [BEq κ] [LawfulBEq κ] {key:PV->κ}
end
theorem a6l {α:Type}{c:α->α->Int} (hc:Lin c):∀ {l:List α},(∀ i (hi:i+1<l.length),c (l[i]'(by omega)) l[i+1]<0)->l.Pairwise fun x y=>c x y<0:=by
 intro l
 induction l with
 | nil=>intro _;exact .nil
 | cons x r ih=>
  intro h
  have hr:r.Pairwise fun x y=>c x y<0:=ih fun i hi=>h (i+1) (by simp only [List.length_cons];omega)
  refine .cons (fun y hy=>?_) hr
  match r,hr,h with
  | y0::r',hr,h=>
   have h0:c x y0<0:=h 0 (by simp only [List.length_cons];omega)
   rcases List.mem_cons.1 hy with rfl | hy
   ·exact h0
   ·have h1:=(List.pairwise_cons.1 hr).1 y hy
    have:=hc.tr x y0 y (by omega) (by omega)
    rcases Int.lt_or_eq_of_le this.1 with h2 | h2
    ·exact h2
    ·have:=(this.2 h2).1;omega
theorem a3k {α:Type}{c:α->α->Int} (hc:Lin c) {l:List α} (h:l.Pairwise fun x y=>c x y<0):l.Nodup:=h.imp fun {a b} hab e=>by
 subst e
 have:=hc.anti a a
 omega
theorem a3j {l:List PV} (h:∀ i,i+1<l.length->ascB (nmL l) i=true):(l.map ah8).Pairwise fun x y=>cB x y<0:=by
 refine a6l Lin.cB fun i hi=>?_
 rw [List.length_map] at hi
 have h1:=h i hi
 have e:∀ j,j<l.length->(nmL l).getD j .bad=.str (ah8 (l.getD j .bad)):=fun j hj=>by
  have:j<(nmL l).length:=by simpa [nmL] using hj
  rw [aav this,aav hj]
  simp only [nmL,List.getElem_map]
  rfl
 unfold ascB at h1
 rw [e i (by omega),e (i+1) hi,Bool.not_eq_true',Bool.or_eq_false_iff] at h1
 change Op.bytesLess (ah8 (l.getD (i+1) .bad)) (ah8 (l.getD i .bad))=false/\(ah8 (l.getD (i+1) .bad)==ah8 (l.getD i .bad))=false at h1
 rw [<-cB_lt,aav hi,aav (show i<l.length by omega)] at h1
 rw [List.getElem_map,List.getElem_map]
 have h2:=of_decide_eq_false h1.1
 have h3:cB (ah8 l[i+1]) (ah8 l[i])≠0:=fun h=>by rw [cB_zero.1 h] at h1;simp at h1
 have h4:=Lin.cB.anti (ah8 l[i]) (ah8 l[i+1])
 omega
theorem a3x {l:List PV} (h:∀ i,i+1<l.length->ascB (nmL l) i=true):(l.map ah8).Nodup:=a3k Lin.cB (a3j h)
end Go.Ab
