/- Check, Print, Field, Type, Literal: the same in the program and the specification. -/
import Derived.Test.YtodichgnoiaanaaGreatPFileT
set_option linter.unusedVariables false
set_option linter.unusedSimpArgs false
set_option linter.unnecessarySimpa false
namespace Go.Ab
open Go
set_option maxRecDepth 100000
theorem ay3 {e:Int}{l:List PV}{t:Int} (h:errN e l t=0):e=0/\aip l t=0:=by
 unfold errN at h
 grind
theorem ay2:∀ (l:List PV) (e:Int),errL l e=0->e=0/\∀ n,n∈l->aip (n.fld 0).asList (n.fld 1).asInt=0:=by
 intro l
 induction l with
 | nil=>intro e h;exact ⟨h,fun n hn=>by cases hn⟩
 | cons n r ih=>
  intro e h
  obtain ⟨h1,h2⟩:=ih _ h
  obtain ⟨h3,h4⟩:=ay3 h1
  grind
theorem awo {l:List PV}{t:Int} (h:aip l t=0):l.length<=40:=by
 grind [aip]
theorem aog {f:PV} (h:aes f=0) {n:PV} (hn:n∈ai8 f):(n.fld 0).asList.length<=40:=by
 grind [ay0,awo,ay2]
theorem a6e {a b:Int} (hab:a<=b) {x:PV} (h:ak2 a x=true):ak2 b x=true:=by
 unfold ak2 at*
 grind
theorem a7o {x:PV} (h:OkFld x) (ha:alf x=true) (hn:(x.fld 8).asList.length<=40):RowOk x:=by
 unfold alf ary at ha
 simp only [Bool.and_eq_true,decide_eq_true_eq] at ha
 obtain ⟨⟨⟨⟨h1,h2,h3,h4,_⟩,_⟩,_⟩,_⟩:=ha
 exact ⟨h,h1,h2,h3,h4,hn⟩
theorem ay9 {f:PV} (h:OkFile f) (ha:agf f=true) (hn:aes f=0) (hc:agi f=true):FileOk f:=by
 unfold agf at ha
 unfold agi au9 at hc
 simp only [Bool.and_eq_true,decide_eq_true_eq,List.all_eq_true] at ha hc
 obtain ⟨⟨a1,a2⟩,a3⟩:=ha
 obtain ⟨⟨⟨⟨⟨⟨c1,c2⟩,c3⟩,c4⟩,c5⟩,c6⟩,c7⟩:=hc
 refine ⟨h,c1,c2,fun m hm=>?_,c3,fun m hm=>?_,c4,fun m hm=>?_⟩
 ·have ho:=h.msg m hm
  have hm1:=a1 m hm
  have hm2:=c5 m hm
  unfold aqn at hm1
  unfold aqt at hm2
  simp only [Bool.and_eq_true,decide_eq_true_eq,List.all_eq_true] at hm1 hm2
  have hin:∀ n,n∈a0h m->n∈ai8 f:=fun n hn=>by
   grind [ai8,List.mem_append_left]
  refine ⟨ho,fun x hx=>a7o (ho.field x hx) (hm1.1.1 x hx) ?_,hm2.1.1,hm2.1.2,fun x hx=>a6e (by decide) (hm1.2 x hx),hm2.2,?_⟩
  ·exact aog (n:=nv (x.fld 8).asList 2) hn (hin _ (List.mem_cons_of_mem _ (List.mem_map.2 ⟨x,hx,rfl⟩)))
  ·exact aog (n:=nv (m.fld 4).asList 1) hn (hin _ (List.mem_cons_self ..))
 ·have ho:=h.enum m hm
  have hm1:=a2 m hm
  have hm2:=c6 m hm
  unfold aoy at hm1
  unfold alq at hm2
  simp only [Bool.and_eq_true,decide_eq_true_eq,List.all_eq_true] at hm1 hm2
  have hin:∀ n,n∈ars m->n∈ai8 f:=fun n hn=>by
   grind [ai8,List.mem_append_left,List.mem_append_right]
  refine ⟨ho,hm2.1,fun x hx=>?_,fun x hx=>?_,hm2.2,hm1.1,?_⟩
  ·have:=hm1.2 x hx
   unfold alg at this
   grind
  ·exact aog (n:=nv (x.fld 2).asList 4) hn (hin _ (List.mem_cons_of_mem _ (List.mem_map.2 ⟨x,hx,rfl⟩)))
  ·exact aog (n:=nv (m.fld 4).asList 3) hn (hin _ (List.mem_cons_self ..))
 ·have ho:=h.svc m hm
  have hm2:=c7 m hm
  unfold au8 at hm2
  simp only [decide_eq_true_eq] at hm2
  have hin:∀ n,n∈a0i m->n∈ai8 f:=fun n hn=>by
   grind [ai8,List.mem_append_right]
  refine ⟨ho,hm2,fun x hx=>?_,?_⟩
  ·exact aog (n:=nv (x.fld 4).asList 6) hn (hin _ (List.mem_cons_of_mem _ (List.mem_map.2 ⟨x,hx,rfl⟩)))
  ·exact aog (n:=nv (m.fld 2).asList 5) hn (hin _ (List.mem_cons_self ..))
noncomputable def chkF (f:PV):Int:=
 bif !aoe f then 8 else bif !agf f then 1 else bif !asp f then 7 else bif aes f != 0 then aes f else bif !agi f then 3 else bif decide (((ani f).length:Int)>16384) then 3 else 0
theorem a0u (f:PV) (h:OkFile f):F77 0 f=some (chkF f):=by
 unfold F77 chkF
 simp only [aud f h,Option.bind_some,amn f h,a4q _ h.imports h.importS,aa9,ap6 f h,a3m f h,ar1 f h]
 cases aoe f with
 | false=>rfl
 | true=>
  cases ha:agf f with
  | false=>rfl
  | true=>
   have et:(txL (f.fld 2).asList&&(f.fld 3).asList.all a3v)=asp f:=rfl
   simp only [et,Bool.not_true,cond_false]
   cases asp f with
   | false=>rfl
   | true=>
    by_cases hn:aes f=0
    ·simp only [hn,Bool.not_true,cond_false]
     cases hc:agi f with
     | false=>rfl
     | true=>
      simp only [Bool.not_true,Bool.not_false,cond_true,cond_false,amu f (ay9 h ha hn hc),Option.bind_some]
      show (bif decide (((ani f).length:Int)>(16384:Int)) then some (3:Int) else some 0)=some (bif decide (((ani f).length:Int)>16384) then 3 else 0)
      cases decide (((ani f).length:Int)>(16384:Int))<;>rfl
    ·have e2:(aes f != (0:Int))=true:=bneI hn
     simp only [Bool.not_true,cond_false,e2,cond_true]
theorem a2b {f:PV} (h:OkFile f) (hz:chkF f=0):FileOk f:=by
 unfold chkF at hz
 cases h1:aoe f<;>rw [h1] at hz
 ·cases hz
 cases h2:agf f<;>rw [h2] at hz
 ·cases hz
 cases h3:asp f<;>rw [h3] at hz
 ·cases hz
 simp only [Bool.not_true,cond_false] at hz
 by_cases hn:aes f=0
 ·grind [agi,ay9]
 grind
theorem aue (f:PV) (h:OkFile f):F52 0 f=some (bif chkF f != 0 then [] else ani f):=by
 unfold F52
 rw [a0u f h,Option.bind_some]
 by_cases hz:chkF f=0
 ·rw [hz,amu f (a2b h hz)];rfl
 ·rw [bneI hz];rfl
end Go.Ab
