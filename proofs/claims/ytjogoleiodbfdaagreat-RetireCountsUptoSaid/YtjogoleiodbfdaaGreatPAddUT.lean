/- Lists of uses: counts in a map, and counts in a sorted list. -/
import Derived.Test.YtjogoleiodbfdaaGreatAbSrt1Z
import Derived.Test.YtjogoleiodbfdaaGreatGenZ
import Derived.Test.YtjogoleiodbfdaaGreatAbPlain
set_option linter.unusedVariables false
set_option linter.unusedSimpArgs false
set_option linter.unnecessarySimpa false
namespace Go.Ab
open Go
set_option maxRecDepth 100000
def eqK (x y:UseT):Bool:=x.1==y.1&&x.2.1==y.2.1
theorem eqK_iff {x y:UseT}:eqK x y=true ↔ x.1=y.1/\x.2.1=y.2.1:=by simp [eqK]
theorem anm (x:UseT):eqK x x=true:=by simp [eqK]
theorem aj1 {x y:UseT} (h:eqK x y=true):eqK y x=true:=by rw [eqK_iff] at *;exact ⟨h.1.symm,h.2.symm⟩
theorem akp {x y z:UseT} (h:eqK x y=true) (k:eqK y z=true):eqK x z=true:=by rw [eqK_iff] at *;exact ⟨h.1.trans k.1,h.2.trans k.2⟩
theorem aj0 (x y:UseT):eqK x y=eqK y x:=by
 cases h:eqK y x with
 | true=>exact aj1 h
 | false=>cases k:eqK x y with
  | true=>rw [aj1 k] at h;cases h
  | false=>rfl
theorem aj6 {x x' y y':UseT} (h:eqK x x'=true) (k:eqK y y'=true):ltU x y=ltU x' y':=by
 rw [eqK_iff] at h k
 unfold ltU
 rw [h.1,h.2,k.1,k.2]
theorem azx {x y:UseT} (h:ltU x y=true):eqK x y=false:=by
 cases e:eqK x y with
 | false=>rfl
 | true=>rw [aj6 e (anm y),swo_ltU.irrefl] at h;cases h
theorem apw {x y:UseT} (h:ltU x y=true):ltU y x=false:=by
 cases e:ltU y x with
 | false=>rfl
 | true=>have:=swo_ltU.trans _ _ _ h e;rw [swo_ltU.irrefl] at this;cases this
theorem triU (x y:UseT):ltU x y=true∨eqK x y=true∨ltU y x=true:=by
 rcases Classical.em (x.1=y.1) with h | h
 ·rcases Int.lt_trichotomy x.2.1 y.2.1 with q | q | q
  ·exact .inl ((aja _ _).2 (.inr ⟨h,q⟩))
  ·exact .inr (.inl (eqK_iff.2 ⟨h,q⟩))
  ·exact .inr (.inr ((aja _ _).2 (.inr ⟨h.symm,q⟩)))
 ·by_cases q:x.1<y.1
  ·exact .inl ((aja _ _).2 (.inl q))
  ·refine .inr (.inr ((aja _ _).2 (.inl ?_)))
   rcases List.not_lt.1 q |> List.le_iff_lt_or_eq.1 with q | q
   ·exact q
   ·exact absurd q.symm h
def w64 (n:Int):Int:=IntKind.wrap .i64 n
def ahw:List UseT->UseT->List UseT
 | [],u=>[u]
 | x::r,u=>bif ltU x u then x::ahw r u else bif eqK x u then (u.1,u.2.1,w64 (u.2.2+x.2.2))::r else u::x::r
def addU:List UseT->UseT->List UseT
 | [],u=>[(u.1,u.2.1,w64 (0+u.2.2))]
 | x::r,u=>bif eqK x u then (x.1,x.2.1,w64 (x.2.2+u.2.2))::r else x::addU r u
def insU (x:UseT):List UseT->List UseT
 | []=>[x]
 | y::r=>bif ltU x y then x::y::r else y::insU x r
def srtU:List UseT->List UseT
 | []=>[]
 | x::r=>insU x (srtU r)
def okU:List UseT->Bool
 | []=>true
 | x::r=>r.all (fun y=>!eqK x y)&&okU r
theorem okU_cons {x:UseT}{r:List UseT}:okU (x::r)=true ↔ (∀ y,y∈r->eqK x y=false)/\okU r=true:=by
 simp [okU]
theorem atm (x:UseT):∀ l:List UseT,insP (aax x) (l.map aax)=(insU x l).map aax
 | []=>rfl
 | y::r=>by
  simp only [List.map_cons,insP,insU,atm x r]
  show (bif ltU x y then _ else _)=_
  cases ltU x y<;>rfl
theorem aqf:∀ l:List UseT,alj (l.map aax)=(srtU l).map aax
 | []=>rfl
 | x::r=>by simp only [List.map_cons,alj,srtU,aqf r,atm]
theorem amq:∀ l:List UseT,okU l=true->ag7 (l.map aax)=true
 | [],_=>rfl
 | x::r,h=>by
  rw [okU_cons] at h
  simp only [List.map_cons,ag7,amq r h.2,Bool.and_true,List.all_map,List.all_eq_true]
  intro y hy
  show (ltU x y||ltU y x)=true
  have:=h.1 y hy
  rcases triU x y with q | q | q
  ·rw [q];rfl
  ·rw [q] at this;cases this
  ·rw [q,Bool.or_true]
theorem insU_mem {x:UseT}:∀ {l:List UseT}{y:UseT},y∈insU x l ↔ y=x∨y∈l
 | [],y=>by simp [insU]
 | z::r,y=>by
  unfold insU
  cases ltU x z with
  | true=>simp
  | false=>simp only [cond_false,List.mem_cons,insU_mem];constructor<;>(rintro (h | h | h)<;>simp [h])
theorem srtU_mem:∀ {l:List UseT}{y:UseT},y∈srtU l ↔ y∈l
 | [],y=>by simp [srtU]
 | x::r,y=>by simp [srtU,insU_mem,srtU_mem]
theorem arn {x:UseT}:∀ {l:List UseT},l.Pairwise (fun a b=>ltU a b=true)->(∀ y,y∈l->eqK x y=false)->(insU x l).Pairwise (fun a b=>ltU a b=true)
 | [],_,_=>by simp [insU]
 | y::r,h,hx=>by
  rw [List.pairwise_cons] at h
  unfold insU
  cases hxy:ltU x y with
  | true=>
   refine List.pairwise_cons.2 ⟨fun z hz=>?_,List.pairwise_cons.2 h⟩
   rcases List.mem_cons.1 hz with rfl | hz
   ·exact hxy
   ·exact swo_ltU.trans _ _ _ hxy (h.1 z hz)
  | false=>
   refine List.pairwise_cons.2 ⟨fun z hz=>?_,arn h.2 fun z hz=>hx z (List.mem_cons_of_mem _ hz)⟩
   rcases insU_mem.1 hz with rfl | hz
   ·have:=hx y (by simp)
    rcases triU z y with q | q | q
    ·rw [hxy] at q;cases q
    ·rw [q] at this;cases this
    ·exact q
   ·exact h.1 z hz
theorem agb:∀ {l:List UseT},okU l=true->(srtU l).Pairwise (fun a b=>ltU a b=true)
 | [],_=>.nil
 | x::r,h=>by
  rw [okU_cons] at h
  exact arn (agb h.2) fun y hy=>h.1 y (srtU_mem.1 hy)
theorem axl:∀ {l l':List UseT},l.Pairwise (fun a b=>ltU a b=true)->l'.Pairwise (fun a b=>ltU a b=true)->(∀ x,x∈l ↔ x∈l')->l=l'
 | [],[],_,_,_=>rfl
 | [],y::q,_,_,hm=>by have:=(hm y).2 (by simp);cases this
 | x::r,[],_,_,hm=>by have:=(hm x).1 (by simp);cases this
 | x::r,y::q,h,k,hm=>by
  rw [List.pairwise_cons] at h k
  have ir:∀ {z:UseT},ltU z z≠true:=fun {z} h=>by rw [swo_ltU.irrefl] at h;cases h
  have e:x=y:=by
   rcases List.mem_cons.1 ((hm x).1 (by simp)) with e | h1
   ·exact e
   ·rcases List.mem_cons.1 ((hm y).2 (by simp)) with e | h2
    ·exact e.symm
    ·exact absurd (swo_ltU.trans _ _ _ (h.1 y h2) (k.1 x h1)) ir
  subst e
  rw [axl h.2 k.2 fun z=>⟨fun hz=>?_,fun hz=>?_⟩]
  ·rcases List.mem_cons.1 ((hm z).1 (List.mem_cons_of_mem _ hz)) with rfl | q
   ·exact absurd (h.1 _ hz) ir
   ·exact q
  ·rcases List.mem_cons.1 ((hm z).2 (List.mem_cons_of_mem _ hz)) with rfl | q
   ·exact absurd (k.1 _ hz) ir
   ·exact q
theorem axz {l l':List UseT} (h:okU l=true) (h':okU l'=true) (hm:∀ x,x∈l ↔ x∈l'):srtU l=srtU l':=
 axl (agb h) (agb h') fun x=>by rw [srtU_mem,srtU_mem];exact hm x
theorem ane {u x:UseT}:∀ {l:List UseT},x∈addU l u->eqK x u=true∨x∈l
 | [],h=>by simp [addU] at h;subst h;exact .inl (by simp [eqK])
 | y::r,h=>by
  unfold addU at h
  cases e:eqK y u with
  | true=>
   rw [e] at h
   rcases List.mem_cons.1 h with rfl | h
   ·exact .inl e
   ·exact .inr (List.mem_cons_of_mem _ h)
  | false=>
   rw [e] at h
   rcases List.mem_cons.1 h with rfl | h
   ·exact .inr (by simp)
   ·rcases ane h with h | h
    ·exact .inl h
    ·exact .inr (List.mem_cons_of_mem _ h)
theorem aqu {u:UseT}:∀ {l:List UseT},okU l=true->okU (addU l u)=true
 | [],_=>rfl
 | y::r,h=>by
  rw [okU_cons] at h
  unfold addU
  cases e:eqK y u with
  | true=>exact okU_cons.2 ⟨fun z hz=>h.1 z hz,h.2⟩
  | false=>
   refine okU_cons.2 ⟨fun z hz=>?_,aqu h.2⟩
   rcases ane hz with q | q
   ·cases w:eqK y z with
    | false=>rfl
    | true=>rw [akp w q] at e;cases e
   ·exact h.1 z q
theorem anf {u:UseT}:∀ {l:List UseT},(∀ x,x∈l->eqK x u=false)->addU l u=l++[(u.1,u.2.1,w64 (0+u.2.2))]
 | [],_=>rfl
 | y::r,h=>by
  unfold addU
  rw [h y (by simp),cond_false,anf fun x hx=>h x (List.mem_cons_of_mem _ hx)]
  rfl
def bump (u x:UseT):UseT:=bif eqK x u then (x.1,x.2.1,w64 (x.2.2+u.2.2)) else x
theorem as7 (u x:UseT):eqK (bump u x) x=true:=by
 unfold bump
 cases eqK x u<;>simp [eqK]
theorem atv {u:UseT}{l:List UseT} (h:∀ x,x∈l->eqK x u=false):l.map (bump u)=l:=by
 rw [List.map_congr_left (g:=id) fun x hx=>by simp [bump,h x hx]]
 simp
theorem as3 {u:UseT}:∀ {l:List UseT},okU l=true->(∃ x,x∈l/\eqK x u=true)->addU l u=l.map (bump u)
 | [],_,h=>by obtain ⟨x,hx,_⟩:=h;cases hx
 | y::r,h,k=>by
  rw [okU_cons] at h
  unfold addU
  cases e:eqK y u with
  | true=>
   have:r.map (bump u)=r:=atv fun x hx=>by
    cases q:eqK x u with
    | false=>rfl
    | true=>have:=h.1 x hx;rw [akp e (aj1 q)] at this;cases this
   rw [List.map_cons,this]
   simp [bump,e]
  | false=>
   obtain ⟨x,hx,q⟩:=k
   rcases List.mem_cons.1 hx with rfl | hx
   ·rw [e] at q;cases q
   ·rw [List.map_cons,cond_false,as3 h.2 ⟨x,hx,q⟩]
    simp [bump,e]
theorem apl (u x:UseT):∀ l:List UseT,insU (bump u x) (l.map (bump u))=(insU x l).map (bump u)
 | []=>rfl
 | y::r=>by
  simp only [List.map_cons,insU,apl u x r,aj6 (as7 u x) (as7 u y)]
  cases ltU x y<;>rfl
theorem aqj (u:UseT):∀ l:List UseT,srtU (l.map (bump u))=(srtU l).map (bump u)
 | []=>rfl
 | x::r=>by simp only [List.map_cons,srtU,aqj u r,apl]
theorem aqs {u:UseT}:∀ {l:List UseT},(∀ x,x∈l->eqK x u=false)->ahw l u=insU u l
 | [],_=>rfl
 | y::r,h=>by
  unfold ahw insU
  have hy:=h y (by simp)
  rw [aqs fun x hx=>h x (List.mem_cons_of_mem _ hx),hy,cond_false]
  rcases triU y u with q | q | q
  ·rw [q,apw q];rfl
  ·rw [q] at hy;cases hy
  ·rw [q,apw q];rfl
theorem aqt {u:UseT}:∀ {l:List UseT},l.Pairwise (fun a b=>ltU a b=true)->(∃ x,x∈l/\eqK x u=true)->ahw l u=l.map (bump u)
 | [],_,h=>by obtain ⟨x,hx,_⟩:=h;cases hx
 | y::r,h,k=>by
  rw [List.pairwise_cons] at h
  obtain ⟨x,hx,q⟩:=k
  unfold ahw
  cases e:eqK y u with
  | true=>
   have lt:ltU y u=false:=by rw [aj6 e (anm u)];exact swo_ltU.irrefl _
   have:r.map (bump u)=r:=atv fun x hx=>by
    have:=azx (h.1 x hx)
    cases q:eqK x u with
    | false=>rfl
    | true=>rw [akp e (aj1 q)] at this;cases this
   rw [lt,List.map_cons,this]
   have he:=eqK_iff.1 e
   simp only [bump,e,cond_true,cond_false,he.1,he.2,Int.add_comm]
  | false=>
   rcases List.mem_cons.1 hx with rfl | hx
   ·rw [e] at q;cases q
   ·have lt:ltU y u=true:=by rw [<-aj6 (anm y) q];exact h.1 x hx
    rw [lt,List.map_cons,cond_true,aqt h.2 ⟨x,hx,q⟩]
    simp [bump,e]
theorem azi {l:List UseT}{u:UseT} (h:okU l=true) (hu:w64 u.2.2=u.2.2):srtU (addU l u)=ahw (srtU l) u:=by
 by_cases k:∃ x,x∈l/\eqK x u=true
 ·rw [as3 h k,aqj,aqt (agb h)]
  obtain ⟨x,hx,q⟩:=k
  exact ⟨x,srtU_mem.2 hx,q⟩
 ·have k':∀ x,x∈l->eqK x u=false:=fun x hx=>by
   cases q:eqK x u with
   | false=>rfl
   | true=>exact absurd ⟨x,hx,q⟩ k
  have e:(u.1,u.2.1,w64 (0+u.2.2))=u:=by rw [Int.zero_add,hu]
  rw [anf k',e,aqs fun x hx=>k' x (srtU_mem.1 hx)]
  have hok:okU (l++[u])=true:=by have:=aqu (u:=u) h;rw [anf k',e] at this;exact this
  refine axl (agb hok) (arn (agb h) fun y hy=>by rw [aj0];exact k' y (srtU_mem.1 hy)) fun x=>?_
  rw [srtU_mem,insU_mem,srtU_mem]
  simp [or_comm]
theorem alm:∀ {L l:List UseT},okU l=true->(∀ u,u∈L->w64 u.2.2=u.2.2)->okU (L.foldl addU l)=true/\srtU (L.foldl addU l)=L.foldl ahw (srtU l)
 | [],l,h,_=>⟨h,rfl⟩
 | u::L,l,h,k=>by
  have:=alm (L:=L) (aqu (u:=u) h) fun v hv=>k v (List.mem_cons_of_mem _ hv)
  rw [azi h (k u (by simp))] at this
  exact this
end Go.Ab
namespace Go.Ab
open Go
set_option maxRecDepth 100000
theorem a2h {i:Nat} (h:i<=4000000000):IntKind.wrap .i64 ((i:Int)+1)=((i+1:Nat):Int):=by
 rw [am7 (by omega) (by omega)];rfl
def ac6 (u:UseT):PV:=.agg [.str u.1,.int u.2.1]
def aau (l:List UseT):List (PV×PV):=l.map fun x=>(ac6 x,.int x.2.2)
theorem atp (u x:UseT):af0 (ac6 u) (ac6 x)=eqK x u:=by
 show (bif u.1==x.1 then (bif u.2.1==x.2.1 then true else false) else false)=_
 rw [aj0]
 unfold eqK
 cases u.1==x.1<;>cases u.2.1==x.2.1<;>rfl
theorem axg (e:PV×PV) (l:List (PV×PV)) (n:Nat) (v:PV):PV.mset (e::l) (n+1) v=e::PV.mset l n v:=by
 unfold PV.mset
 rw [List.getElem?_cons_succ]
 cases l[n]?<;>rfl
theorem axc (u:UseT):∀ l:List UseT,
 PV.midx (aau l) (ac6 u)<(PV.mput (aau l) (ac6 u) ((PV.mget (aau l) (ac6 u)).getD (.int 0))).length/\
 PV.mset (PV.mput (aau l) (ac6 u) ((PV.mget (aau l) (ac6 u)).getD (.int 0))) (PV.midx (aau l) (ac6 u)) (.int (IntKind.wrap .i64 (((PV.mget (aau l) (ac6 u)).getD (.int 0)).asInt+u.2.2)))=aau (addU l u)
 | []=>⟨by simp [aau,PV.midx,PV.mput],rfl⟩
 | x::r=>by
  obtain ⟨h1,h2⟩:=axc u r
  show PV.midx ((ac6 x,.int x.2.2)::aau r) _<(PV.mput ((ac6 x,.int x.2.2)::aau r) _ ((PV.mget ((ac6 x,.int x.2.2)::aau r) _).getD _)).length/\PV.mset (PV.mput ((ac6 x,.int x.2.2)::aau r) _ ((PV.mget ((ac6 x,.int x.2.2)::aau r) _).getD _)) (PV.midx ((ac6 x,.int x.2.2)::aau r) _) (.int (IntKind.wrap .i64 (((PV.mget ((ac6 x,.int x.2.2)::aau r) _).getD _).asInt+u.2.2)))=_
  unfold addU
  cases e:eqK x u with
  | true=>
   have e':af0 (ac6 u) (ac6 x)=true:=(atp u x).trans e
   simp only [PV.midx,PV.mput,PV.mget,List.find?_cons,e',cond_true]
   exact ⟨by simp,rfl⟩
  | false=>
   have e':af0 (ac6 u) (ac6 x)=false:=(atp u x).trans e
   have hg:PV.mget ((ac6 x,.int x.2.2)::aau r) (ac6 u)=PV.mget (aau r) (ac6 u):=by simp only [PV.mget,List.find?_cons,e']
   rw [hg]
   simp only [PV.midx,PV.mput,e',cond_false,axg,List.length_cons]
   exact ⟨by omega,by rw [h2];rfl⟩
theorem apd {α β:Type} (f:α->β):∀ (l:List α) (i:Nat),(l.map f).eraseIdx i=(l.eraseIdx i).map f
 | [],_=>rfl
 | _::_,0=>rfl
 | x::r,i+1=>by simp only [List.map_cons,List.eraseIdx_cons_succ,apd f r i]
theorem amm {α:Type}:∀ (l:List α) (i:Nat) (h:i<l.length),(l[i]::l.eraseIdx i).Perm l
 | [],_,h=>by simp at h
 | x::r,0,_=>.refl _
 | x::r,i+1,h=>by
  simp only [List.getElem_cons_succ,List.eraseIdx_cons_succ]
  exact (List.Perm.swap _ _ _).trans ((amm r i (by simpa using h)).cons x)
theorem okU_pw:∀ {l:List UseT},okU l=true ↔ l.Pairwise (fun a b=>eqK a b=false)
 | []=>by simp [okU]
 | x::r=>by rw [okU_cons,List.pairwise_cons,okU_pw]
theorem at0 {l l':List UseT} (h:l.Perm l') (k:okU l'=true):okU l=true:=by
 rw [okU_pw] at*
 exact (h.pairwise_iff (fun {a b} e=>by rw [aj0];exact e)).2 k
theorem ask {K:Unit×Unit×List (PV×PV)×List PV->Option (List PV)}{l:List UseT} (hl:l.length<=4000000000) (hK:∀ o:List UseT,o.Perm l->K ((),(),[],o.map aax)=some ((srtU l).map aax)):
 ∀ (n:Nat) (m o:List UseT),m.length=n->(o++m).Perm l->mend S18_4rem (S18_4go 0) (S18_4fin 0) n ((),(),(),aau m,o.map aax) (fun y=>K y=some ((srtU l).map aax)):=by
 intro n
 induction n with
 | zero=>
  intro m o hm hp
  obtain rfl:m=[]:=List.length_eq_zero_iff.1 hm
  exact ⟨rfl,_,rfl,hK o (by simpa using hp)⟩
 | succ n ih=>
  intro m o hm hp
  refine ⟨by show (aau m).length=_;simp [aau,hm],fun i e hi=>.inl ?_⟩
  have hi:(aau m)[i]?=some e:=hi
  obtain ⟨x,hx,rfl⟩:∃ x,m[i]?=some x/\e=(ac6 x,.int x.2.2):=by
   unfold aau at hi
   rw [List.getElem?_map] at hi
   cases hx:m[i]? with
   | none=>rw [hx] at hi;cases hi
   | some x=>rw [hx] at hi;cases hi;exact ⟨x,rfl,rfl⟩
  obtain ⟨hlt,rfl⟩:=List.getElem?_eq_some_iff.1 hx
  have hlen:o.length+m.length=l.length:=by rw [<-List.length_append];exact hp.length_eq
  have er:(aau m).eraseIdx i=aau (m.eraseIdx i):=apd _ _ _
  have hp2:((o++[m[i]])++m.eraseIdx i).Perm l:=by
   refine List.Perm.trans ?_ hp
   rw [List.append_assoc]
   exact (List.perm_append_left_iff o).2 (amm m i hlt)
  refine ⟨((),(),(),aau (m.eraseIdx i),(o++[m[i]]).map aax),?_,ih _ _ (by rw [List.length_eraseIdx_of_lt hlt];omega) hp2⟩
  show S18_4go 0 _ ((aau m).eraseIdx i) _=_
  rw [er]
  have hb:decide ((o.map aax).length+[aax m[i]].length<=aat)=true:=decide_eq_true (by simp only [List.length_map,List.length_cons,List.length_nil,aat];omega)
  show (bif decide ((o.map aax).length+[aax m[i]].length<=aat) then _ else none)=_
  rw [hb,cond_true,List.map_append]
  rfl
theorem avi {l:List UseT} (h:okU l=true) (hl:l.length<=4000000000):F18 0 (aau l)=some ((srtU l).map aax):=by
 unfold F18
 refine ay3 _ ?_
 show mend _ _ _ (aau l).length _ _
 rw [show (aau l).length=l.length by simp [aau]]
 refine ask hl (fun o ho=>?_) _ l [] rfl (by simp)
 show (amc 0 (o.map aax) ()).bind _=_
 have hk:=amq o (at0 ho h)
 have hb:decide ((o.map aax).length<=aat)=true:=decide_eq_true (by rw [List.length_map,ho.length_eq];simp only [aat];omega)
 unfold amc
 rw [hk,hb,Bool.and_true,cond_true,Option.bind_some,aqf,axz (at0 ho h) h fun x=>ho.mem_iff]
theorem a03 {A:List UseT}{i:Nat} (h:i<A.length):(A.map aax).getD i .bad=aax A[i]:=by rw [aaf (by simpa using h)];simp
theorem as2 (u:UseT):∀ l:List UseT,(addU l u).length<=l.length+1
 | []=>by simp [addU]
 | x::r=>by
  unfold addU
  have:=as2 u r
  cases eqK x u<;>simp<;>omega
theorem anu {f:List UseT->UseT->List UseT} (h:∀ u l,(f l u).length<=l.length+1):∀ (L l:List UseT),(L.foldl f l).length<=l.length+L.length
 | [],l=>by simp
 | u::L,l=>by
  have h1:=anu h L (f l u)
  have h2:=h u l
  simp only [List.foldl_cons,List.length_cons];omega
theorem arl (a b:Bool) (h:a=true->b=true):imp a b=true:=by
 unfold imp
 cases a with
 | true=>rw [h rfl];cases h rfl;rfl
 | false=>cases b<;>rfl
theorem aqr (u:UseT):∀ l:List UseT,(ahw l u).length<=l.length+1
 | []=>by simp [ahw]
 | x::r=>by
  unfold ahw
  have:=aqr u r
  cases ltU x u
  ·cases eqK x u<;>simp
  ·simp;omega
end Go.Ab
