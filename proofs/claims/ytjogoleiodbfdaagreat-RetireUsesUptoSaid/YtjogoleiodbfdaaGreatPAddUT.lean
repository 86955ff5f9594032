/- Lists of uses: counts in a map, and counts in a sorted list. -/
import Derived.Test.YtjogoleiodbfdaaGreatAbSrt1Z
import Derived.Test.YtjogoleiodbfdaaGreatGenZ
import Derived.Test.YtjogoleiodbfdaaGreatAbPlain
set_option linter.unusedVariables false
set_option linter.unusedSimpArgs false
set_option linter.unnecessarySimpa false
namespace Go.Ab
open Go
set_option maxRecDepth 100000
def eqK (x y:UseT):Bool:=x.1==y.1&&x.2.1==y.2.1
theorem eqK_iff {x y:UseT}:eqK x y=true ↔ x.1=y.1/\x.2.1=y.2.1:=by simp [eqK]
theorem am5 (x:UseT):eqK x x=true:=by simp [eqK]
theorem ajv {x y:UseT} (h:eqK x y=true):eqK y x=true:=by rw [eqK_iff] at *;exact ⟨h.1.symm,h.2.symm⟩
theorem aki {x y z:UseT} (h:eqK x y=true) (k:eqK y z=true):eqK x z=true:=by rw [eqK_iff] at *;exact ⟨h.1.trans k.1,h.2.trans k.2⟩
theorem am4 (x y:UseT):eqK x y=eqK y x:=by
 cases h:eqK y x with
 | true=>exact ajv h
 | false=>cases k:eqK x y with
  | true=>rw [ajv k] at h;cases h
  | false=>rfl
theorem aj0 {x x' y y':UseT} (h:eqK x x'=true) (k:eqK y y'=true):ltU x y=ltU x' y':=by
 rw [eqK_iff] at h k
 unfold ltU
 rw [h.1,h.2,k.1,k.2]
theorem a0v {x y:UseT} (h:ltU x y=true):eqK x y=false:=by
 cases e:eqK x y with
 | false=>rfl
 | true=>rw [aj0 e (am5 y),swo_ltU.irrefl] at h;cases h
theorem apa {x y:UseT} (h:ltU x y=true):ltU y x=false:=by
 cases e:ltU y x with
 | false=>rfl
 | true=>have:=swo_ltU.trans _ _ _ h e;rw [swo_ltU.irrefl] at this;cases this
theorem triU (x y:UseT):ltU x y=true∨eqK x y=true∨ltU y x=true:=by
 rcases Classical.em (x.1=y.1) with h | h
 ·rcases Int.lt_trichotomy x.2.1 y.2.1 with q | q | q
  ·exact .inl ((ai2 _ _).2 (.inr ⟨h,q⟩))
  ·exact .inr (.inl (eqK_iff.2 ⟨h,q⟩))
  ·exact .inr (.inr ((ai2 _ _).2 (.inr ⟨h.symm,q⟩)))
 ·by_cases q:x.1<y.1
  ·exact .inl ((ai2 _ _).2 (.inl q))
  ·refine .inr (.inr ((ai2 _ _).2 (.inl ?_)))
   rcases List.not_lt.1 q |> List.le_iff_lt_or_eq.1 with q | q
   ·exact q
   ·exact absurd q.symm h
def w64 (n:Int):Int:=IntKind.wrap .i64 n
def acz:List UseT->UseT->List UseT
 | [],u=>[u]
 | x::r,u=>bif ltU x u then x::acz r u else bif eqK x u then (u.1,u.2.1,w64 (u.2.2+x.2.2))::r else u::x::r
def addU:List UseT->UseT->List UseT
 | [],u=>[(u.1,u.2.1,w64 (0+u.2.2))]
 | x::r,u=>bif eqK x u then (x.1,x.2.1,w64 (x.2.2+u.2.2))::r else x::addU r u
def insU (x:UseT):List UseT->List UseT
 | []=>[x]
 | y::r=>bif ltU x y then x::y::r else y::insU x r
def srtU:List UseT->List UseT
 | []=>[]
 | x::r=>insU x (srtU r)
def okU:List UseT->Bool
 | []=>true
 | x::r=>r.all (fun y=>!eqK x y)&&okU r
theorem okU_cons {x:UseT}{r:List UseT}:okU (x::r)=true ↔ (∀ y,y∈r->eqK x y=false)/\okU r=true:=by
 simp [okU]
theorem asq (x:UseT):∀ l:List UseT,insP (aar x) (l.map aar)=(insU x l).map aar
 | []=>rfl
 | y::r=>by
  simp only [List.map_cons,insP,insU,asq x r]
  show (bif ltU x y then _ else _)=_
  cases ltU x y<;>rfl
theorem apu:∀ l:List UseT,alc (l.map aar)=(srtU l).map aar
 | []=>rfl
 | x::r=>by simp only [List.map_cons,alc,srtU,apu r,asq]
theorem amf:∀ l:List UseT,okU l=true->agz (l.map aar)=true
 | [],_=>rfl
 | x::r,h=>by
  rw [okU_cons] at h
  simp only [List.map_cons,agz,amf r h.2,Bool.and_true,List.all_map,List.all_eq_true]
  intro y hy
  show (ltU x y||ltU y x)=true
  have:=h.1 y hy
  rcases triU x y with q | q | q
  ·rw [q];rfl
  ·rw [q] at this;cases this
  ·rw [q,Bool.or_true]
theorem insU_mem {x:UseT}:∀ {l:List UseT}{y:UseT},y∈insU x l ↔ y=x∨y∈l
 | [],y=>by simp [insU]
 | z::r,y=>by
  unfold insU
  cases ltU x z with
  | true=>simp
  | false=>simp only [cond_false,List.mem_cons,insU_mem];constructor<;>(rintro (h | h | h)<;>simp [h])
theorem srtU_mem:∀ {l:List UseT}{y:UseT},y∈srtU l ↔ y∈l
 | [],y=>by simp [srtU]
 | x::r,y=>by simp [srtU,insU_mem,srtU_mem]
theorem aqu {x:UseT}:∀ {l:List UseT},l.Pairwise (fun a b=>ltU a b=true)->(∀ y,y∈l->eqK x y=false)->(insU x l).Pairwise (fun a b=>ltU a b=true)
 | [],_,_=>by simp [insU]
 | y::r,h,hx=>by
  rw [List.pairwise_cons] at h
  unfold insU
  cases hxy:ltU x y with
  | true=>
   refine List.pairwise_cons.2 ⟨fun z hz=>?_,List.pairwise_cons.2 h⟩
   rcases List.mem_cons.1 hz with rfl | hz
   ·exact hxy
   ·exact swo_ltU.trans _ _ _ hxy (h.1 z hz)
  | false=>
   refine List.pairwise_cons.2 ⟨fun z hz=>?_,aqu h.2 fun z hz=>hx z (List.mem_cons_of_mem _ hz)⟩
   rcases insU_mem.1 hz with rfl | hz
   ·have:=hx y (by simp)
    rcases triU z y with q | q | q
    ·rw [hxy] at q;cases q
    ·rw [q] at this;cases this
    ·exact q
   ·exact h.1 z hz
theorem ai8:∀ {l:List UseT},okU l=true->(srtU l).Pairwise (fun a b=>ltU a b=true)
 | [],_=>.nil
 | x::r,h=>by
  rw [okU_cons] at h
  exact aqu (ai8 h.2) fun y hy=>h.1 y (srtU_mem.1 hy)
theorem awv:∀ {l l':List UseT},l.Pairwise (fun a b=>ltU a b=true)->l'.Pairwise (fun a b=>ltU a b=true)->(∀ x,x∈l ↔ x∈l')->l=l'
 | [],[],_,_,_=>rfl
 | [],y::q,_,_,hm=>by have:=(hm y).2 (by simp);cases this
 | x::r,[],_,_,hm=>by have:=(hm x).1 (by simp);cases this
 | x::r,y::q,h,k,hm=>by
  rw [List.pairwise_cons] at h k
  have ir:∀ {z:UseT},ltU z z≠true:=fun {z} h=>by rw [swo_ltU.irrefl] at h;cases h
  have e:x=y:=by
   rcases List.mem_cons.1 ((hm x).1 (by simp)) with e | h1
   ·exact e
   ·rcases List.mem_cons.1 ((hm y).2 (by simp)) with e | h2
    ·exact e.symm
    ·exact absurd (swo_ltU.trans _ _ _ (h.1 y h2) (k.1 x h1)) ir
  subst e
  rw [awv h.2 k.2 fun z=>⟨fun hz=>?_,fun hz=>?_⟩]
  ·rcases List.mem_cons.1 ((hm z).1 (List.mem_cons_of_mem _ hz)) with rfl | q
   ·exact absurd (h.1 _ hz) ir
   ·exact q
  ·rcases List.mem_cons.1 ((hm z).2 (List.mem_cons_of_mem _ hz)) with rfl | q
   ·exact absurd (k.1 _ hz) ir
   ·exact q
theorem aw9 {l l':List UseT} (h:okU l=true) (h':okU l'=true) (hm:∀ x,x∈l ↔ x∈l'):srtU l=srtU l':=
 awv (ai8 h) (ai8 h') fun x=>by rw [srtU_mem,srtU_mem];exact hm x
theorem ar9 {u x:UseT}:∀ {l:List UseT},x∈addU l u->eqK x u=true∨x∈l
 | [],h=>by simp [addU] at h;subst h;exact .inl (by simp [eqK])
 | y::r,h=>by
  unfold addU at h
  cases e:eqK y u with
  | true=>
   rw [e] at h
   rcases List.mem_cons.1 h with rfl | h
   ·exact .inl e
   ·exact .inr (List.mem_cons_of_mem _ h)
  | false=>
   rw [e] at h
   rcases List.mem_cons.1 h with rfl | h
   ·exact .inr (by simp)
   ·rcases ar9 h with h | h
    ·exact .inl h
    ·exact .inr (List.mem_cons_of_mem _ h)
theorem ap8 {u:UseT}:∀ {l:List UseT},okU l=true->okU (addU l u)=true
 | [],_=>rfl
 | y::r,h=>by
  rw [okU_cons] at h
  unfold addU
  cases e:eqK y u with
  | true=>exact okU_cons.2 ⟨fun z hz=>h.1 z hz,h.2⟩
  | false=>
   refine okU_cons.2 ⟨fun z hz=>?_,ap8 h.2⟩
   rcases ar9 hz with q | q
   ·cases w:eqK y z with
    | false=>rfl
    | true=>rw [aki w q] at e;cases e
   ·exact h.1 z q
theorem amx {u:UseT}:∀ {l:List UseT},(∀ x,x∈l->eqK x u=false)->addU l u=l++[(u.1,u.2.1,w64 (0+u.2.2))]
 | [],_=>rfl
 | y::r,h=>by
  unfold addU
  rw [h y (by simp),cond_false,amx fun x hx=>h x (List.mem_cons_of_mem _ hx)]
  rfl
def bump (u x:UseT):UseT:=bif eqK x u then (x.1,x.2.1,w64 (x.2.2+u.2.2)) else x
theorem ase (u x:UseT):eqK (bump u x) x=true:=by
 unfold bump
 cases eqK x u<;>simp [eqK]
theorem as2 {u:UseT}{l:List UseT} (h:∀ x,x∈l->eqK x u=false):l.map (bump u)=l:=by
 rw [List.map_congr_left (g:=id) fun x hx=>by simp [bump,h x hx]]
 simp
theorem asa {u:UseT}:∀ {l:List UseT},okU l=true->(∃ x,x∈l/\eqK x u=true)->addU l u=l.map (bump u)
 | [],_,h=>by obtain ⟨x,hx,_⟩:=h;cases hx
 | y::r,h,k=>by
  rw [okU_cons] at h
  unfold addU
  cases e:eqK y u with
  | true=>
   have:r.map (bump u)=r:=as2 fun x hx=>by
    cases q:eqK x u with
    | false=>rfl
    | true=>have:=h.1 x hx;rw [aki e (ajv q)] at this;cases this
   rw [List.map_cons,this]
   simp [bump,e]
  | false=>
   obtain ⟨x,hx,q⟩:=k
   rcases List.mem_cons.1 hx with rfl | hx
   ·rw [e] at q;cases q
   ·rw [List.map_cons,cond_false,asa h.2 ⟨x,hx,q⟩]
    simp [bump,e]
theorem ao1 (u x:UseT):∀ l:List UseT,insU (bump u x) (l.map (bump u))=(insU x l).map (bump u)
 | []=>rfl
 | y::r=>by
  simp only [List.map_cons,insU,ao1 u x r,aj0 (ase u x) (ase u y)]
  cases ltU x y<;>rfl
theorem apy (u:UseT):∀ l:List UseT,srtU (l.map (bump u))=(srtU l).map (bump u)
 | []=>rfl
 | x::r=>by simp only [List.map_cons,srtU,apy u r,ao1]
theorem ap6 {u:UseT}:∀ {l:List UseT},(∀ x,x∈l->eqK x u=false)->acz l u=insU u l
 | [],_=>rfl
 | y::r,h=>by
  unfold acz insU
  have hy:=h y (by simp)
  rw [ap6 fun x hx=>h x (List.mem_cons_of_mem _ hx),hy,cond_false]
  rcases triU y u with q | q | q
  ·rw [q,apa q];rfl
  ·rw [q] at hy;cases hy
  ·rw [q,apa q];rfl
theorem ap7 {u:UseT}:∀ {l:List UseT},l.Pairwise (fun a b=>ltU a b=true)->(∃ x,x∈l/\eqK x u=true)->acz l u=l.map (bump u)
 | [],_,h=>by obtain ⟨x,hx,_⟩:=h;cases hx
 | y::r,h,k=>by
  rw [List.pairwise_cons] at h
  obtain ⟨x,hx,q⟩:=k
  unfold acz
  cases e:eqK y u with
  | true=>
   have lt:ltU y u=false:=by rw [aj0 e (am5 u)];exact swo_ltU.irrefl _
   have:r.map (bump u)=r:=as2 fun x hx=>by
    have:=a0v (h.1 x hx)
    cases q:eqK x u with
    | false=>rfl
    | true=>rw [aki e (ajv q)] at this;cases this
   rw [lt,List.map_cons,this]
   have he:=eqK_iff.1 e
   simp only [bump,e,cond_true,cond_false,he.1,he.2,Int.add_comm]
  | false=>
   rcases List.mem_cons.1 hx with rfl | hx
   ·rw [e] at q;cases q
   ·have lt:ltU y u=true:=by rw [<-aj0 (am5 y) q];exact h.1 x hx
    rw [lt,List.map_cons,cond_true,ap7 h.2 ⟨x,hx,q⟩]
    simp [bump,e]
theorem ays {l:List UseT}{u:UseT} (h:okU l=true) (hu:w64 u.2.2=u.2.2):srtU (addU l u)=acz (srtU l) u:=by
 by_cases k:∃ x,x∈l/\eqK x u=true
 ·rw [asa h k,apy,ap7 (ai8 h)]
  obtain ⟨x,hx,q⟩:=k
  exact ⟨x,srtU_mem.2 hx,q⟩
 ·have k':∀ x,x∈l->eqK x u=false:=fun x hx=>by
   cases q:eqK x u with
   | false=>rfl
   | true=>exact absurd ⟨x,hx,q⟩ k
  have e:(u.1,u.2.1,w64 (0+u.2.2))=u:=by rw [Int.zero_add,hu]
  rw [amx k',e,ap6 fun x hx=>k' x (srtU_mem.1 hx)]
  have hok:okU (l++[u])=true:=by have:=ap8 (u:=u) h;rw [amx k',e] at this;exact this
  refine awv (ai8 hok) (aqu (ai8 h) fun y hy=>by rw [am4];exact k' y (srtU_mem.1 hy)) fun x=>?_
  rw [srtU_mem,insU_mem,srtU_mem]
  simp [or_comm]
theorem apz:∀ {L l:List UseT},okU l=true->(∀ u,u∈L->w64 u.2.2=u.2.2)->okU (L.foldl addU l)=true/\srtU (L.foldl addU l)=L.foldl acz (srtU l)
 | [],l,h,_=>⟨h,rfl⟩
 | u::L,l,h,k=>by
  have:=apz (L:=L) (ap8 (u:=u) h) fun v hv=>k v (List.mem_cons_of_mem _ hv)
  rw [ays h (k u (by simp))] at this
  exact this
end Go.Ab
namespace Go.Ab
open Go
set_option maxRecDepth 100000
theorem ajd (i n:Nat):decide ((i:Int)<(n:Int))=decide (i<n):=awm i n
theorem az8 {i:Nat} (h:i<=4000000000):IntKind.wrap .i64 ((i:Int)+1)=((i+1:Nat):Int):=by
 rw [axo (by omega) (by omega)];rfl
def ac3 (u:UseT):PV:=.agg [.str u.1,.int u.2.1]
def aav (l:List UseT):List (PV×PV):=l.map fun x=>(ac3 x,.int x.2.2)
theorem ast (u x:UseT):aft (ac3 u) (ac3 x)=eqK x u:=by
 show (bif u.1==x.1 then (bif u.2.1==x.2.1 then true else false) else false)=_
 rw [am4]
 unfold eqK
 cases u.1==x.1<;>cases u.2.1==x.2.1<;>rfl
theorem awr (e:PV×PV) (l:List (PV×PV)) (n:Nat) (v:PV):PV.mset (e::l) (n+1) v=e::PV.mset l n v:=by
 unfold PV.mset
 rw [List.getElem?_cons_succ]
 cases l[n]?<;>rfl
theorem awn (u:UseT):∀ l:List UseT,
 PV.midx (aav l) (ac3 u)<(PV.mput (aav l) (ac3 u) ((PV.mget (aav l) (ac3 u)).getD (.int 0))).length/\
 PV.mset (PV.mput (aav l) (ac3 u) ((PV.mget (aav l) (ac3 u)).getD (.int 0))) (PV.midx (aav l) (ac3 u)) (.int (IntKind.wrap .i64 (((PV.mget (aav l) (ac3 u)).getD (.int 0)).asInt+u.2.2)))=aav (addU l u)
 | []=>⟨by simp [aav,PV.midx,PV.mput],rfl⟩
 | x::r=>by
  obtain ⟨h1,h2⟩:=awn u r
  show PV.midx ((ac3 x,.int x.2.2)::aav r) _<(PV.mput ((ac3 x,.int x.2.2)::aav r) _ ((PV.mget ((ac3 x,.int x.2.2)::aav r) _).getD _)).length/\PV.mset (PV.mput ((ac3 x,.int x.2.2)::aav r) _ ((PV.mget ((ac3 x,.int x.2.2)::aav r) _).getD _)) (PV.midx ((ac3 x,.int x.2.2)::aav r) _) (.int (IntKind.wrap .i64 (((PV.mget ((ac3 x,.int x.2.2)::aav r) _).getD _).asInt+u.2.2)))=_
  unfold addU
  cases e:eqK x u with
  | true=>
   have e':aft (ac3 u) (ac3 x)=true:=(ast u x).trans e
   simp only [PV.midx,PV.mput,PV.mget,List.find?_cons,e',cond_true]
   exact ⟨by simp,rfl⟩
  | false=>
   have e':aft (ac3 u) (ac3 x)=false:=(ast u x).trans e
   have hg:PV.mget ((ac3 x,.int x.2.2)::aav r) (ac3 u)=PV.mget (aav r) (ac3 u):=by simp only [PV.mget,List.find?_cons,e']
   rw [hg]
   simp only [PV.midx,PV.mput,e',cond_false,awr,List.length_cons]
   exact ⟨by omega,by rw [h2];rfl⟩
theorem aou {α β:Type} (f:α->β):∀ (l:List α) (i:Nat),(l.map f).eraseIdx i=(l.eraseIdx i).map f
 | [],_=>rfl
 | _::_,0=>rfl
 | x::r,i+1=>by simp only [List.map_cons,List.eraseIdx_cons_succ,aou f r i]
theorem amc {α:Type}:∀ (l:List α) (i:Nat) (h:i<l.length),(l[i]::l.eraseIdx i).Perm l
 | [],_,h=>by simp at h
 | x::r,0,_=>.refl _
 | x::r,i+1,h=>by
  simp only [List.getElem_cons_succ,List.eraseIdx_cons_succ]
  exact (List.Perm.swap _ _ _).trans ((amc r i (by simpa using h)).cons x)
theorem ay5:∀ {l:List UseT},okU l=true ↔ l.Pairwise (fun a b=>eqK a b=false)
 | []=>by simp [okU]
 | x::r=>by rw [okU_cons,List.pairwise_cons,ay5]
theorem as7 {l l':List UseT} (h:l.Perm l') (k:okU l'=true):okU l=true:=by
 rw [ay5] at*
 exact (h.pairwise_iff (fun {a b} e=>by rw [am4];exact e)).2 k
theorem art {K:Unit×Unit×List (PV×PV)×List PV->Option (List PV)}{l:List UseT} (hl:l.length<=4000000000) (hK:∀ o:List UseT,o.Perm l->K ((),(),[],o.map aar)=some ((srtU l).map aar)):
 ∀ (n:Nat) (m o:List UseT),m.length=n->(o++m).Perm l->mend S18_4rem (S18_4go 0) (S18_4fin 0) n ((),(),(),aav m,o.map aar) (fun y=>K y=some ((srtU l).map aar)):=by
 intro n
 induction n with
 | zero=>
  intro m o hm hp
  obtain rfl:m=[]:=List.length_eq_zero_iff.1 hm
  exact ⟨rfl,_,rfl,hK o (by simpa using hp)⟩
 | succ n ih=>
  intro m o hm hp
  refine ⟨by show (aav m).length=_;simp [aav,hm],fun i e hi=>.inl ?_⟩
  have hi:(aav m)[i]?=some e:=hi
  obtain ⟨x,hx,rfl⟩:∃ x,m[i]?=some x/\e=(ac3 x,.int x.2.2):=by
   unfold aav at hi
   rw [List.getElem?_map] at hi
   cases hx:m[i]? with
   | none=>rw [hx] at hi;cases hi
   | some x=>rw [hx] at hi;cases hi;exact ⟨x,rfl,rfl⟩
  obtain ⟨hlt,rfl⟩:=List.getElem?_eq_some_iff.1 hx
  have hlen:o.length+m.length=l.length:=by rw [<-List.length_append];exact hp.length_eq
  have er:(aav m).eraseIdx i=aav (m.eraseIdx i):=aou _ _ _
  have hp2:((o++[m[i]])++m.eraseIdx i).Perm l:=by
   refine List.Perm.trans ?_ hp
   rw [List.append_assoc]
   exact (List.perm_append_left_iff o).2 (amc m i hlt)
  refine ⟨((),(),(),aav (m.eraseIdx i),(o++[m[i]]).map aar),?_,ih _ _ (by rw [List.length_eraseIdx_of_lt hlt];omega) hp2⟩
  show S18_4go 0 _ ((aav m).eraseIdx i) _=_
  rw [er]
  have hb:decide ((o.map aar).length+[aar m[i]].length<=aal)=true:=decide_eq_true (by simp only [List.length_map,List.length_cons,List.length_nil,aal];omega)
  show (bif decide ((o.map aar).length+[aar m[i]].length<=aal) then _ else none)=_
  rw [hb,cond_true,List.map_append]
  rfl
theorem auq {l:List UseT} (h:okU l=true) (hl:l.length<=4000000000):F18 0 (aav l)=some ((srtU l).map aar):=by
 unfold F18
 refine ayf _ ?_
 show mend _ _ _ (aav l).length _ _
 rw [show (aav l).length=l.length by simp [aav]]
 refine art hl (fun o ho=>?_) _ l [] rfl (by simp)
 show (al3 0 (o.map aar) ()).bind _=_
 have hk:=amf o (as7 ho h)
 have hb:decide ((o.map aar).length<=aal)=true:=decide_eq_true (by rw [List.length_map,ho.length_eq];simp only [aal];omega)
 unfold al3
 rw [hk,hb,Bool.and_true,cond_true,Option.bind_some,apu,aw9 (as7 ho h) h fun x=>ho.mem_iff]
theorem a08 {A:List UseT}{i:Nat} (h:i<A.length):(A.map aar).getD i .bad=aar A[i]:=by rw [aag (by simpa using h)];simp
theorem ar8 (u:UseT):∀ l:List UseT,(addU l u).length<=l.length+1
 | []=>by simp [addU]
 | x::r=>by
  unfold addU
  have:=ar8 u r
  cases eqK x u<;>simp<;>omega
theorem ae2 {f:List UseT->UseT->List UseT} (h:∀ u l,(f l u).length<=l.length+1):∀ (L l:List UseT),(L.foldl f l).length<=l.length+L.length
 | [],l=>by simp
 | u::L,l=>by
  have h1:=ae2 h L (f l u)
  have h2:=h u l
  simp only [List.foldl_cons,List.length_cons];omega
def afe (u:UseT):List UseT->List UseT
 | []=>[]
 | x::r=>bif ltU x u then x::afe u r else []
def azc (u:UseT):List UseT->List UseT
 | []=>[u]
 | x::r=>bif eqK x u then (u.1,u.2.1,w64 (u.2.2+x.2.2))::r else u::x::r
theorem alj (u:UseT):∀ l:List UseT,acz l u=afe u l++azc u (l.drop (afe u l).length)
 | []=>rfl
 | x::r=>by
  unfold acz afe
  cases h:ltU x u with
  | true=>simp only [cond_true,List.cons_append,List.length_cons,List.drop_succ_cons];rw [<-alj u r]
  | false=>rfl
theorem amd (u:UseT):∀ l:List UseT,(afe u l).length<=l.length
 | []=>Nat.le_refl _
 | x::r=>by
  unfold afe
  have:=amd u r
  cases ltU x u<;>simp;omega
theorem aye (x u:UseT):(bif Op.bytesLess x.1 u.1 then true else bif x.1==u.1 then decide (x.2.1<u.2.1) else false)=ltU x u:=by
 unfold ltU
 cases e:x.1==u.1 with
 | true=>
  have:Op.bytesLess x.1 u.1=false:=by rw [eq_of_beq e];simp [Go.Proofs.bytesLess_eq,List.lt_irrefl]
  rw [this];rfl
 | false=>cases Op.bytesLess x.1 u.1<;>rfl
theorem akn (a b:Bool) (h:a=true->b=true):imp a b=true:=by
 unfold imp
 cases a with
 | true=>rw [h rfl];cases h rfl;rfl
 | false=>cases b<;>rfl
theorem axn (l:List UseT) (u:UseT) (hl:l.length<=4000000000):∀ (m i:Nat) (o:List UseT),l.length-i<=m->i<=l.length->o.length=i->
 abo (S34_4step 0) (l.map aar,u.1,u.2.1,u.2.2,o.map aar,(i:Int))=some (l.map aar,u.1,u.2.1,u.2.2,(o++afe u (l.drop i)).map aar,((i+(afe u (l.drop i)).length:Nat):Int)):=by
 intro m
 induction m with
 | zero=>
  intro i o hm hi ho
  have hlt:¬i<l.length:=by omega
  rw [List.drop_eq_nil_of_le (by omega)]
  refine aaf ?_
  simp only [S34_4step,S34_4,ajd,aaa,List.length_map,hlt,decide_false,afe,List.append_nil,List.length_nil,Nat.add_zero]
  simp [imp]
 | succ m ih=>
  intro i o hm hi ho
  by_cases hlt:i<l.length
  ·have hi1:∀ b,imp b true=true:=fun b=>akn _ _ fun _=>rfl
   rw [List.drop_eq_getElem_cons hlt]
   have hc:(bif Op.bytesLess (l[i]).1 u.1 then true else bif (l[i]).1==u.1 then decide ((l[i]).2.1<u.2.1) else false)=ltU l[i] u:=aye _ _
   have hs:S34_4step 0 (l.map aar,u.1,u.2.1,u.2.2,o.map aar,(i:Int))=bif ltU l[i] u then (bif decide ((o.map aar).length+[aar l[i]].length<=aal) then some (.inl (l.map aar,u.1,u.2.1,u.2.2,o.map aar++[aar l[i]],IntKind.wrap .i64 ((i:Int)+1))) else none) else some (.inr (l.map aar,u.1,u.2.1,u.2.2,o.map aar,(i:Int))):=by
    rw [<-hc]
    simp only [S34_4step,S34_4,ajd,aaa,List.length_map,hlt,decide_true,hi1,cond_true,Int.toNat_natCast,a08 hlt]
    rfl
   unfold afe
   cases hq:ltU l[i] u with
   | true=>
    rw [hq,cond_true,decide_eq_true (by simp only [List.length_map,List.length_cons,List.length_nil,aal];omega),cond_true,az8 (i:=i) (by omega)] at hs
    rw [aaz hs]
    have:=ih (i+1) (o++[l[i]]) (by omega) (by omega) (by simp [ho])
    rw [List.map_append] at this
    rw [show [aar l[i]]=[l[i]].map aar from rfl,this,cond_true,List.append_assoc,List.length_cons]
    simp only [List.singleton_append]
    congr 6
    omega
   | false=>
    rw [hq,cond_false] at hs
    rw [aaf hs,cond_false,List.append_nil]
    rfl
  ·rw [List.drop_eq_nil_of_le (by omega)]
   refine aaf ?_
   simp only [S34_4step,S34_4,ajd,aaa,List.length_map,hlt,decide_false,afe,List.append_nil,List.length_nil,Nat.add_zero]
   simp [imp]
theorem az7 (l:List UseT) (u:UseT) (hl:l.length<=4000000000):F34 0 (l.map aar) u.1 u.2.1 u.2.2=some ((acz l u).map aar):=by
 have h:=axn l u hl l.length 0 [] (by omega) (by omega) rfl
 rw [List.drop_zero,List.nil_append,Nat.zero_add] at h
 have hf:=amd u l
 rw [alj]
 generalize afe u l=fr at*
 unfold F34
 have h:abo (S34_4step 0) (l.map aar,u.1,u.2.1,u.2.2,[],(0:Int))=some (l.map aar,u.1,u.2.1,u.2.2,fr.map aar,(fr.length:Int)):=h
 rw [afv,h,Option.bind_some]
 have hi1:∀ b,imp b true=true:=fun b=>akn _ _ fun _=>rfl
 have hi2:∀ b,imp false b=true:=fun b=>akn _ _ fun h=>by cases h
 have b1:∀ u:UseT,decide ((fr.map aar).length+[aar u].length<=aal)=true:=fun u=>decide_eq_true (by simp only [List.length_map,List.length_cons,List.length_nil,aal];omega)
 by_cases hlt:fr.length<l.length
 ·rw [List.drop_eq_getElem_cons hlt]
  unfold azc
  have e1:((aar l[fr.length]).fld 0).asStr=l[fr.length].1:=rfl
  have e2:((aar l[fr.length]).fld 1).asInt=l[fr.length].2.1:=rfl
  have e3:((aar l[fr.length]).fld 2).asInt=l[fr.length].2.2:=rfl
  simp only [ajd,aaa,List.length_map,hlt,decide_true,hi1,cond_true,Int.toNat_natCast,a08 hlt,e1,e2,e3]
  have hk:eqK l[fr.length] u=(bif l[fr.length].1==u.1 then l[fr.length].2.1==u.2.1 else false):=by
   unfold eqK
   cases l[fr.length].1==u.1<;>rfl
  rw [<-hk]
  cases hq:eqK l[fr.length] u with
  | true=>
   have hw:=az8 (i:=fr.length) (by omega)
   rw [hw]
   have b2:decide ((0:Int)<=((fr.length+1:Nat):Int)/\((fr.length+1:Nat):Int)<=(l.length:Int)/\(l.length:Int)<=(l.length:Int))=true:=decide_eq_true (by omega)
   have b3:=b1 (u.1,u.2.1,w64 (u.2.2+l[fr.length].2.2))
   simp only [List.length_map] at b3
   show (bif decide (fr.length+_<=aal) then _ else none)=_
   rw [show [PV.agg [PV.str u.1,PV.int u.2.1,PV.int (IntKind.wrap .i64 (u.2.2+l[fr.length].2.2))]]=[aar (u.1,u.2.1,w64 (u.2.2+l[fr.length].2.2))] from rfl,b3,cond_true,b2,cond_true]
   rw [Int.toNat_natCast,List.take_of_length_le (by simp),<-List.map_drop]
   have b4:decide ((fr.map aar++[aar (u.1,u.2.1,w64 (u.2.2+l[fr.length].2.2))]).length+((l.drop (fr.length+1)).map aar).length<=aal)=true:=decide_eq_true (by simp only [List.length_append,List.length_map,List.length_cons,List.length_nil,List.length_drop,aal];omega)
   rw [b4,cond_true,cond_true,List.map_append,List.append_assoc]
   rfl
  | false=>
   have b2:decide ((0:Int)<=(fr.length:Int)/\(fr.length:Int)<=(l.length:Int)/\(l.length:Int)<=(l.length:Int))=true:=decide_eq_true (by omega)
   have b3:=b1 u
   simp only [List.length_map] at b3
   show (bif decide (fr.length+_<=aal) then _ else none)=_
   rw [show [PV.agg [PV.str u.1,PV.int u.2.1,PV.int u.2.2]]=[aar u] from rfl,b3,cond_true,b2,cond_true]
   rw [List.take_of_length_le (by simp),<-List.map_drop]
   have b4:decide ((fr.map aar++[aar u]).length+((l.drop fr.length).map aar).length<=aal)=true:=decide_eq_true (by simp only [List.length_append,List.length_map,List.length_cons,List.length_nil,List.length_drop,aal];omega)
   rw [b4,cond_true,cond_false,List.map_append,List.append_assoc,List.drop_eq_getElem_cons hlt]
   rfl
 ·have hd:l.drop fr.length=[]:=List.drop_eq_nil_of_le (by omega)
  rw [hd]
  simp only [ajd,List.length_map,hlt,decide_false,hi2,cond_true,cond_false]
  have b2:decide ((0:Int)<=(fr.length:Int)/\(fr.length:Int)<=(l.length:Int)/\(l.length:Int)<=(l.length:Int))=true:=decide_eq_true (by omega)
  have b3:=b1 u
  simp only [List.length_map] at b3
  show (bif decide (fr.length+_<=aal) then _ else none)=_
  rw [show [PV.agg [PV.str u.1,PV.int u.2.1,PV.int u.2.2]]=[aar u] from rfl,b3,cond_true,b2,cond_true]
  rw [List.take_of_length_le (by simp),<-List.map_drop,Int.toNat_natCast,hd]
  have b4:decide ((fr.map aar++[aar u]).length+(([]:List UseT).map aar).length<=aal)=true:=decide_eq_true (by simp only [List.length_append,List.length_map,List.length_cons,List.length_nil,aal];omega)
  rw [b4,cond_true,List.map_append]
  simp [azc]
theorem aey (u:UseT):∀ l:List UseT,(acz l u).length<=l.length+1
 | []=>by simp [acz]
 | x::r=>by
  unfold acz
  have:=aey u r
  cases ltU x u
  ·cases eqK x u<;>simp
  ·simp;omega
theorem az6 (x:PV):(bif ((x.fld 0).asStr)==((x.fld 0).asStr) then (bif ((x.fld 1).asInt)==((x.fld 1).asInt) then (bif ((x.fld 2).asInt)==((x.fld 2).asInt) then true else false) else false) else false)=true:=by simp
theorem arn (l:List PV) (hl:l.length<=4000000000):∀ (m i:Nat),l.length-i<=m->i<=l.length->abo (S8_5step 0) (l,l,(i:Int))=some (.inr ()):=by
 intro m
 induction m with
 | zero=>
  intro i hm hi
  have hlt:¬i<l.length:=by omega
  exact aaf (by simp only [S8_5step,S8_5,ajd,hlt,decide_false,cond_false])
 | succ m ih=>
  intro i hm hi
  by_cases hlt:i<l.length
  ·rw [<-ih (i+1) (by omega) (by omega)]
   refine aaz ?_
   simp only [S8_5step,S8_5,ajd,aaa,hlt,decide_true,cond_true,Int.toNat_natCast,az6,Bool.not_true,cond_false,az8 (i:=i) (by omega)]
  ·exact aaf (by simp only [S8_5step,S8_5,ajd,hlt,decide_false,cond_false])
theorem a04 (l:List PV) (hl:l.length<=4000000000):F8 0 l l=some true:=by
 have h:=arn l hl l.length 0 (by omega) (by omega)
 unfold F8
 rw [afv,show (0:Int)=((0:Nat):Int) from rfl,h]
 have e:((l.length:Int) != (l.length:Int))=false:=by simp
 rw [e]
 rfl
end Go.Ab
