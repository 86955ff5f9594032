/- The program's parser and its specification: names, unions, reserved numbers and names, rpcs. -/
import Derived.Test.YtcpkdafleaddlaaGreatDoorPScan3Ln
import Derived.Test.YtcpkdafleaddlaaGreatDoorPUnqLn
set_option linter.unusedVariables false
set_option linter.unusedSimpArgs false
set_option linter.unnecessarySimpa false
namespace Go.Ab
open Go
set_option maxRecDepth 100000
inductive PG {α R S Z:Type} (t:List PV) (ok:R→S) (er:PV×Z→S) (I:α→Nat→Prop) (mk:α→Int→R) (x:Rs α) (y:Option S):Prop
 | ok (v:α) (j:Nat):j≤t.length→I v j→x=.ok v (ts t j)→y=some (ok (mk v ((j:Nat):Int)))→PG t ok er I mk x y
 | er (j:Nat) (e:Int) (z:Z):j≤t.length→e≠0→x=.er (ts t j) e→y=some (er (PV.agg [PV.int ((j:Nat):Int),PV.int e],z))→PG t ok er I mk x y
theorem Par.pg {α R:Type} {t:List PV} {q:QF} {mk:α→Q0→R} {x:Rs α} {y:Option (R⊕(PV×Q0))} (h:Par t q mk x y):PG t Sum.inl Sum.inr (fun _ _=>True) (fun v j=>mk v (t,j,q)) x y:=by
 rcases h with ⟨v,j,hj,hx,hy⟩ | ⟨j,e,hj,he,hx,hy⟩
 ·exact .ok v j hj trivial hx hy
 ·exact .er j e _ hj he hx hy
theorem PG.seq {α β R R' S' Z Z':Type} {t:List PV} {I:α→Nat→Prop} {I':β→Nat→Prop} {mk:α→Int→R} {ok':R'→S'} {er':PV×Z'→S'} {mk':β→Int→R'} {x:Rs α} {y:Option (R⊕(PV×Z))} {f:α→List Tk→Rs β} {g:R→Option S'} {E:PV×Z→Option S'}
 (h:PG t Sum.inl Sum.inr I mk x y) (hc:∀ v j,j≤t.length→I v j→x=.ok v (ts t j)→PG t ok' er' I' mk' (f v (ts t j)) (g (mk v ((j:Nat):Int)))) (hE:∀ p z,∃ z',E (p,z)=some (er' (p,z'))):
 PG t ok' er' I' mk' (x.bind f) (y.bind fun z=>sumE g E z):=by
 rcases h with ⟨v,j,hj,hi,hx,hy⟩ | ⟨j,e,z,hj,he,hx,hy⟩
 ·have:=hc v j hj hi hx
  rw [hx,hy];exact this
 ·obtain ⟨z',hz⟩:=hE (PV.agg [PV.int ((j:Nat):Int),PV.int e]) z
  rw [hx,hy];exact .er j e z' hj he rfl hz
theorem PG.swap {α β R R' S' Z Z':Type} {t:List PV} {I:α→Nat→Prop} {I':β→Nat→Prop} {mk:α→Int→R} {ok':R'→S'} {er':PV×Z'→S'} {mk':β→Int→R'} {x:Rs α} {y:Option ((PV×Z)⊕R)} {f:α→List Tk→Rs β} {g:R→Option S'} {E:PV×Z→Option S'}
 (h:PG t Sum.inr Sum.inl I mk x y) (hc:∀ v j,j≤t.length→I v j→x=.ok v (ts t j)→PG t ok' er' I' mk' (f v (ts t j)) (g (mk v ((j:Nat):Int)))) (hE:∀ p z,∃ z',E (p,z)=some (er' (p,z'))):
 PG t ok' er' I' mk' (x.bind f) (y.bind fun z=>sumE E g z):=by
 rcases h with ⟨v,j,hj,hi,hx,hy⟩ | ⟨j,e,z,hj,he,hx,hy⟩
 ·have:=hc v j hj hi hx
  rw [hx,hy];exact this
 ·obtain ⟨z',hz⟩:=hE (PV.agg [PV.int ((j:Nat):Int),PV.int e]) z
  rw [hx,hy];exact .er j e z' hj he rfl hz
section
variable {α R S Z:Type} {t:List PV} {ok:R→S} {er:PV×Z→S} {I:α→Nat→Prop} {mk:α→Int→R}
theorem PG.may (ht:TOk t) (s:List UInt8) (k:Int) (hk:kOf s=k) (i:Nat) (hi:i≤t.length) (q:QF) {K:Bool×Q0→Option S} {x1 x2:Rs α}
 (h1:isS k s (ts t i)=true→i+1≤t.length→PG t ok er I mk x1 (K (true,(t,((i+1:Nat):Int),q)))) (h2:isS k s (ts t i)=false→PG t ok er I mk x2 (K (false,(t,(i:Int),q)))):
 PG t ok er I mk (bif isS k s (ts t i) then x1 else x2) ((F91 0 () s (t,(i:Int),q)).bind K):=by
 rw [may_k s k hk t ht i hi q,Option.bind_some]
 cases h:isS k s (ts t i) with
 | true=>exact h1 h (isS_lt h)
 | false=>exact h2 h
theorem PG.sign (ht:TOk t) (s:List UInt8) (k:Int) (hk:kOf s=k) (i:Nat) (hi:i≤t.length) (q:QF) {K:Bool×Q0→Option S} {x1 x2:Rs α}
 (h1:isS k s (ts t i)=true→PG t ok er I mk x1 (K (true,(t,(i:Int),q)))) (h2:isS k s (ts t i)=false→PG t ok er I mk x2 (K (false,(t,(i:Int),q)))):
 PG t ok er I mk (bif isS k s (ts t i) then x1 else x2) ((F96 0 () s (t,(i:Int),q)).bind K):=by
 rw [sign_k s k hk t ht i hi q,Option.bind_some]
 cases h:isS k s (ts t i) with
 | true=>exact h1 h
 | false=>exact h2 h
end
theorem sh_lt {α:Type} {x:Rs α} {t:List PV} {i j:Nat} {v:α} (hi:i≤t.length) (hj:j≤t.length) (hs:Sh x (ts t i)) (hx:x=.ok v (ts t j)):i<j:=by
 have:=hs v _ hx
 rw [ts_length,ts_length] at this
 omega
theorem sh_le' {α:Type} {x:Rs α} {t:List PV} {i j:Nat} {v:α} (hi:i≤t.length) (hj:j≤t.length) (hs:Sh0 x (ts t i)) (hx:x=.ok v (ts t j)):i≤j:=by
 have:=hs v _ hx
 rw [ts_length,ts_length] at this
 omega
theorem accL {n:Nat} (h:n≤68719476736):decide (n≤accMax)=true:=decide_eq_true h
theorem full_len {s:List UInt8} (h:fullP s=true):s.length≤120:=by
 unfold fullP at h
 simp only [Bool.and_eq_true,decide_eq_true_eq] at h
 omega
theorem nameOk_len {o s:List UInt8} (h:nameOk o s=true):(joinP o s).length≤120:=by
 unfold nameOk at h
 simp only [Bool.and_eq_true,Bool.or_eq_true] at h
 rcases h.2 with h2 | h2
 ·have e:o=[]:=by simpa using h2
  subst e
  have:=h.1
  unfold defP at this
  simp only [Bool.and_eq_true] at this
  exact full_len this.1
 ·exact full_len h2.2
theorem join_eq (o s:List UInt8) (ho:o.length≤1048576) (hs:s.length≤1048576):F288 0 o s=some (joinP o s):=by
 unfold F288 joinP
 cases h:(o==[]) with
 | true=>rfl
 | false=>
  have l1:decide (o.length+([46]:List UInt8).length≤strMax)=true:=leStr (by simp;omega)
  have l2:decide ((o++([46]:List UInt8)).length+s.length≤strMax)=true:=leStr (by simp;omega)
  simp only [cond_false,l1,l2,cond_true]
theorem named1_eq (o s:List UInt8) (ho:o.length≤120) (hs:s.length≤1048576):F287 0 s () o=some (nameOk o s,o):=by
 have hj:(joinP o s).length≤1048820:=by unfold joinP;cases (o==[])<;>simp<;>omega
 unfold F287 nameOk
 rw [isName_eq s hs,Option.bind_some,isPart_eq,join_eq o s (by omega) hs]
 cases defP s with
 | false=>cases (o==[])<;>rfl
 | true=>
  cases h0:(o==[]) with
  | true=>rfl
  | false=>
   cases hp:partP s with
   | false=>rfl
   | true=>
    have hsl:s.length≤120:=by
     unfold partP at hp
     cases s with
     | nil=>simp
     | cons c r=>
      simp only [Bool.and_eq_true,decide_eq_true_eq] at hp
      simp only [List.length_cons]
      have:=hp.1.1
      omega
    have:=isFull_eq (joinP o s) (by unfold joinP;rw [h0];simp;omega)
    simp only [Bool.not_false,cond_true,Option.bind_some,this,Bool.true_and,Bool.false_or,cond_false]
theorem named_par (o:List UInt8) (ho:o.length≤120) (t:List PV) (ht:TOk t) (i:Nat) (hi:i≤t.length) (nm sp:List UInt8) (sv im ms es:List PV):
 PG t Sum.inl Sum.inr (fun v _=>v.length≤120) (fun v j=>(v,(t,j,nm,sp,(),(),(),sv,im,ms,es))) (namedS o (ts t i)) (F204 0 () o (t,(i:Int),nm,sp,(),(),(),sv,im,ms,es)):=by
 have hl:=ht.len
 unfold F204 namedS takeS F92_v2
 simp only [kindP_eq t i (nm,sp,(),(),(),sv,im,ms,es),Option.bind_some]
 by_cases hb:kindS (ts t i)=1
 ·have e1:(kindS (ts t i) != 1)=false:=by rw [hb];rfl
  have e2:(kindS (ts t i)==1)=true:=by rw [hb];rfl
  have h:i<t.length:=kindS_lt rfl e2
  have hx:textS (ts t i)=((t.getD i .bad).fld 1).asStr:=by rw [ts_cons h];rfl
  simp only [e1,e2,cond_false,cond_true,inRange_nat,h,decide_true,Int.toNat_natCast,named1_eq o _ ho (txt_at ht h),Option.bind_some,hx,wadd' (show i≤9223372036854775000 by omega)]
  cases hp:nameOk o ((t.getD i .bad).fld 1).asStr with
  | true=>
   simp only [Bool.not_true,cond_false,cond_true,sumE_inl,join_eq o _ (by omega) (txt_at ht h),Option.bind_some,Rs.bind_ok]
   exact .ok _ (i+1) h (nameOk_len hp) (by rw [ts_tail]) rfl
  | false=>exact .er i 8 _ hi (by decide) rfl rfl
 ·have e1:(kindS (ts t i) != 1)=true:=bneI hb
  have e2:(kindS (ts t i)==1)=false:=beqI hb
  simp only [e1,e2,cond_true,cond_false]
  exact .er i 2 _ hi (by decide) rfl rfl
theorem gone_loopP (t:List PV) (ht:TOk t) (h5:t.length≤100000) (i0:Nat) (q:QF):∀ (m i:Nat) (acc:List PV),t.length-i≤m→i≤t.length→acc.length+i0≤i→
 PG t Sum.inl Sum.inr (fun v j=>v.length+i0≤j) (fun v j=>(v,(t,j,q))) (goneS (ts t i) acc) (loopW (S207_3step 0) ((),acc,(t,(i:Int),q))):=by
 intro m
 induction m with
 | zero=>
  intro i acc hm hi ha
  rw [goneS_eq,show anyTextS (ts t i)=.er (ts t i) 2 by rw [ts_end (by omega)];rfl]
  have hy:S207_3step 0 ((),acc,(t,(i:Int),q))=some (.inr (.inr (PV.agg [PV.int (i:Int),PV.int 2],(t,(i:Int),q)))):=by
   unfold S207_3step S207_3
   rcases anyText_par t ht i hi q with ⟨v,j,hj,hx,hy⟩ | ⟨j,e,hj,he,hx,hy⟩
   ·have:=sh_lt hi hj (anyText_sh _) hx
    omega
   ·rw [show anyTextS (ts t i)=.er (ts t i) 2 by rw [ts_end (by omega)];rfl] at hx
    simp only [Rs.er.injEq] at hx
    have:=ts_inj hi hj hx.1
    subst this
    rw [←hx.2] at hy
    simp only [hy,Option.bind_some,sumE_inr]
  exact .er i 2 (t,(i:Int),q) hi (by decide) rfl (loopW_end hy)
 | succ m ih=>
  intro i acc hm hi ha
  rw [goneS_eq]
  have ea:∀ x:PV,decide (acc.length+[x].length≤accMax)=true:=fun x=>accL (by simp;omega)
  rcases anyText_par t ht i hi q with ⟨v,j,hj,hx,hy⟩ | ⟨j,e,hj,he,hx,hy⟩
  ·have hlt:=sh_lt hi hj (anyText_sh _) hx
   rw [hx,Rs.bind_ok]
   cases h1:isS 4 [59] (ts t j) with
   | true=>
    refine .ok (acc++[PV.str v]) (j+1) (isS_lt h1) (by simp;omega) (by rw [cond_true,ts_tail]) (loopW_end ?_)
    simp only [S207_3step,S207_3,hy,Option.bind_some,sumE_inl,ea,cond_true,may_k [59] 4 (by decide) t ht j hj,h1]
   | false=>
    rw [cond_false]
    rcases eat_k [44] 4 (by decide) t ht j hj q with ⟨_,k,hk,hx2,hy2⟩ | ⟨k,e,hk,he,hx2,hy2⟩
    ·have hlt2:=sh_lt hj hk (eat_sh _ _ _) hx2
     rw [hx2,Rs.bind_ok]
     have st:S207_3step 0 ((),acc,(t,(i:Int),q))=some (.inl ((),acc++[PV.str v],(t,(k:Int),q))):=by
      simp only [S207_3step,S207_3,hy,Option.bind_some,sumE_inl,ea,cond_true,cond_false,may_k [59] 4 (by decide) t ht j hj,h1,hy2]
     rw [loopW_go st]
     exact ih k _ (by omega) hk (by simp;omega)
    ·rw [hx2,Rs.bind_er]
     refine .er k e (t,(k:Int),q) hk he rfl (loopW_end ?_)
     simp only [S207_3step,S207_3,hy,Option.bind_some,sumE_inl,sumE_inr,ea,cond_true,cond_false,may_k [59] 4 (by decide) t ht j hj,h1,hy2]
  ·rw [hx,Rs.bind_er]
   refine .er j e (t,(j:Int),q) hj he rfl (loopW_end ?_)
   simp only [S207_3step,S207_3,hy,Option.bind_some,sumE_inr]
theorem gone_par (t:List PV) (ht:TOk t) (h5:t.length≤100000) (i:Nat) (hi:i≤t.length) (q:QF):
 PG t Sum.inl Sum.inr (fun v j=>v.length+i≤j) (fun v j=>(v,(t,j,q))) (goneS (ts t i) []) (F207 0 () (t,(i:Int),q)):=by
 unfold F207
 rw [loopQ0]
 rcases gone_loopP t ht h5 i q t.length i [] (by omega) hi (by simp) with ⟨v,j,hj,hv,hx,hy⟩ | ⟨j,e,z,hj,he,hx,hy⟩
 ·exact .ok v j hj hv hx (by simp only [hy,Option.bind_some,sumE_inl])
 ·exact .er j e z hj he hx (by simp only [hy,Option.bind_some,sumE_inr])
end Go.Ab
namespace Go.Ab
open Go
set_option maxRecDepth 100000
def NotesOk (l:List PV):Prop:=l.length≤100000∧∀ x,x∈l→NFlat x
def FieldOk (v:PV):Prop:=FldOk v∧(v.fld 8).asList.length≤100000
def MethodOk (v:PV):Prop:=NotesOk (v.fld 4).asList
def ItemsOk (v:PV):Prop:=NotesOk (v.fld 2).asList
def EnumsOk (v:PV):Prop:=(v.fld 2).asList.length≤100000∧(∀ x,x∈(v.fld 2).asList→ItemsOk x)∧(v.fld 3).asList.length≤100000∧NotesOk (v.fld 4).asList
def ServOk (v:PV):Prop:=(v.fld 1).asList.length≤100000∧(∀ x,x∈(v.fld 1).asList→MethodOk x)∧NotesOk (v.fld 2).asList
def MessOk (v:PV):Prop:=(v.fld 1).asList.length≤100000∧(∀ x,x∈(v.fld 1).asList→FieldOk x)∧(v.fld 2).asList.length≤100000∧(v.fld 3).asList.length≤100000∧NotesOk (v.fld 4).asList
theorem notes_sound {t:List PV} {i j:Nat} {v:List PV} (h5:t.length≤100000) (h:notesS parV kindOf (ts t i)=.ok v (ts t j)):NotesOk v:=by
 have:=notesS_len h
 rw [ts_length] at this
 exact ⟨by omega,notes_flat h⟩
theorem all_app {P:PV→Prop} {l:List PV} {x:PV} (h:∀ y,y∈l→P y) (hx:P x):∀ y,y∈l++[x]→P y:=fun y hy=>by
 rcases List.mem_append.1 hy with hy | hy
 ·exact h y hy
 ·rw [List.mem_singleton.1 hy];exact hx
theorem all_app2 {P:PV→Prop} {l m:List PV} (h:∀ y,y∈l→P y) (hm:∀ y,y∈m→P y):∀ y,y∈l++m→P y:=fun y hy=>by
 rcases List.mem_append.1 hy with hy | hy
 ·exact h y hy
 ·exact hm y hy
theorem all_nil {P:PV→Prop}:∀ y,y∈([]:List PV)→P y:=fun y hy=>by cases hy
theorem Rs.bind_assoc {α β γ:Type} (x:Rs α) (f:α→List Tk→Rs β) (g:β→List Tk→Rs γ):(x.bind f).bind g=x.bind fun v r=>(f v r).bind g:=by
 cases x<;>rfl
inductive PL {α β R S Z σ:Type} (t:List PV) (st:β→Int→σ) (spec:List Tk→β→Rs α) (J:β→Nat→Prop) (ok:R→S) (er:PV×Z→S) (I:α→Nat→Prop) (mk:α→Int→R) (i:Nat) (x:Rs α) (y:Option (σ⊕S)):Prop
 | go (b:β) (j:Nat):i<j→j≤t.length→J b j→x=spec (ts t j) b→y=some (.inl (st b ((j:Nat):Int)))→PL t st spec J ok er I mk i x y
 | done (v:α) (j:Nat):j≤t.length→I v j→x=.ok v (ts t j)→y=some (.inr (ok (mk v ((j:Nat):Int))))→PL t st spec J ok er I mk i x y
 | er (j:Nat) (e:Int) (z:Z):j≤t.length→e≠0→x=.er (ts t j) e→y=some (.inr (er (PV.agg [PV.int ((j:Nat):Int),PV.int e],z)))→PL t st spec J ok er I mk i x y
section
variable {α β R S Z σ:Type} {t:List PV} {st:β→Int→σ} {spec:List Tk→β→Rs α} {J:β→Nat→Prop} {ok:R→S} {er:PV×Z→S} {I:α→Nat→Prop} {mk:α→Int→R} {i:Nat}
theorem PL.loop {step:σ→Option (σ⊕S)} (h:∀ i b,i≤t.length→J b i→PL t st spec J ok er I mk i (spec (ts t i) b) (step (st b (i:Int)))):∀ (m i:Nat) (b:β),t.length-i≤m→i≤t.length→J b i→PG t ok er I mk (spec (ts t i) b) (loopW step (st b (i:Int))):=by
 intro m
 induction m with
 | zero=>
  intro i b hm hi hj
  rcases h i b hi hj with ⟨b',j,h1,h2,_⟩ | ⟨v,j,h1,h2,h3,h4⟩ | ⟨j,e,z,h1,h2,h3,h4⟩
  ·omega
  ·exact .ok v j h1 h2 h3 (loopW_end h4)
  ·exact .er j e z h1 h2 h3 (loopW_end h4)
 | succ m ih=>
  intro i b hm hi hj
  rcases h i b hi hj with ⟨b',j,h1,h2,h3,h4,h5⟩ | ⟨v,j,h1,h2,h3,h4⟩ | ⟨j,e,z,h1,h2,h3,h4⟩
  ·rw [h4,loopW_go h5];exact ih j b' (by omega) h2 h3
  ·exact .ok v j h1 h2 h3 (loopW_end h4)
  ·exact .er j e z h1 h2 h3 (loopW_end h4)
theorem PL.seq {α0 R0 Z0:Type} {I0:α0→Nat→Prop} {mk0:α0→Int→R0} {x0:Rs α0} {y0:Option (R0⊕(PV×Z0))} {f:α0→List Tk→Rs α} {g:R0→Option (σ⊕S)} {E:PV×Z0→Option (σ⊕S)}
 (h:PG t Sum.inl Sum.inr I0 mk0 x0 y0) (hc:∀ v j,j≤t.length→I0 v j→x0=.ok v (ts t j)→PL t st spec J ok er I mk i (f v (ts t j)) (g (mk0 v ((j:Nat):Int)))) (hE:∀ p z,∃ z',E (p,z)=some (.inr (er (p,z')))):
 PL t st spec J ok er I mk i (x0.bind f) (y0.bind fun z=>sumE g E z):=by
 rcases h with ⟨v,j,hj,hi,hx,hy⟩ | ⟨j,e,z,hj,he,hx,hy⟩
 ·have:=hc v j hj hi hx
  rw [hx,hy];exact this
 ·obtain ⟨z',hz⟩:=hE (PV.agg [PV.int ((j:Nat):Int),PV.int e]) z
  rw [hx,hy];exact .er j e z' hj he rfl hz
theorem PL.may (ht:TOk t) (s:List UInt8) (k:Int) (hk:kOf s=k) (j:Nat) (hj:j≤t.length) (q:QF) {K:Bool×Q0→Option (σ⊕S)} {x1 x2:Rs α}
 (h1:isS k s (ts t j)=true→j+1≤t.length→PL t st spec J ok er I mk i x1 (K (true,(t,((j+1:Nat):Int),q)))) (h2:isS k s (ts t j)=false→PL t st spec J ok er I mk i x2 (K (false,(t,(j:Int),q)))):
 PL t st spec J ok er I mk i (bif isS k s (ts t j) then x1 else x2) ((F91 0 () s (t,(j:Int),q)).bind K):=by
 rw [may_k s k hk t ht j hj q,Option.bind_some]
 cases h:isS k s (ts t j) with
 | true=>exact h1 h (isS_lt h)
 | false=>exact h2 h
theorem PL.sign (ht:TOk t) (s:List UInt8) (k:Int) (hk:kOf s=k) (j:Nat) (hj:j≤t.length) (q:QF) {K:Bool×Q0→Option (σ⊕S)} {x1 x2:Rs α}
 (h1:isS k s (ts t j)=true→PL t st spec J ok er I mk i x1 (K (true,(t,(j:Int),q)))) (h2:isS k s (ts t j)=false→PL t st spec J ok er I mk i x2 (K (false,(t,(j:Int),q)))):
 PL t st spec J ok er I mk i (bif isS k s (ts t j) then x1 else x2) ((F96 0 () s (t,(j:Int),q)).bind K):=by
 rw [sign_k s k hk t ht j hj q,Option.bind_some]
 cases h:isS k s (ts t j) with
 | true=>exact h1 h
 | false=>exact h2 h
end
section
variable {t:List PV}
theorem spans_eq2 (most:Int) (l:List Tk) (acc:List PV):spansS most l acc=(numS most l).bind fun a r=>bif isS 4 [45] r then ((numS most r.tail).bind fun b r2=>bif isS 4 [59] r2 then .ok (acc++[PV.agg [PV.int a,PV.int b]]) r2.tail else (eatS 4 [44] r2).bind fun _ r3=>spansS most r3 (acc++[PV.agg [PV.int a,PV.int b]]))
 else (bif isS 4 [59] r then .ok (acc++[PV.agg [PV.int a,PV.int a]]) r.tail else (eatS 4 [44] r).bind fun _ r3=>spansS most r3 (acc++[PV.agg [PV.int a,PV.int a]])):=by
 rw [spans_eq]
 unfold spanS
 simp only [Rs.bind_assoc,Rs.bind_ok]
 congr 1
 funext a r
 cases isS 4 [45] r<;>rfl
theorem spans_par (ht:TOk t) (hn:∀ x,x∈t→-9223372036854775808≤(x.fld 2).asInt∧(x.fld 2).asInt≤9223372036854775807) (h5:t.length≤100000) (most:Int) (hm:0≤most∧most≤2147483647) (i0:Nat) (hi0:i0≤t.length) (q:QF):
 PG t Sum.inl Sum.inr (fun v j=>v.length+i0≤j) (fun v j=>(v,(t,j,q))) (spansS most (ts t i0) []) (F208 0 () most (t,(i0:Int),q)):=by
 have lp:=PL.loop (t:=t) (st:=fun (b:List PV) j=>((),most,b,((t,j,q):Q0))) (spec:=fun l b=>spansS most l b) (J:=fun b j=>b.length+i0≤j) (ok:=Sum.inl) (er:=Sum.inr) (I:=fun v j=>v.length+i0≤j) (mk:=fun v j=>(v,((t,j,q):Q0))) (step:=S208_3step 0) (fun i b hi hj=>by
  have ea:∀ x:PV,decide (b.length+[x].length≤accMax)=true:=fun x=>accL (by simp;omega)
  show PL t _ _ _ _ _ _ _ i (spansS most (ts t i) b) _
  rw [spans_eq2]
  simp only [S208_3step,S208_3,ea,cond_true]
  refine PL.seq (num_par t ht i hi most hm hn q).pg (fun a j hj2 _ hx=>?_) (fun p z=>⟨_,rfl⟩)
  have h1:=sh_lt hi hj2 (num_sh most _) hx
  refine PL.may ht [45] 4 (by decide) j hj2 q (fun _ hj3=>?_) (fun _=>?_)
  ·simp only [cond_true,ts_tail]
   refine PL.seq (num_par t ht (j+1) hj3 most hm hn q).pg (fun c k hk _ hx2=>?_) (fun p z=>⟨_,rfl⟩)
   have h2:=sh_lt hj3 hk (num_sh most _) hx2
   refine PL.may ht [59] 4 (by decide) k hk q (fun _ hk3=>?_) (fun _=>?_)
   ·simp only [cond_true,ts_tail]
    exact .done _ (k+1) hk3 (by simp;omega) rfl rfl
   ·simp only [cond_false]
    refine PL.seq (eat_k [44] 4 (by decide) t ht k hk q).pg (fun _ l hl _ hx3=>?_) (fun p z=>⟨_,rfl⟩)
    have h3:=sh_lt hk hl (eat_sh _ _ _) hx3
    exact .go (b++[PV.agg [PV.int a,PV.int c]]) l (by omega) hl (by simp;omega) rfl rfl
  ·simp only [cond_false]
   refine PL.may ht [59] 4 (by decide) j hj2 q (fun _ hk3=>?_) (fun _=>?_)
   ·simp only [cond_true,ts_tail]
    exact .done _ (j+1) hk3 (by simp;omega) rfl rfl
   ·simp only [cond_false]
    refine PL.seq (eat_k [44] 4 (by decide) t ht j hj2 q).pg (fun _ l hl _ hx3=>?_) (fun p z=>⟨_,rfl⟩)
    have h3:=sh_lt hj2 hl (eat_sh _ _ _) hx3
    exact .go (b++[PV.agg [PV.int a,PV.int a]]) l (by omega) hl (by simp;omega) rfl rfl) t.length i0 [] (by omega) hi0 (by simp)
 unfold F208
 rw [loopQ0]
 rcases lp with ⟨v,j,hj,hv,hx,hy⟩ | ⟨j,e,z,hj,he,hx,hy⟩
 ·exact .ok v j hj hv hx (by rw [hy];rfl)
 ·exact .er j e z hj he hx (by rw [hy];rfl)
theorem union_par (po:ParOk) (ht:TNum t) (h5:t.length≤100000) (i0:Nat) (hi0:i0≤t.length) (q:QF):
 PG t Sum.inl Sum.inr (fun v j=>v.length+i0≤j∧∀ x,x∈v→FieldOk x) (fun v j=>(v,(t,j,q))) (unionS parV kindOf (ts t i0)) (F206 0 () (t,(i0:Int),q)):=by
 have h0:=ht.toTOk
 have lp:=fun (un:List UInt8)=>PL.loop (t:=t) (st:=fun (b:List PV) j=>((),un,b,((t,j,q):Q0))) (spec:=fun l b=>membersS parV kindOf un l b) (J:=fun b j=>b.length+i0≤j∧∀ x,x∈b→FieldOk x) (ok:=Sum.inl) (er:=Sum.inr) (I:=fun v j=>v.length+i0≤j∧∀ x,x∈v→FieldOk x) (mk:=fun v j=>(v,((t,j,q):Q0))) (step:=S206_6step 0) (fun i b hi hJ=>by
  obtain ⟨hj,hok⟩:=hJ
  have ea:∀ x:PV,decide (b.length+[x].length≤accMax)=true:=fun x=>accL (by simp;omega)
  show PL t _ _ _ _ _ _ _ i (membersS parV kindOf un (ts t i) b) _
  rw [members_eq]
  simp only [S206_6step,S206_6,ea,cond_true]
  refine PL.seq (typ_par t h0 i hi q).pg (fun ty j hj2 _ hx=>?_) (fun p z=>⟨_,rfl⟩)
  have h1:=sh_lt hi hj2 (typ_sh _) hx
  refine PL.seq (tail_par po 2 0 ty un false (by
   unfold typS at hx
   cases hq:typeTextS (ts t i)<;>rw [hq] at hx<;>simp only [Rs.bind] at hx<;>cases hx
   exact tyOf_rng _) t ht j hj2 q).pg (fun x k hk _ hx2=>?_) (fun p z=>⟨_,rfl⟩)
  have h2:=sh_lt hj2 hk (tail_sh parV kindOf _ _ _ _ _ _) hx2
  have hfo:FieldOk x:=⟨tailF_ok (smT_ts ht j) (fun h=>by cases h) hx2,by have:=tailF_len hx2;rw [ts_length] at this;omega⟩
  refine PL.may h0 [125] 4 (by decide) k hk q (fun _ hk3=>?_) (fun _=>?_)
  ·simp only [cond_true,ts_tail]
   exact .done (b++[x]) (k+1) hk3 ⟨by simp;omega,all_app hok hfo⟩ rfl rfl
  ·simp only [cond_false]
   exact .go (b++[x]) k (by omega) hk ⟨by simp;omega,all_app hok hfo⟩ rfl rfl)
 unfold F206 unionS
 refine PG.seq (eat_k [117,110,105,111,110] 1 (by decide) t h0 i0 hi0 q).pg (fun _ j hj _ hx=>?_) (fun p z=>⟨_,rfl⟩)
 have h1:=sh_lt hi0 hj (eat_sh _ _ _) hx
 refine PG.seq (part_par t h0 j hj q).pg (fun un k hk _ hx2=>?_) (fun p z=>⟨_,rfl⟩)
 have h2:=sh_lt hj hk (part_sh _) hx2
 refine PG.seq (eat_k [123] 4 (by decide) t h0 k hk q).pg (fun _ l hl _ hx3=>?_) (fun p z=>⟨_,rfl⟩)
 have h3:=sh_lt hk hl (eat_sh _ _ _) hx3
 simp only [loopQ0]
 rcases lp un t.length l [] (by omega) hl ⟨by simp;omega,all_nil⟩ with ⟨v,m,hm,hv,hx4,hy⟩ | ⟨m,e,z,hm,he,hx4,hy⟩
 ·exact .ok v m hm hv hx4 (by rw [hy];rfl)
 ·exact .er m e z hm he hx4 (by rw [hy];rfl)
theorem side_par (ht:TOk t) (i:Nat) (hi:i≤t.length) (q:QF):
 PG t Sum.inl Sum.inr (fun _ _=>True) (fun v j=>(v.1,v.2,(t,j,q))) (sideS (ts t i)) (F289 0 () (t,(i:Int),q)):=by
 unfold F289 sideS
 refine PG.seq (eat_k [40] 4 (by decide) t ht i hi q).pg (fun _ j hj _ hx=>?_) (fun p z=>⟨_,rfl⟩)
 rw [may_k [115,116,114,101,97,109] 1 (by decide) t ht j hj q]
 simp only [Option.bind_some]
 cases h:isS 1 [115,116,114,101,97,109] (ts t j) with
 | true=>
  simp only [cond_true,ts_tail]
  refine PG.seq (typeText_par t ht (j+1) (isS_lt h) q).pg (fun s k hk _ hx2=>?_) (fun p z=>⟨_,rfl⟩)
  refine PG.seq (eat_k [41] 4 (by decide) t ht k hk q).pg (fun _ l hl _ hx3=>?_) (fun p z=>⟨_,rfl⟩)
  exact .ok (true,s) l hl trivial rfl rfl
 | false=>
  simp only [cond_false]
  refine PG.seq (typeText_par t ht j hj q).pg (fun s k hk _ hx2=>?_) (fun p z=>⟨_,rfl⟩)
  refine PG.seq (eat_k [41] 4 (by decide) t ht k hk q).pg (fun _ l hl _ hx3=>?_) (fun p z=>⟨_,rfl⟩)
  exact .ok (false,s) l hl trivial rfl rfl
theorem rpc_par (po:ParOk) (ht:TNm t) (h5:t.length≤100000) (i:Nat) (hi:i≤t.length) (q:QF):
 PG t Sum.inl Sum.inr (fun v _=>MethodOk v) (fun v j=>(v,(t,j,q))) (rpcS parV kindOf (ts t i)) (F210 0 () (t,(i:Int),q)):=by
 have h0:=ht.toTOk
 unfold F210 rpcS
 refine PG.seq (eat_k [114,112,99] 1 (by decide) t h0 i hi q).pg (fun _ j hj _ _=>?_) (fun p z=>⟨_,rfl⟩)
 refine PG.seq (part_par t h0 j hj q).pg (fun nm k hk _ _=>?_) (fun p z=>⟨_,rfl⟩)
 refine PG.seq (side_par h0 k hk q) (fun a l hl _ _=>?_) (fun p z=>⟨_,rfl⟩)
 refine PG.seq (eat_k [114,101,116,117,114,110,115] 1 (by decide) t h0 l hl q).pg (fun _ m hm _ _=>?_) (fun p z=>⟨_,rfl⟩)
 refine PG.seq (side_par h0 m hm q) (fun b n hn _ _=>?_) (fun p z=>⟨_,rfl⟩)
 obtain ⟨a1,a2⟩:=a
 obtain ⟨b1,b2⟩:=b
 simp only
 cases a1<;>cases b1<;>simp only [cond_true,cond_false]<;>refine PG.seq (notes_par po t ht n hn q).pg (fun ls o ho _ hxn=>?_) (fun p z=>⟨_,rfl⟩)<;>refine PG.seq (eat_k [59] 4 (by decide) t h0 o ho q).pg (fun _ u hu _ _=>?_) (fun p z=>⟨_,rfl⟩)<;>exact .ok (PV.agg [PV.str nm,PV.str a2,PV.str b2,PV.int _,PV.slice ls]) u hu (notes_sound h5 hxn) rfl rfl
end
end Go.Ab
namespace Go.Ab
open Go
set_option maxRecDepth 100000
section
variable {t:List PV}
theorem may_form (ht:TOk t) (s:List UInt8) (k:Int) (hk:kOf s=k) (i:Nat) (hi:i≤t.length) (q:QF):
 ∃ (op:Bool) (j:Nat),i≤j∧j≤t.length∧isS k s (ts t i)=op∧(bif op then (ts t i).tail else ts t i)=ts t j∧F91 0 () s (t,(i:Int),q)=some (op,(t,(j:Int),q)):=by
 have h:=may_k s k hk t ht i hi q
 cases hs:isS k s (ts t i) with
 | true=>
  rw [hs] at h
  exact ⟨true,i+1,by omega,isS_lt hs,rfl,by rw [cond_true,ts_tail],h⟩
 | false=>
  rw [hs] at h
  exact ⟨false,i,by omega,hi,rfl,rfl,h⟩
theorem itemsS_eq (l:List Tk) (its rs:List PV):itemsS parV kindOf l its rs=
 bif isS 4 [125] l then .ok (its,rs) l.tail
 else bif isS 1 [114,101,115,101,114,118,101,100] l then (spansS 2147483647 l.tail []).bind fun x r=>itemsS parV kindOf r its (rs++x)
 else (partS l).bind fun nm r1=>(eatS 4 [61] r1).bind fun _ r2=>(numS 2147483647 r2).bind fun n r3=>(notesS parV kindOf r3).bind fun x r4=>(eatS 4 [59] r4).bind fun _ r5=>itemsS parV kindOf r5 (its++[PV.agg [PV.str nm,PV.int n,PV.slice x]]) rs:=by
 rw [items_eq]
 unfold itemS
 simp only [Rs.bind_assoc,Rs.bind_ok]
theorem enum_par (po:ParOk) (ht:TNum t) (h5:t.length≤100000) (outer:List UInt8) (ho:outer.length≤120) (i:Nat) (hi:i≤t.length) (nm sp:List UInt8) (sv im ms es:List PV) (hes:es.length≤1000000):
 PG t Sum.inl Sum.inr (fun v _=>EnumsOk v) (fun v j=>((t,j,nm,sp,(),(),(),sv,im,ms,es++[v]):Q0)) (enumS parV kindOf outer (ts t i)) (F98 0 () outer (t,(i:Int),nm,sp,(),(),(),sv,im,ms,es)):=by
 have h0:=ht.toTOk
 have hl:=ht.len
 obtain ⟨op,j0,hij,hj0,e1,e2,e3⟩:=may_form h0 [111,112,101,110] 1 (by decide) i hi (nm,sp,(),(),(),sv,im,ms,es)
 unfold F98 enumS
 rw [e1,e2,e3,Option.bind_some]
 refine PG.seq (eat_k [101,110,117,109] 1 (by decide) t h0 j0 hj0 (nm,sp,(),(),(),sv,im,ms,es)).pg (fun _ j hj _ _=>?_) (fun p z=>⟨_,rfl⟩)
 have ea:∀ x:PV,decide (es.length+[x].length≤accMax)=true:=fun x=>accL (by simp;omega)
 simp only [ea,cond_true]
 refine PG.seq (named_par outer ho t h0 j hj nm sp sv im ms _) (fun name k hk hname _=>?_) (fun p z=>⟨_,rfl⟩)
 refine PG.seq (notes_par po t ht.toTNm k hk (nm,sp,(),(),(),sv,im,ms,_)).pg (fun nts l hl2 _ hxn=>?_) (fun p z=>⟨_,rfl⟩)
 refine PG.seq (eat_k [123] 4 (by decide) t h0 l hl2 (nm,sp,(),(),(),sv,im,ms,_)).pg (fun _ m hm _ _=>?_) (fun p z=>⟨_,rfl⟩)
 have lp:=PL.loop (t:=t) (st:=fun (b:List PV×List PV) (j:Int)=>((),(),(es.length:Int),t,j,nm,sp,(),(),(),sv,im,ms,es++[PV.agg [PV.str [],PV.bool op,PV.slice [],PV.slice [],PV.slice []]],name,op,b.1,b.2,nts))
  (spec:=fun l b=>itemsS parV kindOf l b.1 b.2) (J:=fun b j=>b.1.length+b.2.length≤j∧∀ x,x∈b.1→ItemsOk x) (ok:=Sum.inr) (er:=Sum.inl) (I:=fun v j=>v.1.length+v.2.length≤j∧∀ x,x∈v.1→ItemsOk x)
  (mk:=fun v (j:Int)=>((),(),(es.length:Int),t,j,nm,sp,(),(),(),sv,im,ms,es++[PV.agg [PV.str [],PV.bool op,PV.slice [],PV.slice [],PV.slice []]],name,op,v.1,v.2,nts)) (step:=S98_8step 0) (fun i b hi hJJ=>by
  obtain ⟨hJ,hok⟩:=hJJ
  have eb:∀ x:PV,decide (b.1.length+[x].length≤accMax)=true:=fun x=>accL (by simp;omega)
  show PL t _ _ _ _ _ _ _ i (itemsS parV kindOf (ts t i) b.1 b.2) _
  rw [itemsS_eq]
  simp only [S98_8step,S98_8]
  refine PL.may h0 [125] 4 (by decide) i hi (nm,sp,(),(),(),sv,im,ms,_) (fun _ hi1=>?_) (fun _=>?_)
  ·simp only [Bool.not_true,cond_false,ts_tail]
   exact .done (b.1,b.2) (i+1) hi1 ⟨by simp;omega,hok⟩ rfl rfl
  ·simp only [Bool.not_false,cond_true]
   refine PL.may h0 [114,101,115,101,114,118,101,100] 1 (by decide) i hi (nm,sp,(),(),(),sv,im,ms,_) (fun _ hi1=>?_) (fun _=>?_)
   ·simp only [cond_true,ts_tail]
    refine PL.seq (spans_par h0 ht.num h5 2147483647 (by decide) (i+1) hi1 (nm,sp,(),(),(),sv,im,ms,_)) (fun v j hj hv _=>?_) (fun p z=>⟨_,rfl⟩)
    have hv2:v.length+(i+1)≤j:=hv
    have ec:decide (b.2.length+v.length≤accMax)=true:=accL (by omega)
    simp only [ec,cond_true]
    exact .go (b.1,b.2++v) j (by omega) hj ⟨by simp;omega,hok⟩ rfl rfl
   ·simp only [cond_false]
    refine PL.seq (part_par t h0 i hi (nm,sp,(),(),(),sv,im,ms,_)).pg (fun pn j hj _ hx=>?_) (fun p z=>⟨_,rfl⟩)
    have q1:=sh_lt hi hj (part_sh _) hx
    refine PL.seq (eat_k [61] 4 (by decide) t h0 j hj (nm,sp,(),(),(),sv,im,ms,_)).pg (fun _ k hk _ hx=>?_) (fun p z=>⟨_,rfl⟩)
    have q2:=sh_lt hj hk (eat_sh _ _ _) hx
    refine PL.seq (num_par t h0 k hk 2147483647 (by decide) ht.num (nm,sp,(),(),(),sv,im,ms,_)).pg (fun n l hl _ hx=>?_) (fun p z=>⟨_,rfl⟩)
    have q3:=sh_lt hk hl (num_sh _ _) hx
    refine PL.seq (notes_par po t ht.toTNm l hl (nm,sp,(),(),(),sv,im,ms,_)).pg (fun ns m hm _ hx=>?_) (fun p z=>⟨_,rfl⟩)
    have q4:=sh_le' hl hm (notes_sh parV kindOf _) hx
    have hns:NotesOk ns:=notes_sound h5 hx
    refine PL.seq (eat_k [59] 4 (by decide) t h0 m hm (nm,sp,(),(),(),sv,im,ms,_)).pg (fun _ o ho _ hx=>?_) (fun p z=>⟨_,rfl⟩)
    have q5:=sh_lt hm ho (eat_sh _ _ _) hx
    simp only [eb,cond_true]
    exact .go (b.1++[PV.agg [PV.str pn,PV.int n,PV.slice ns]],b.2) o (by omega) ho ⟨by simp;omega,all_app hok hns⟩ rfl rfl)
  t.length m ([],[]) (by omega) hm ⟨by simp,all_nil⟩
 simp only [loopQ0]
 refine PG.swap lp (fun v n hn hv _=>?_) (fun p z=>⟨_,rfl⟩)
 have r0:inRange (es.length:Int) (es++[PV.agg [PV.str [],PV.bool op,PV.slice [],PV.slice [],PV.slice []]]).length=true:=by rw [inRange_nat];simp
 simp only [r0,cond_true,Int.toNat_natCast]
 refine .ok (PV.agg [PV.str name,PV.bool op,PV.slice v.1,PV.slice v.2,PV.slice nts]) n hn ⟨show v.1.length≤100000 by omega,hv.2,show v.2.length≤100000 by omega,notes_sound h5 hxn⟩ rfl ?_
 rw [show (es++[PV.agg [PV.str [],PV.bool op,PV.slice [],PV.slice [],PV.slice []]]).set es.length (PV.agg [PV.str name,PV.bool op,PV.slice v.1,PV.slice v.2,PV.slice nts])=es++[PV.agg [PV.str name,PV.bool op,PV.slice v.1,PV.slice v.2,PV.slice nts]] by simp]
theorem svc_par (po:ParOk) (ht:TNum t) (h5:t.length≤100000) (i:Nat) (hi:i≤t.length) (nm sp:List UInt8) (sv im ms es:List PV) (hsv:sv.length≤1000000):
 PG t Sum.inl Sum.inr (fun v _=>ServOk v) (fun v j=>((t,j,nm,sp,(),(),(),sv++[v],im,ms,es):Q0)) (svcS parV kindOf (ts t i)) (F99 0 () (t,(i:Int),nm,sp,(),(),(),sv,im,ms,es)):=by
 have h0:=ht.toTOk
 have hl:=ht.len
 unfold F99 svcS
 refine PG.seq (eat_k [115,101,114,118,105,99,101] 1 (by decide) t h0 i hi (nm,sp,(),(),(),sv,im,ms,es)).pg (fun _ j hj _ _=>?_) (fun p z=>⟨_,rfl⟩)
 refine PG.seq (named_par [] (by simp) t h0 j hj nm sp sv im ms es) (fun name k hk hname _=>?_) (fun p z=>⟨_,rfl⟩)
 refine PG.seq (notes_par po t ht.toTNm k hk (nm,sp,(),(),(),sv,im,ms,es)).pg (fun nts l hl2 _ hxn=>?_) (fun p z=>⟨_,rfl⟩)
 refine PG.seq (eat_k [123] 4 (by decide) t h0 l hl2 (nm,sp,(),(),(),sv,im,ms,es)).pg (fun _ m hm _ _=>?_) (fun p z=>⟨_,rfl⟩)
 have lp:=PL.loop (t:=t) (st:=fun (b:List PV) (j:Int)=>((),(),t,j,nm,sp,(),(),(),sv,im,ms,es,name,b,nts))
  (spec:=fun l b=>rpcsS parV kindOf l b) (J:=fun b j=>b.length≤j∧∀ x,x∈b→MethodOk x) (ok:=Sum.inr) (er:=Sum.inl) (I:=fun v j=>v.length≤j∧∀ x,x∈v→MethodOk x)
  (mk:=fun v (j:Int)=>((),(),t,j,nm,sp,(),(),(),sv,im,ms,es,name,v,nts)) (step:=S99_5step 0) (fun i b hi hJJ=>by
  obtain ⟨hJ,hok⟩:=hJJ
  have eb:∀ x:PV,decide (b.length+[x].length≤accMax)=true:=fun x=>accL (by simp;omega)
  show PL t _ _ _ _ _ _ _ i (rpcsS parV kindOf (ts t i) b) _
  rw [rpcs_eq]
  simp only [S99_5step,S99_5]
  refine PL.may h0 [125] 4 (by decide) i hi (nm,sp,(),(),(),sv,im,ms,es) (fun _ hi1=>?_) (fun _=>?_)
  ·simp only [Bool.not_true,cond_false,ts_tail]
   exact .done b (i+1) hi1 ⟨by omega,hok⟩ rfl rfl
  ·simp only [Bool.not_false,cond_true]
   refine PL.seq (rpc_par po ht.toTNm h5 i hi (nm,sp,(),(),(),sv,im,ms,es)) (fun x j hj hxm hx=>?_) (fun p z=>⟨_,rfl⟩)
   have q1:=sh_lt hi hj (rpc_sh parV kindOf _) hx
   simp only [eb,cond_true]
   exact .go (b++[x]) j (by omega) hj ⟨by simp;omega,all_app hok hxm⟩ rfl rfl)
  t.length m [] (by omega) hm ⟨by simp,all_nil⟩
 simp only [loopQ0]
 refine PG.swap lp (fun v n hn hv _=>?_) (fun p z=>⟨_,rfl⟩)
 have ea:∀ x:PV,decide (sv.length+[x].length≤accMax)=true:=fun x=>accL (by simp;omega)
 simp only [ea,cond_true]
 exact .ok (PV.agg [PV.str name,PV.slice v,PV.slice nts]) n hn ⟨show v.length≤100000 by omega,hv.2,notes_sound h5 hxn⟩ rfl rfl
end
end Go.Ab
namespace Go.Ab
open Go
set_option maxRecDepth 100000
inductive PN {α R S Z:Type} (N:Nat) (t:List PV) (ok:R→S) (er:PV×Z→S) (I:α→Nat→Prop) (mk:α→Int→R) (x:Rs α) (y:Nat→Option S):Prop
 | ok (v:α) (j:Nat):j≤t.length→I v j→x=.ok v (ts t j)→(∀ n,N≤n→y n=some (ok (mk v ((j:Nat):Int))))→PN N t ok er I mk x y
 | er (j:Nat) (e:Int) (z:Z):j≤t.length→e≠0→x=.er (ts t j) e→(∀ n,N≤n→y n=some (er (PV.agg [PV.int ((j:Nat):Int),PV.int e],z)))→PN N t ok er I mk x y
theorem PG.pn {α R S Z:Type} {N:Nat} {t:List PV} {ok:R→S} {er:PV×Z→S} {I:α→Nat→Prop} {mk:α→Int→R} {x:Rs α} {y:Option S} (h:PG t ok er I mk x y):PN N t ok er I mk x (fun _=>y):=by
 rcases h with ⟨v,j,h1,h2,h3,h4⟩ | ⟨j,e,z,h1,h2,h3,h4⟩
 ·exact .ok v j h1 h2 h3 fun _ _=>h4
 ·exact .er j e z h1 h2 h3 fun _ _=>h4
theorem PN.pg {α R S Z:Type} {N:Nat} {t:List PV} {ok:R→S} {er:PV×Z→S} {I:α→Nat→Prop} {mk:α→Int→R} {x:Rs α} {y:Nat→Option S} {Y:Option S} (h:PN N t ok er I mk x y) (hy:∀ z,(∀ n,N≤n→y n=some z)→Y=some z):PG t ok er I mk x Y:=by
 rcases h with ⟨v,j,h1,h2,h3,h4⟩ | ⟨j,e,z,h1,h2,h3,h4⟩
 ·exact .ok v j h1 h2 h3 (hy _ h4)
 ·exact .er j e z h1 h2 h3 (hy _ h4)
theorem PN.shift {α R S Z:Type} {N:Nat} {t:List PV} {ok:R→S} {er:PV×Z→S} {I:α→Nat→Prop} {mk:α→Int→R} {x:Rs α} {y y':Nat→Option S} (h:PN N t ok er I mk x y) (hy:∀ n,y' (n+1)=y n):PN (N+1) t ok er I mk x y':=by
 have hs:∀ n,N+1≤n→y' n=y (n-1):=fun n hn=>by
  obtain ⟨m,rfl⟩:∃ m,n=m+1:=⟨n-1,by omega⟩
  rw [hy];rfl
 rcases h with ⟨v,j,h1,h2,h3,h4⟩ | ⟨j,e,z,h1,h2,h3,h4⟩
 ·exact .ok v j h1 h2 h3 fun n hn=>by rw [hs n hn];exact h4 _ (by omega)
 ·exact .er j e z h1 h2 h3 fun n hn=>by rw [hs n hn];exact h4 _ (by omega)
theorem PN.seq {α β R R' S' Z Z':Type} {N:Nat} {t:List PV} {I:α→Nat→Prop} {I':β→Nat→Prop} {mk:α→Int→R} {ok':R'→S'} {er':PV×Z'→S'} {mk':β→Int→R'} {x:Rs α} {y:Option (R⊕(PV×Z))} {f:α→List Tk→Rs β} {g:Nat→R→Option S'} {E:PV×Z→Option S'}
 (h:PG t Sum.inl Sum.inr I mk x y) (hc:∀ v j,j≤t.length→I v j→x=.ok v (ts t j)→PN N t ok' er' I' mk' (f v (ts t j)) (fun n=>g n (mk v ((j:Nat):Int)))) (hE:∀ p z,∃ z',E (p,z)=some (er' (p,z'))):
 PN N t ok' er' I' mk' (x.bind f) (fun n=>y.bind fun z=>sumE (g n) E z):=by
 rcases h with ⟨v,j,hj,hi,hx,hy⟩ | ⟨j,e,z,hj,he,hx,hy⟩
 ·have:=hc v j hj hi hx
  rw [hx,hy];exact this
 ·obtain ⟨z',hz⟩:=hE (PV.agg [PV.int ((j:Nat):Int),PV.int e]) z
  rw [hx,hy];exact .er j e z' hj he rfl fun _ _=>hz
theorem PN.swap {α β R R' S' Z Z':Type} {N:Nat} {t:List PV} {I:α→Nat→Prop} {I':β→Nat→Prop} {mk:α→Int→R} {ok':R'→S'} {er':PV×Z'→S'} {mk':β→Int→R'} {x:Rs α} {y:Nat→Option ((PV×Z)⊕R)} {f:α→List Tk→Rs β} {g:R→Option S'} {E:PV×Z→Option S'}
 (h:PN N t Sum.inr Sum.inl I mk x y) (hc:∀ v j,j≤t.length→I v j→x=.ok v (ts t j)→PG t ok' er' I' mk' (f v (ts t j)) (g (mk v ((j:Nat):Int)))) (hE:∀ p z,∃ z',E (p,z)=some (er' (p,z'))):
 PN N t ok' er' I' mk' (x.bind f) (fun n=>(y n).bind fun z=>sumE E g z):=by
 rcases h with ⟨v,j,hj,hi,hx,hy⟩ | ⟨j,e,z,hj,he,hx,hy⟩
 ·have:=hc v j hj hi hx
  rw [hx]
  rcases this with ⟨w,k,h1,h2,h3,h4⟩ | ⟨k,e,z,h1,h2,h3,h4⟩
  ·exact .ok w k h1 h2 h3 fun n hn=>by rw [hy n hn];exact h4
  ·exact .er k e z h1 h2 h3 fun n hn=>by rw [hy n hn];exact h4
 ·obtain ⟨z',hz⟩:=hE (PV.agg [PV.int ((j:Nat):Int),PV.int e]) z
  rw [hx];exact .er j e z' hj he rfl fun n hn=>by rw [hy n hn];exact hz
inductive PM {α β R S Z σ:Type} (N:Nat) (t:List PV) (st:β→Int→σ) (spec:List Tk→β→Rs α) (J:β→Nat→Prop) (ok:R→S) (er:PV×Z→S) (I:α→Nat→Prop) (mk:α→Int→R) (i:Nat) (x:Rs α) (y:Nat→Option (σ⊕S)):Prop
 | go (b:β) (j:Nat):i<j→j≤t.length→J b j→x=spec (ts t j) b→(∀ n,N≤n→y n=some (.inl (st b ((j:Nat):Int))))→PM N t st spec J ok er I mk i x y
 | done (v:α) (j:Nat):j≤t.length→I v j→x=.ok v (ts t j)→(∀ n,N≤n→y n=some (.inr (ok (mk v ((j:Nat):Int)))))→PM N t st spec J ok er I mk i x y
 | er (j:Nat) (e:Int) (z:Z):j≤t.length→e≠0→x=.er (ts t j) e→(∀ n,N≤n→y n=some (.inr (er (PV.agg [PV.int ((j:Nat):Int),PV.int e],z))))→PM N t st spec J ok er I mk i x y
section
variable {α β R S Z σ:Type} {N:Nat} {t:List PV} {st:β→Int→σ} {spec:List Tk→β→Rs α} {J:β→Nat→Prop} {ok:R→S} {er:PV×Z→S} {I:α→Nat→Prop} {mk:α→Int→R} {i:Nat}
theorem PM.loop {step:Nat→σ→Option (σ⊕S)} (h:∀ i b,i≤t.length→J b i→PM N t st spec J ok er I mk i (spec (ts t i) b) (fun n=>step n (st b (i:Int)))):∀ (m i:Nat) (b:β),t.length-i≤m→i≤t.length→J b i→PN N t ok er I mk (spec (ts t i) b) (fun n=>loopW (step n) (st b (i:Int))):=by
 intro m
 induction m with
 | zero=>
  intro i b hm hi hj
  rcases h i b hi hj with ⟨b',j,h1,h2,_⟩ | ⟨v,j,h1,h2,h3,h4⟩ | ⟨j,e,z,h1,h2,h3,h4⟩
  ·omega
  ·exact .ok v j h1 h2 h3 fun n hn=>loopW_end (h4 n hn)
  ·exact .er j e z h1 h2 h3 fun n hn=>loopW_end (h4 n hn)
 | succ m ih=>
  intro i b hm hi hj
  rcases h i b hi hj with ⟨b',j,h1,h2,h3,h4,h5⟩ | ⟨v,j,h1,h2,h3,h4⟩ | ⟨j,e,z,h1,h2,h3,h4⟩
  ·rw [h4]
   rcases ih j b' (by omega) h2 h3 with ⟨v,k,g1,g2,g3,g4⟩ | ⟨k,e,z,g1,g2,g3,g4⟩
   ·exact .ok v k g1 g2 g3 fun n hn=>by rw [loopW_go (h5 n hn)];exact g4 n hn
   ·exact .er k e z g1 g2 g3 fun n hn=>by rw [loopW_go (h5 n hn)];exact g4 n hn
  ·exact .ok v j h1 h2 h3 fun n hn=>loopW_end (h4 n hn)
  ·exact .er j e z h1 h2 h3 fun n hn=>loopW_end (h4 n hn)
theorem PM.seq {α0 R0 Z0:Type} {I0:α0→Nat→Prop} {mk0:α0→Int→R0} {x0:Rs α0} {y0:Nat→Option (R0⊕(PV×Z0))} {f:α0→List Tk→Rs α} {g:R0→Option (σ⊕S)} {E:PV×Z0→Option (σ⊕S)}
 (h:PN N t Sum.inl Sum.inr I0 mk0 x0 y0) (hc:∀ v j,j≤t.length→I0 v j→x0=.ok v (ts t j)→PL t st spec J ok er I mk i (f v (ts t j)) (g (mk0 v ((j:Nat):Int)))) (hE:∀ p z,∃ z',E (p,z)=some (.inr (er (p,z')))):
 PM N t st spec J ok er I mk i (x0.bind f) (fun n=>(y0 n).bind fun z=>sumE g E z):=by
 rcases h with ⟨v,j,hj,hi,hx,hy⟩ | ⟨j,e,z,hj,he,hx,hy⟩
 ·have:=hc v j hj hi hx
  rw [hx]
  rcases this with ⟨w,k,h1,h2,h3,h4,h5⟩ | ⟨w,k,h1,h2,h3,h4⟩ | ⟨k,e,z,h1,h2,h3,h4⟩
  ·exact .go w k h1 h2 h3 h4 fun n hn=>by rw [hy n hn];exact h5
  ·exact .done w k h1 h2 h3 fun n hn=>by rw [hy n hn];exact h4
  ·exact .er k e z h1 h2 h3 fun n hn=>by rw [hy n hn];exact h4
 ·obtain ⟨z',hz⟩:=hE (PV.agg [PV.int ((j:Nat):Int),PV.int e]) z
  rw [hx];exact .er j e z' hj he rfl fun n hn=>by rw [hy n hn];exact hz
theorem PM.may (ht:TOk t) (s:List UInt8) (k:Int) (hk:kOf s=k) (j:Nat) (hj:j≤t.length) (q:QF) {K:Nat→Bool×Q0→Option (σ⊕S)} {x1 x2:Rs α}
 (h1:isS k s (ts t j)=true→j+1≤t.length→PM N t st spec J ok er I mk i x1 (fun n=>K n (true,(t,((j+1:Nat):Int),q)))) (h2:isS k s (ts t j)=false→PM N t st spec J ok er I mk i x2 (fun n=>K n (false,(t,(j:Int),q)))):
 PM N t st spec J ok er I mk i (bif isS k s (ts t j) then x1 else x2) (fun n=>(F91 0 () s (t,(j:Int),q)).bind (K n)):=by
 rw [may_k s k hk t ht j hj q]
 simp only [Option.bind_some]
 cases h:isS k s (ts t j) with
 | true=>exact h1 h (isS_lt h)
 | false=>exact h2 h
theorem PM.sign (ht:TOk t) (s:List UInt8) (k:Int) (hk:kOf s=k) (j:Nat) (hj:j≤t.length) (q:QF) {K:Nat→Bool×Q0→Option (σ⊕S)} {x1 x2:Rs α}
 (h1:isS k s (ts t j)=true→PM N t st spec J ok er I mk i x1 (fun n=>K n (true,(t,(j:Int),q)))) (h2:isS k s (ts t j)=false→PM N t st spec J ok er I mk i x2 (fun n=>K n (false,(t,(j:Int),q)))):
 PM N t st spec J ok er I mk i (bif isS k s (ts t j) then x1 else x2) (fun n=>(F96 0 () s (t,(j:Int),q)).bind (K n)):=by
 rw [sign_k s k hk t ht j hj q]
 simp only [Option.bind_some]
 cases h:isS k s (ts t j) with
 | true=>exact h1 h
 | false=>exact h2 h
end
section
variable {t:List PV}
theorem bor_fork {α:Type} (a b:Bool) (x y:Rs α):(bif a||b then x else y)=bif a then x else (bif b then x else y):=by cases a<;>cases b<;>rfl
def MBok (L:Nat) (b:MB) (j:Nat):Prop:=b.fs.length≤j∧b.rs.length≤j∧b.gs.length≤j∧b.ms.length≤j∧b.es.length≤j∧L≤b.ms.length∧(∀ x,x∈b.fs→FieldOk x)∧(∀ x,x∈b.ms→MessOk x)∧(∀ x,x∈b.es→EnumsOk x)
theorem body_round (po:ParOk) (ht:TNum t) (h5:t.length≤100000) (N d:Nat) (a2:Nat) (ha:a2≤15) (k0:Int) (name:List UInt8) (hname:name.length≤120) (nm sp:List UInt8) (sv im:List PV) (nts:List PV)
 (ih:∀ (i:Nat) (ms es:List PV),i≤t.length→ms.length≤i→es.length≤i→(∀ x,x∈ms→MessOk x)→(∀ x,x∈es→EnumsOk x)→PN N t Sum.inl Sum.inr (fun v j=>v.1.length≤j∧v.2.length≤j∧ms.length≤v.1.length∧(∀ x,x∈v.1→MessOk x)∧(∀ x,x∈v.2→EnumsOk x)) (fun v j=>((t,j,nm,sp,(),(),(),sv,im,v.1,v.2):Q0)) (msgS parV kindOf d name ms es (ts t i)) (fun n=>G97 0 n ((),name,(((a2+1:Nat)):Int),(t,(i:Int),nm,sp,(),(),(),sv,im,ms,es))))
 (i:Nat) (b:MB) (hi:i≤t.length) (L:Nat) (hJ:MBok L b i):
 PM N t (fun (b:MB) (j:Int)=>((),(a2:Int),k0,(),t,j,nm,sp,(),(),(),sv,im,b.ms,b.es,name,b.fs,b.rs,b.gs,nts)) (fun l b=>mbodyS parV kindOf (msgS parV kindOf d) name l b) (MBok L) Sum.inr Sum.inl (MBok L)
  (fun (v:MB) (j:Int)=>((),k0,(),t,j,nm,sp,(),(),(),sv,im,v.ms,v.es,name,v.fs,v.rs,v.gs,nts)) i (mbodyS parV kindOf (msgS parV kindOf d) name (ts t i) b) (fun n=>B97_9step 0 (G97 0 n) ((),(a2:Int),k0,(),t,(i:Int),nm,sp,(),(),(),sv,im,b.ms,b.es,name,b.fs,b.rs,b.gs,nts)):=by
 have h0:=ht.toTOk
 obtain ⟨j1,j2,j3,j4,j5,j6,o1,o2,o3⟩:=hJ
 rw [mbody_eq parV kindOf _ (msg_sh parV kindOf d),bor_fork]
 simp only [B97_9step,B97_9]
 refine PM.may h0 [125] 4 (by decide) i hi (nm,sp,(),(),(),sv,im,b.ms,b.es) (fun _ hi1=>?_) (fun _=>?_)
 ·simp only [Bool.not_true,cond_false,ts_tail]
  exact .done b (i+1) hi1 ⟨by omega,by omega,by omega,by omega,by omega,j6,o1,o2,o3⟩ rfl fun _ _=>rfl
 simp only [Bool.not_false,cond_true]
 refine PM.sign h0 [117,110,105,111,110] 1 (by decide) i hi (nm,sp,(),(),(),sv,im,b.ms,b.es) (fun _=>?_) (fun _=>?_)
 ·simp only [cond_true]
  refine PM.seq (union_par po ht h5 i hi (nm,sp,(),(),(),sv,im,b.ms,b.es)).pn (fun v j hj hv hx=>?_) (fun p z=>⟨_,rfl⟩)
  have hv2:v.length+i≤j:=hv.1
  have q1:=sh_lt hi hj (union_sh parV kindOf _) hx
  have ec:decide (b.fs.length+v.length≤accMax)=true:=accL (by omega)
  simp only [ec,cond_true]
  exact .go { b with fs:=b.fs++v } j q1 hj ⟨by simp;omega,by simp;omega,by simp;omega,by simp;omega,by simp;omega,j6,all_app2 o1 hv.2,o2,o3⟩ rfl rfl
 simp only [cond_false]
 refine PM.sign h0 [109,101,115,115,97,103,101] 1 (by decide) i hi (nm,sp,(),(),(),sv,im,b.ms,b.es) (fun _=>?_) (fun _=>?_)
 ·simp only [cond_true]
  have w:IntKind.wrap .i64 ((a2:Int)+1)=((a2+1:Nat):Int):=wadd' (by omega)
  simp only [w]
  refine PM.seq (ih i b.ms b.es hi j4 j5 o2 o3) (fun v j hj hv hx=>?_) (fun p z=>⟨_,rfl⟩)
  have q1:=sh_lt hi hj (msg_sh parV kindOf d _ _ _ _) hx
  exact .go { b with ms:=v.1,es:=v.2 } j q1 hj ⟨by simp;omega,by simp;omega,by simp;omega,hv.1,hv.2.1,Nat.le_trans j6 hv.2.2.1,o1,hv.2.2.2.1,hv.2.2.2.2⟩ rfl rfl
 simp only [cond_false]
 refine PM.sign h0 [101,110,117,109] 1 (by decide) i hi (nm,sp,(),(),(),sv,im,b.ms,b.es) (fun _=>?_) (fun _=>?_)
 ·simp only [Bool.not_true,cond_false,cond_true]
  refine PM.seq (enum_par po ht h5 name hname i hi nm sp sv im b.ms b.es (by omega)).pn (fun v j hj hve hx=>?_) (fun p z=>⟨_,rfl⟩)
  have q1:=sh_lt hi hj (enum_sh parV kindOf _ _) hx
  exact .go { b with es:=b.es++[v] } j q1 hj ⟨by simp;omega,by simp;omega,by simp;omega,by simp;omega,by simp;omega,j6,o1,o2,all_app o3 hve⟩ rfl rfl
 simp only [Bool.not_false,cond_true,cond_false]
 refine PM.sign h0 [111,112,101,110] 1 (by decide) i hi (nm,sp,(),(),(),sv,im,b.ms,b.es) (fun _=>?_) (fun _=>?_)
 ·simp only [cond_true]
  refine PM.seq (enum_par po ht h5 name hname i hi nm sp sv im b.ms b.es (by omega)).pn (fun v j hj hve hx=>?_) (fun p z=>⟨_,rfl⟩)
  have q1:=sh_lt hi hj (enum_sh parV kindOf _ _) hx
  exact .go { b with es:=b.es++[v] } j q1 hj ⟨by simp;omega,by simp;omega,by simp;omega,by simp;omega,by simp;omega,j6,o1,o2,all_app o3 hve⟩ rfl rfl
 simp only [cond_false]
 refine PM.may h0 [114,101,115,101,114,118,101,100] 1 (by decide) i hi (nm,sp,(),(),(),sv,im,b.ms,b.es) (fun _ hi1=>?_) (fun _=>?_)
 ·simp only [cond_true,ts_tail,kindP_eq t (i+1) (nm,sp,(),(),(),sv,im,b.ms,b.es),Option.bind_some]
  cases h3:(kindS (ts t (i+1))==3) with
  | true=>
   simp only [cond_true]
   refine PM.seq (gone_par t h0 h5 (i+1) hi1 (nm,sp,(),(),(),sv,im,b.ms,b.es)).pn (fun v j hj hv hx=>?_) (fun p z=>⟨_,rfl⟩)
   have hv2:v.length+(i+1)≤j:=hv
   have ec:decide (b.gs.length+v.length≤accMax)=true:=accL (by omega)
   simp only [ec,cond_true]
   exact .go { b with gs:=b.gs++v } j (by omega) hj ⟨by simp;omega,by simp;omega,by simp;omega,by simp;omega,by simp;omega,j6,o1,o2,o3⟩ rfl rfl
  | false=>
   simp only [cond_false]
   refine PM.seq (spans_par h0 ht.num h5 65535 (by decide) (i+1) hi1 (nm,sp,(),(),(),sv,im,b.ms,b.es)).pn (fun v j hj hv hx=>?_) (fun p z=>⟨_,rfl⟩)
   have hv2:v.length+(i+1)≤j:=hv
   have ec:decide (b.rs.length+v.length≤accMax)=true:=accL (by omega)
   simp only [ec,cond_true]
   exact .go { b with rs:=b.rs++v } j (by omega) hj ⟨by simp;omega,by simp;omega,by simp;omega,by simp;omega,by simp;omega,j6,o1,o2,o3⟩ rfl rfl
 ·simp only [cond_false]
  refine PM.seq (field_par po t ht i hi (nm,sp,(),(),(),sv,im,b.ms,b.es)).pg.pn (fun v j hj _ hx=>?_) (fun p z=>⟨_,rfl⟩)
  have q1:=sh_lt hi hj (field_sh parV kindOf _) hx
  have ec:decide (b.fs.length+[v].length≤accMax)=true:=accL (by simp;omega)
  simp only [ec,cond_true]
  have hfo:FieldOk v:=⟨field_ok (smT_ts ht i) hx,by have:=field_len hx;rw [ts_length] at this;omega⟩
  exact .go { b with fs:=b.fs++[v] } j q1 hj ⟨by simp;omega,by simp;omega,by simp;omega,by simp;omega,by simp;omega,j6,all_app o1 hfo,o2,o3⟩ rfl rfl
theorem msg_pn (po:ParOk) (ht:TNum t) (h5:t.length≤100000) (nm sp:List UInt8) (sv im:List PV):∀ (d a2:Nat),a2+d=16→∀ (outer:List UInt8),outer.length≤120→∀ (i:Nat) (ms es:List PV),i≤t.length→ms.length≤i→es.length≤i→(∀ x,x∈ms→MessOk x)→(∀ x,x∈es→EnumsOk x)→
 PN (d+1) t Sum.inl Sum.inr (fun v j=>v.1.length≤j∧v.2.length≤j∧ms.length≤v.1.length∧(∀ x,x∈v.1→MessOk x)∧(∀ x,x∈v.2→EnumsOk x)) (fun v j=>((t,j,nm,sp,(),(),(),sv,im,v.1,v.2):Q0)) (msgS parV kindOf d outer ms es (ts t i)) (fun n=>G97 0 n ((),outer,((a2:Nat):Int),(t,(i:Int),nm,sp,(),(),(),sv,im,ms,es))):=by
 have h0:=ht.toTOk
 intro d
 induction d with
 | zero=>
  intro a2 ha outer ho i ms es hi hm he om oe
  have hd:decide (((a2:Nat):Int)≥16)=true:=decide_eq_true (by omega)
  refine .er i 17 (t,(i:Int),nm,sp,(),(),(),sv,im,ms,es) hi (by decide) rfl fun n hn=>?_
  obtain ⟨m,rfl⟩:∃ m,n=m+1:=⟨n-1,by omega⟩
  simp only [G97,B97,hd,cond_true]
 | succ d ih=>
  intro a2 ha outer ho i ms es hi hm he om oe
  have hd:decide (((a2:Nat):Int)≥16)=false:=decide_eq_false (by omega)
  refine PN.shift (y:=fun n=>B97 0 (G97 0 n) () outer ((a2:Nat):Int) (t,(i:Int),nm,sp,(),(),(),sv,im,ms,es)) ?_ fun n=>rfl
  simp only [B97,hd,cond_false]
  unfold msgS
  refine PN.seq (eat_k [109,101,115,115,97,103,101] 1 (by decide) t h0 i hi (nm,sp,(),(),(),sv,im,ms,es)).pg (fun _ j hj _ hx=>?_) (fun p z=>⟨_,rfl⟩)
  have q1:=sh_lt hi hj (eat_sh _ _ _) hx
  refine PN.seq (named_par outer ho t h0 j hj nm sp sv im ms es) (fun name k hk hname hx2=>?_) (fun p z=>⟨_,rfl⟩)
  have q2:=sh_lt hj hk (named_sh _ _) hx2
  have ec:∀ x:PV,decide (ms.length+[x].length≤accMax)=true:=fun x=>accL (by simp;omega)
  simp only [ec,cond_true]
  refine PN.seq (notes_par po t ht.toTNm k hk (nm,sp,(),(),(),sv,im,ms++[msgOf name [] [] [] []],es)).pg (fun nts l hl _ hx3=>?_) (fun p z=>⟨_,rfl⟩)
  have hnt:=notes_sound h5 hx3
  have q3:=sh_le' hk hl (notes_sh parV kindOf _) hx3
  refine PN.seq (eat_k [123] 4 (by decide) t h0 l hl (nm,sp,(),(),(),sv,im,ms++[msgOf name [] [] [] []],es)).pg (fun _ m hm2 _ hx4=>?_) (fun p z=>⟨_,rfl⟩)
  have q4:=sh_lt hl hm2 (eat_sh _ _ _) hx4
  simp only [loopQ0]
  have lp:=PM.loop (step:=fun n=>B97_9step 0 (G97 0 n)) (fun i' b hi' hJ=>body_round po ht h5 (d+1) d a2 (by omega) (ms.length:Int) name hname nm sp sv im nts (fun i2 ms2 es2 h1 h2 h3 h4 h6=>ih (a2+1) (by omega) name hname i2 ms2 es2 h1 h2 h3 h4 h6) i' b hi' (ms.length+1) hJ) t.length m ⟨[],[],[],ms++[msgOf name [] [] [] []],es⟩ (by omega) hm2 ⟨by simp,by simp,by simp,by simp;omega,show es.length≤m by omega,by simp,all_nil,all_app om ⟨Nat.zero_le _,all_nil,Nat.zero_le _,Nat.zero_le _,Nat.zero_le _,all_nil⟩,oe⟩
  refine PN.swap lp (fun v n hn hv hx5=>?_) (fun p z=>⟨_,rfl⟩)
  obtain ⟨g1,g2,g3,g4,g5,hlen,p1,p2,p3⟩:=hv
  have hlen:ms.length<v.ms.length:=hlen
  have hnew:MessOk (msgOf name v.fs v.rs v.gs nts):=⟨show v.fs.length≤100000 by omega,p1,show v.rs.length≤100000 by omega,show v.gs.length≤100000 by omega,hnt⟩
  have r0:inRange (ms.length:Int) v.ms.length=true:=by rw [inRange_nat];exact decide_eq_true hlen
  simp only [r0,cond_true,Int.toNat_natCast]
  exact .ok (v.ms.set ms.length (msgOf name v.fs v.rs v.gs nts),v.es) n hn ⟨by simp;exact g4,g5,by simp;omega,fun x hx=>by
   rcases List.mem_or_eq_of_mem_set hx with hx | rfl
   ·exact p2 x hx
   ·exact hnew,p3⟩ rfl rfl
end
end Go.Ab
namespace Go.Ab
open Go
set_option maxRecDepth 100000
noncomputable section
section
variable {t:List PV}
theorem msg_par (po:ParOk) (ht:TNum t) (h5:t.length≤100000) (nm sp:List UInt8) (sv im:List PV) (i:Nat) (ms es:List PV) (hi:i≤t.length) (hm:ms.length≤i) (he:es.length≤i) (om:∀ x,x∈ms→MessOk x) (oe:∀ x,x∈es→EnumsOk x):
 PG t Sum.inl Sum.inr (fun v j=>v.1.length≤j∧v.2.length≤j∧ms.length≤v.1.length∧(∀ x,x∈v.1→MessOk x)∧(∀ x,x∈v.2→EnumsOk x)) (fun v j=>((t,j,nm,sp,(),(),(),sv,im,v.1,v.2):Q0)) (msgS parV kindOf 16 [] ms es (ts t i)) (F97 0 () [] (0:Int) (t,(i:Int),nm,sp,(),(),(),sv,im,ms,es)):=
 (msg_pn po ht h5 nm sp sv im 16 0 (by omega) [] (by simp) i ms es hi hm he om oe).pg fun z h=>limQ_intro 17 h
theorem imports_par (ht:TOk t) (h5:t.length≤100000) (nm sp:List UInt8) (sv ms es:List PV) (i:Nat) (hi:i≤t.length):
 PG t Sum.inr Sum.inl (fun v j=>v.length≤j) (fun v (j:Int)=>((),((t,j,nm,sp,(),(),(),sv,v,ms,es):Q0))) (importsS (ts t i) []) (loopW (S44_4step 0) ((),(t,(i:Int),nm,sp,(),(),(),sv,[],ms,es))):=by
 refine PL.loop (t:=t) (st:=fun (b:List PV) (j:Int)=>((),((t,j,nm,sp,(),(),(),sv,b,ms,es):Q0))) (spec:=fun l b=>importsS l b) (J:=fun b j=>b.length≤j) (step:=S44_4step 0) (fun i b hi hJ=>?_) t.length i [] (by omega) hi (by simp)
 have eb:∀ x:PV,decide (b.length+[x].length≤accMax)=true:=fun x=>accL (by simp;omega)
 show PL t _ _ _ _ _ _ _ i (importsS (ts t i) b) _
 rw [imports_eq]
 simp only [S44_4step,S44_4]
 refine PL.may ht [105,109,112,111,114,116] 1 (by decide) i hi (nm,sp,(),(),(),sv,b,ms,es) (fun _ hi1=>?_) (fun _=>?_)
 ·simp only [cond_true,ts_tail]
  refine PL.seq (anyText_par t ht (i+1) hi1 (nm,sp,(),(),(),sv,b,ms,es)).pg (fun s j hj _ hx=>?_) (fun p z=>⟨_,rfl⟩)
  have q1:=sh_lt hi1 hj (anyText_sh _) hx
  simp only [eb,cond_true]
  refine PL.seq (eat_k [59] 4 (by decide) t ht j hj (nm,sp,(),(),(),sv,b++[PV.str s],ms,es)).pg (fun _ k hk _ hx2=>?_) (fun p z=>⟨_,rfl⟩)
  have q2:=sh_lt hj hk (eat_sh _ _ _) hx2
  exact .go (b++[PV.str s]) k (by omega) hk (by simp;omega) rfl rfl
 ·simp only [cond_false]
  exact .done b i hi hJ rfl rfl
def FBok (b:FB) (j:Nat):Prop:=b.ms.length≤j∧b.es.length≤j∧b.ss.length≤j∧(∀ x,x∈b.ms→MessOk x)∧(∀ x,x∈b.es→EnumsOk x)∧(∀ x,x∈b.ss→ServOk x)
theorem defs_par (po:ParOk) (ht:TNum t) (h5:t.length≤100000) (nm sp:List UInt8) (im:List PV) (i:Nat) (hi:i≤t.length):
 PG t Sum.inr Sum.inl FBok (fun (v:FB) (j:Int)=>((t,j,nm,sp,(),(),(),v.ss,im,v.ms,v.es):Q0)) (defsS parV kindOf (ts t i) ⟨[],[],[]⟩) (loopW (S44_7step 0) ((),(t,(i:Int),nm,sp,(),(),(),[],im,[],[]))):=by
 have h0:=ht.toTOk
 refine PL.loop (t:=t) (st:=fun (b:FB) (j:Int)=>((),((t,j,nm,sp,(),(),(),b.ss,im,b.ms,b.es):Q0))) (spec:=fun l b=>defsS parV kindOf l b) (J:=FBok) (step:=S44_7step 0) (fun i b hi hJ=>?_) t.length i ⟨[],[],[]⟩ (by omega) hi ⟨by simp,by simp,by simp,all_nil,all_nil,all_nil⟩
 obtain ⟨j1,j2,j3,o1,o2,o3⟩:=hJ
 show PL t _ _ _ _ _ _ _ i (defsS parV kindOf (ts t i) b) _
 rw [defs_eq,bor_fork]
 simp only [S44_7step,S44_7]
 by_cases hlt:i<t.length
 ·have d:decide ((i:Int)<(t.length:Int))=true:=decide_eq_true (by omega)
  have hne:(ts t i).isEmpty=false:=by rw [ts_cons hlt];rfl
  rw [d,hne]
  simp only [cond_true,cond_false]
  refine PL.sign h0 [109,101,115,115,97,103,101] 1 (by decide) i hi (nm,sp,(),(),(),b.ss,im,b.ms,b.es) (fun _=>?_) (fun _=>?_)
  ·simp only [cond_true]
   refine PL.seq (msg_par po ht h5 nm sp b.ss im i b.ms b.es hi j1 j2 o1 o2) (fun v j hj hv hx=>?_) (fun p z=>⟨_,rfl⟩)
   have q1:=sh_lt hi hj (msg_sh parV kindOf 16 _ _ _ _) hx
   exact .go { b with ms:=v.1,es:=v.2 } j q1 hj ⟨hv.1,hv.2.1,by simp;omega,hv.2.2.2.1,hv.2.2.2.2,o3⟩ rfl rfl
  simp only [cond_false]
  refine PL.sign h0 [101,110,117,109] 1 (by decide) i hi (nm,sp,(),(),(),b.ss,im,b.ms,b.es) (fun _=>?_) (fun _=>?_)
  ·simp only [Bool.not_true,cond_false,cond_true]
   refine PL.seq (enum_par po ht h5 [] (by simp) i hi nm sp b.ss im b.ms b.es (by omega)) (fun v j hj hvo hx=>?_) (fun p z=>⟨_,rfl⟩)
   have q1:=sh_lt hi hj (enum_sh parV kindOf _ _) hx
   exact .go { b with es:=b.es++[v] } j q1 hj ⟨by simp;omega,by simp;omega,by simp;omega,o1,all_app o2 hvo,o3⟩ rfl rfl
  simp only [Bool.not_false,cond_true,cond_false]
  refine PL.sign h0 [111,112,101,110] 1 (by decide) i hi (nm,sp,(),(),(),b.ss,im,b.ms,b.es) (fun _=>?_) (fun _=>?_)
  ·simp only [cond_true]
   refine PL.seq (enum_par po ht h5 [] (by simp) i hi nm sp b.ss im b.ms b.es (by omega)) (fun v j hj hvo hx=>?_) (fun p z=>⟨_,rfl⟩)
   have q1:=sh_lt hi hj (enum_sh parV kindOf _ _) hx
   exact .go { b with es:=b.es++[v] } j q1 hj ⟨by simp;omega,by simp;omega,by simp;omega,o1,all_app o2 hvo,o3⟩ rfl rfl
  ·simp only [cond_false]
   refine PL.seq (svc_par po ht h5 i hi nm sp b.ss im b.ms b.es (by omega)) (fun v j hj hvo hx=>?_) (fun p z=>⟨_,rfl⟩)
   have q1:=sh_lt hi hj (svc_sh parV kindOf _) hx
   exact .go { b with ss:=b.ss++[v] } j q1 hj ⟨by simp;omega,by simp;omega,by simp;omega,o1,o2,all_app o3 hvo⟩ rfl rfl
 ·have d:decide ((i:Int)<(t.length:Int))=false:=decide_eq_false (by omega)
  have hne:(ts t i).isEmpty=true:=by rw [ts_end (by omega)];rfl
  rw [d,hne]
  simp only [cond_true,cond_false]
  exact .done b i hi ⟨j1,j2,j3,o1,o2,o3⟩ rfl rfl
def partsS (l:List Tk):Rs (List UInt8×List PV×FB):=(spaceS l).bind fun sp r=>(importsS r []).bind fun im r2=>(defsS parV kindOf r2 ⟨[],[],[]⟩).bind fun b r3=>.ok (sp,im,b) r3
theorem file_parts (name:List UInt8) (l:List Tk):fileS parV kindOf name l=(partsS l).bind fun v r=>.ok (PV.agg [PV.str name,PV.str v.1,PV.slice v.2.1,PV.slice v.2.2.ms,PV.slice v.2.2.es,PV.slice v.2.2.ss]) r:=by
 unfold fileS partsS
 simp only [Rs.bind_assoc,Rs.bind_ok]
def PartsOk (n:Nat) (v:List UInt8×List PV×FB) (j:Nat):Prop:=v.2.1.length≤n∧FBok v.2.2 n
theorem fb_le {b:FB} {j n:Nat} (h:FBok b j) (hj:j≤n):FBok b n:=⟨Nat.le_trans h.1 hj,Nat.le_trans h.2.1 hj,Nat.le_trans h.2.2.1 hj,h.2.2.2⟩
theorem file_rest (po:ParOk) (ht:TNum t) (h5:t.length≤100000) (nm sp:List UInt8) (i:Nat) (hi:i≤t.length):
 PG t Sum.inl Sum.inr (PartsOk t.length) (fun (v:List UInt8×List PV×FB) (j:Int)=>((t,j,nm,v.1,(),(),(),v.2.2.ss,v.2.1,v.2.2.ms,v.2.2.es):Q0)) ((importsS (ts t i) []).bind fun im r2=>(defsS parV kindOf r2 ⟨[],[],[]⟩).bind fun b r3=>.ok (sp,im,b) r3)
  ((loopW (S44_4step 0) ((),(t,(i:Int),nm,sp,(),(),(),[],[],[],[]))).bind fun z=>sumE (fun y58=>some (.inr y58)) (fun y59=>(loopW (S44_7step 0) ((),y59.2)).bind fun z=>sumE (fun y60=>some (.inr y60)) (fun y61=>some (.inl y61)) z) z):=by
 refine PG.swap (imports_par ht.toTOk h5 nm sp [] [] [] i hi) (fun im j hj hvi _=>?_) (fun p z=>⟨_,rfl⟩)
 refine PG.swap (defs_par po ht h5 nm sp im j hj) (fun b k hk hvb _=>?_) (fun p z=>⟨_,rfl⟩)
 exact .ok (sp,im,b) k hk ⟨Nat.le_trans hvi hj,fb_le hvb hk⟩ rfl rfl
theorem file_par (po:ParOk) (ht:TNum t) (h5:t.length≤100000) (nm:List UInt8):
 PG t Sum.inl Sum.inr (PartsOk t.length) (fun (v:List UInt8×List PV×FB) (j:Int)=>((t,j,nm,v.1,(),(),(),v.2.2.ss,v.2.1,v.2.2.ms,v.2.2.es):Q0)) (partsS (ts t 0)) (F44 0 () (t,(0:Int),nm,[],(),(),(),[],[],[],[])):=by
 have h0:=ht.toTOk
 unfold F44 partsS spaceS
 rw [show (0:Int)=((0:Nat):Int) from rfl,may_k [115,112,97,99,101] 1 (by decide) t h0 0 (by omega) (nm,[],(),(),(),[],[],[],[]),Option.bind_some]
 simp only [loopQ0]
 cases h:isS 1 [115,112,97,99,101] (ts t 0) with
 | true=>
  simp only [cond_true,Rs.bind_assoc,Rs.bind_ok,ts_tail]
  refine PG.seq (takeName t h0 1 (isS_lt h) (nm,[],(),(),(),[],[],[],[])).pg (fun sp j hj _ _=>?_) (fun p z=>⟨_,rfl⟩)
  refine PG.seq (eat_k [59] 4 (by decide) t h0 j hj (nm,sp,(),(),(),[],[],[],[])).pg (fun _ k hk _ _=>?_) (fun p z=>⟨_,rfl⟩)
  exact file_rest po ht h5 nm sp k hk
 | false=>
  simp only [cond_false,Rs.bind_ok]
  exact file_rest po ht h5 nm [] 0 (by omega)
end
def zeroFile:PV:=PV.agg [PV.str [],PV.str [],PV.slice [],PV.slice [],PV.slice [],PV.slice []]
def lineAt (xs:List PV) (j:Nat):Int:=((xs.getD (if xs.length-1<j then xs.length-1 else j) .bad).fld 3).asInt
def fileO (name:List UInt8) (xs:List PV):PV×Int×Int:=
 match fileS parV kindOf name (ts xs 0) with
 | .ok v _=>(v,0,0)
 | .er r e=>(zeroFile,lineAt xs (xs.length-r.length),e)
theorem parts_nil:∃ v,partsS []=.ok v []:=by
 refine ⟨([],[],⟨[],[],[]⟩),?_⟩
 unfold partsS spaceS
 rw [show isS 1 [115,112,97,99,101] []=false from rfl,cond_false,Rs.bind_ok,imports_eq,show isS 1 [105,109,112,111,114,116] []=false from rfl,cond_false,Rs.bind_ok,defs_eq]
 rfl
def FileOk2 (v:PV):Prop:=(v.fld 2).asList.length≤100000∧(v.fld 3).asList.length≤100000∧(v.fld 4).asList.length≤100000∧(v.fld 5).asList.length≤100000∧(∀ x,x∈(v.fld 3).asList→MessOk x)∧(∀ x,x∈(v.fld 4).asList→EnumsOk x)∧(∀ x,x∈(v.fld 5).asList→ServOk x)
theorem zeroFile_ok:FileOk2 zeroFile:=⟨Nat.zero_le _,Nat.zero_le _,Nat.zero_le _,Nat.zero_le _,all_nil,all_nil,all_nil⟩
theorem fileO_ok (po:ParOk) (name:List UInt8) (xs:List PV) (ht:TNum xs) (h5:xs.length≤100000):FileOk2 (fileO name xs).1:=by
 unfold fileO
 rw [file_parts]
 rcases file_par po ht h5 name with ⟨v,j,hj,⟨h1,h2,h3,h4,h6,h7,h8⟩,hx,hy⟩ | ⟨j,e,z,hj,he,hx,hy⟩
 ·rw [hx]
  exact ⟨show v.2.1.length≤_ by omega,show v.2.2.ms.length≤_ by omega,show v.2.2.es.length≤_ by omega,show v.2.2.ss.length≤_ by omega,h6,h7,h8⟩
 ·rw [hx];exact zeroFile_ok
theorem parseFile_eq (po:ParOk) (name src:List UInt8) (xs:List PV) (l0:Int) (hs:F28 0 src=some (xs,l0,0)) (ht:TNum xs) (h5:xs.length≤100000):F15 0 name src=some (fileO name xs):=by
 unfold F15 fileO
 rw [hs,Option.bind_some,file_parts]
 simp only [show ((0:Int) != 0)=false from rfl,cond_false]
 unfold F43
 rcases file_par po ht h5 name with ⟨v,j,hj,_,hx,hy⟩ | ⟨j,e,z,hj,he,hx,hy⟩
 ·rw [hy,hx,Rs.bind_ok]
  rfl
 ·rw [hy,hx,Rs.bind_er]
  have hne:0<xs.length:=by
   rcases Nat.eq_zero_or_pos xs.length with h | h
   ·rw [ts_end (by omega)] at hx
    obtain ⟨v,hv⟩:=parts_nil
    rw [hv] at hx;cases hx
   ·exact h
  have w:IntKind.wrap .i64 ((xs.length:Int)-1)=((xs.length-1:Nat):Int):=by rw [wrap64 (by omega) (by omega)];omega
  have e1:((((PV.agg [PV.int ((j:Nat):Int),PV.int e]).fld 1).asInt) != (0:Int))=true:=bneI he
  have e2:((PV.agg [PV.int ((j:Nat):Int),PV.int e]).fld 0).asInt=(j:Int):=rfl
  have e3:((PV.agg [PV.int ((j:Nat):Int),PV.int e]).fld 1).asInt=e:=rfl
  have e4:(if ((xs.length-1:Nat):Int)<(j:Int) then ((xs.length-1:Nat):Int) else (j:Int))=((if xs.length-1<j then xs.length-1 else j:Nat):Int):=by split<;>split<;>omega
  have e5:inRange ((if xs.length-1<j then xs.length-1 else j:Nat):Int) xs.length=true:=by rw [inRange_nat];exact decide_eq_true (by split<;>omega)
  have e6:xs.length-(ts xs j).length=j:=by rw [ts_length];omega
  simp only [Option.bind_some,sumE_inr,e1,e2,e3,w,e4,e5,cond_true,Int.toNat_natCast,e6,bneI he]
  rfl
end
end Go.Ab
namespace Go.Ab
open Go
set_option maxRecDepth 100000
noncomputable section
def spC (c:UInt8):Bool:=c==32||c==9||c==13||c==10
def hash2:List UInt8→Bool
 | 47::47::_=>true
 | _=>false
def stateS (c:UInt8) (r:List UInt8):Int:=
 bif spC c then 1 else bif hash2 (c::r) then 2 else bif startN c r then 3 else bif digC c then 4 else bif c==34 then 5 else bif signC c then 6 else 0
theorem pre47 (r:List UInt8):F230 0 (47::r) ([47,47]:List UInt8)=some (hash2 (47::r)):=by
 unfold F230 F297
 have e:((([47,47]:List UInt8).length:Nat):Int)=(2:Int):=rfl
 simp only [e]
 cases r with
 | nil=>rfl
 | cons d r=>
  have h1:decide (((47::d::r:List UInt8).length:Int)≥2)=true:=decide_eq_true (by simp only [List.length_cons];omega)
  have h2:decide ((0:Int)≤0∧(0:Int)≤2∧(2:Int)≤((47::d::r:List UInt8).length:Int))=true:=decide_eq_true (by simp only [List.length_cons];omega)
  have h3:(((47::d::r:List UInt8).take (2:Int).toNat).drop (0:Int).toNat==([47,47]:List UInt8))=hash2 (47::d::r):=by
   show ([47,d]==([47,47]:List UInt8))=_
   by_cases hd:d=47
   ·subst hd;rfl
   ·have:hash2 (47::d::r)=false:=by
     unfold hash2
     split
     ·rename_i heq;simp only [List.cons.injEq] at heq;exact absurd heq.2.1 hd
     ·rfl
    rw [this,beq_eq_false_iff_ne]
    intro q
    simp only [List.cons.injEq] at q
    exact hd q.2.1
  simp only [h1,h2,h3,imp,cond_true,Option.bind_some]
theorem hash2_ne {c:UInt8} (r:List UInt8) (h:c≠47):hash2 (c::r)=false:=by
 unfold hash2
 split
 ·rename_i heq;simp only [List.cons.injEq] at heq;exact absurd heq.1 h
 ·rfl
theorem spC_ne {c:UInt8} (h:spC c=false):c≠32∧c≠9∧c≠13∧c≠10:=by
 unfold spC at h
 simp only [Bool.or_eq_false_iff,beq_eq_false_iff_ne] at h
 exact ⟨h.1.1.1,h.1.1.2,h.1.2,h.2⟩
theorem stateS_eq (c:UInt8) (r:List UInt8):F123 0 (c::r)=some (stateS c r):=by
 unfold stateS
 cases hs:spC c with
 | true=>
  have e3:(c::r).getD (0:Int).toNat 0=c:=rfl
  unfold F123
  simp only [in0,e3,cond_true,bqI (c:=c) (k:=32) (n:=32) rfl,bqI (c:=c) (k:=9) (n:=9) rfl,bqI (c:=c) (k:=13) (n:=13) rfl,bqI (c:=c) (k:=10) (n:=10) rfl]
  unfold spC at hs
  cases h1:(c==32)<;>cases h2:(c==9)<;>cases h3:(c==13)<;>cases h4:(c==10)<;>first | rfl | (rw [h1,h2,h3,h4] at hs;cases hs)
 | false=>
  obtain ⟨n1,n2,n3,n4⟩:=spC_ne hs
  simp only [cond_false]
  by_cases h47:c=47
  ·subst h47
   have e1:(((47::r:List UInt8).take (1:Int).toNat).drop (0:Int).toNat)=[47]:=rfl
   have e2:decide ((0:Int)≤(0:Int)∧(0:Int)≤(1:Int)∧(1:Int)≤((47::r:List UInt8).length:Int))=true:=decide_eq_true (by simp only [List.length_cons];omega)
   have e3:(47::r:List UInt8).getD (0:Int).toNat 0=47:=rfl
   have k1:(((47:UInt8).toNat:Int)==(32:Int))=false:=rfl
   have k2:(((47:UInt8).toNat:Int)==(9:Int))=false:=rfl
   have k3:(((47:UInt8).toNat:Int)==(13:Int))=false:=rfl
   have k4:(((47:UInt8).toNat:Int)==(10:Int))=false:=rfl
   have k5:(((47:UInt8).toNat:Int)==(46:Int))=false:=rfl
   have k6:(((47:UInt8).toNat:Int)==(34:Int))=false:=rfl
   have l1:letB 47=false:=by decide
   have l2:digC 47=false:=by decide
   have l3:signC 47=false:=by decide
   have l4:startN 47 r=false:=by unfold startN;rw [l1];rfl
   unfold F123
   simp only [in0,e1,e2,e3,cond_true,k1,k2,k3,k4,k5,k6,cond_false,pre47,Option.bind_some,letter_eq,digit_eq,sign_eq,l1,l2,l3,l4,imp,Bool.not_false,Bool.true_or,Bool.or_true,cond_same]
   cases hash2 (47::r)<;>rfl
  ·rw [state_eq c r ⟨n1,n2,n3,n4,h47⟩,hash2_ne r h47];rfl
def skipS:Bool→List UInt8→Nat
 | _,[]=>0
 | true,c::r=>bif c==10 then skipS false r+1 else skipS true r+1
 | false,c::r=>bif spC c then skipS false r+1 else bif hash2 (c::r) then skipS true r+1 else 0
theorem skipS_le:∀ (s:List UInt8) (b:Bool),skipS b s≤s.length:=by
 intro s
 induction s with
 | nil=>intro b;cases b<;>exact Nat.le_refl _
 | cons c r ih=>
  intro b
  have h1:=ih true
  have h2:=ih false
  cases b
  ·simp only [skipS,List.length_cons]
   cases spC c<;>cases hash2 (c::r)<;>simp only [cond_true,cond_false]<;>omega
  ·simp only [skipS,List.length_cons]
   cases (c==10)<;>simp only [cond_true,cond_false]<;>omega
def ne10 (c:UInt8):Bool:=!(c==10)
theorem skipS_run:∀ s:List UInt8,skipS true s=runN ne10 s+skipS false (s.drop (runN ne10 s)):=by
 intro s
 induction s with
 | nil=>rfl
 | cons c r ih=>
  rw [runN_cons]
  unfold ne10
  cases h:(c==10) with
  | true=>
   have e:c=10:=eq_of_beq h
   subst e
   simp [skipS,spC]
  | false=>
   simp only [skipS,h,cond_false,Bool.not_false,if_true,List.drop_succ_cons]
   rw [ih]
   unfold ne10
   omega
theorem skip1_eq (c:UInt8):F125 0 (c.toNat:Int)=some (ne10 c):=by
 unfold F125 ne10
 show some (!((c.toNat:Int)==10))=_
 rw [bqI (c:=c) (k:=10) (n:=10) rfl]
theorem run_ne (s:List UInt8) (hl:s.length≤1048576):F124 0 s ()=some ((runN ne10 s:Nat):Int):=by
 have h:=run_loop (p:=ne10) (step:=S124_3step 0) s (fun i hi=>by
  simp only [S124_3step,S124_3,declt,hi,decide_true,inRange_nat,imp,cond_true,Int.toNat_natCast,skip1_eq,Option.bind_some,Bool.not_true,Bool.false_or,Bool.true_or,wadd' (show i≤9223372036854775000 by omega)]
  cases ne10 (s.getD i 0)<;>rfl) (by
  simp only [S124_3step,S124_3,declt,Nat.lt_irrefl,decide_false,inRange_nat,imp,cond_false,Bool.not_false,Bool.true_or,cond_true,Option.bind_some]) s.length 0 (by omega) (by omega)
 unfold F124
 rw [loopQ0,show (0:Int)=((0:Nat):Int) from rfl,h,List.drop_zero,Nat.zero_add];rfl
theorem stateS_1 {c:UInt8} {r:List UInt8}:(stateS c r==1)=spC c:=by
 unfold stateS
 cases spC c with
 | true=>rfl
 | false=>
  cases hash2 (c::r)<;>cases startN c r<;>cases digC c<;>cases (c==34)<;>cases signC c<;>rfl
theorem stateS_2 {c:UInt8} {r:List UInt8} (h:spC c=false):(stateS c r==2)=hash2 (c::r):=by
 unfold stateS
 rw [h]
 cases hash2 (c::r)<;>cases startN c r<;>cases digC c<;>cases (c==34)<;>cases signC c<;>rfl
theorem skipS_loop (src:List UInt8) (hl:src.length≤1048576):∀ (m i:Nat),src.length-i≤m→i≤src.length→∃ z,loopW (S59_3step 0) (src,(i:Int))=some z∧(z=.inl ((i+skipS false (src.drop i):Nat):Int)∨z=.inr ((i+skipS false (src.drop i):Nat):Int)):=by
 intro m
 induction m with
 | zero=>
  intro i hm hi
  have e1:decide ((i:Int)<(src.length:Int))=false:=decide_eq_false (by omega)
  rw [List.drop_eq_nil_of_le (by omega)]
  exact ⟨.inr (i:Int),loopW_end (by simp only [S59_3step,S59_3,e1,cond_false]),Or.inr rfl⟩
 | succ m ih=>
  intro i hm hi
  by_cases hlt:i<src.length
  ·have e1:decide ((i:Int)<(src.length:Int))=true:=decide_eq_true (by omega)
   rw [drop_cons hlt 0]
   obtain ⟨c,hc⟩:∃ c,src.getD i 0=c:=⟨_,rfl⟩
   have hd:src.drop i=c::src.drop (i+1):=by rw [drop_cons hlt 0,hc]
   rw [hc]
   cases hs:spC c with
   | true=>
    obtain ⟨z,h1,h2⟩:=ih (i+1) (by omega) (by omega)
    have st:S59_3step 0 (src,(i:Int))=some (.inl (src,((i+1:Nat):Int))):=by
     simp only [S59_3step,S59_3,e1,sl_in src hi,cond_true,sl_drop,hd,stateS_eq,stateS_1,hs,Option.bind_some,wadd' (show i≤9223372036854775000 by omega)]
    refine ⟨z,by rw [loopW_go st,h1],?_⟩
    simp only [skipS,hs,cond_true]
    rw [show i+(skipS false (src.drop (i+1))+1)=i+1+skipS false (src.drop (i+1)) by omega]
    exact h2
   | false=>
    cases hh:hash2 (c::src.drop (i+1)) with
    | true=>
     have hn:c≠10:=(spC_ne hs).2.2.2
     have hn1:ne10 c=true:=by unfold ne10;rw [beq_eq_false_iff_ne.2 hn];rfl
     have hr:runN ne10 (src.drop i)=runN ne10 (src.drop (i+1))+1:=by rw [hd,runN_cons,if_pos hn1]
     have hle:=runN_le ne10 (src.drop i)
     rw [List.length_drop] at hle
     obtain ⟨z,h1,h2⟩:=ih (i+runN ne10 (src.drop i)) (by omega) (by omega)
     have hrun:=run_ne (src.drop i) (by rw [List.length_drop];omega)
     have w:IntKind.wrap .i64 ((i:Int)+((runN ne10 (src.drop i):Nat):Int))=((i+runN ne10 (src.drop i):Nat):Int):=by rw [wrap64 (by omega) (by omega)];omega
     have st:S59_3step 0 (src,(i:Int))=some (.inl (src,((i+runN ne10 (src.drop i):Nat):Int))):=by
      rw [←w]
      simp only [S59_3step,S59_3,e1,sl_in src hi,cond_true,sl_drop,hrun,Option.bind_some]
      rw [hd]
      simp only [stateS_eq,stateS_1,stateS_2 hs,hs,hh,Option.bind_some,cond_true,cond_false]
     refine ⟨z,by rw [loopW_go st,h1],?_⟩
     have hsk:skipS false (c::src.drop (i+1))=runN ne10 (src.drop i)+skipS false (src.drop (i+runN ne10 (src.drop i))):=by
      simp only [skipS,hs,hh,cond_true,cond_false]
      rw [skipS_run,List.drop_drop,hr]
      rw [show i+1+runN ne10 (src.drop (i+1))=i+(runN ne10 (src.drop (i+1))+1) by omega]
      omega
     rw [hsk,←Nat.add_assoc]
     exact h2
    | false=>
     refine ⟨.inl (i:Int),loopW_end ?_,?_⟩
     ·simp only [S59_3step,S59_3,e1,sl_in src hi,cond_true,sl_drop,hd,stateS_eq,stateS_1,stateS_2 hs,hs,hh,Option.bind_some,cond_false]
     ·simp [skipS,hs,hh]
  ·have e1:decide ((i:Int)<(src.length:Int))=false:=decide_eq_false (by omega)
   rw [List.drop_eq_nil_of_le (by omega)]
   exact ⟨.inr (i:Int),loopW_end (by simp only [S59_3step,S59_3,e1,cond_false]),Or.inr rfl⟩
theorem skipS_eq (s:List UInt8) (hl:s.length≤1048576):F59 0 s=some ((skipS false s:Nat):Int):=by
 obtain ⟨z,h1,h2⟩:=skipS_loop s hl s.length 0 (by omega) (by omega)
 rw [List.drop_zero,Nat.zero_add] at h2
 unfold F59
 rw [loopQ0,show (0:Int)=((0:Nat):Int) from rfl,h1]
 rcases h2 with rfl | rfl<;>rfl
theorem skipS_stop:∀ (s:List UInt8) (b:Bool) (c:UInt8) (r:List UInt8),s.drop (skipS b s)=c::r→spC c=false∧hash2 (c::r)=false:=by
 intro s
 induction s with
 | nil=>intro b c r h;cases b<;>simp at h
 | cons a s ih=>
  intro b c r h
  cases b with
  | true=>
   simp only [skipS] at h
   cases ha:(a==10)<;>simp only [ha,cond_true,cond_false,List.drop_succ_cons] at h
   ·exact ih true c r h
   ·exact ih false c r h
  | false=>
   simp only [skipS] at h
   cases hs:spC a<;>simp only [hs,cond_true,cond_false] at h
   ·cases hh:hash2 (a::s)<;>simp only [hh,cond_true,cond_false,List.drop_succ_cons,List.drop_zero] at h
    ·simp only [List.cons.injEq] at h
     obtain ⟨rfl,rfl⟩:=h
     exact ⟨hs,hh⟩
    ·exact ih true c r h
   ·exact ih false c r (by simpa using h)
end
end Go.Ab
namespace Go.Ab
open Go
set_option maxRecDepth 100000
noncomputable section
theorem eat_le:∀ l:List UInt8,eat l≤l.length:=by
 intro l
 induction l with
 | nil=>exact Nat.le_refl _
 | cons c r ih=>
  rw [eat_cons]
  split
  ·simp;omega
  ·split
   ·split
    ·split<;>simp<;>omega
    ·omega
   ·omega
def nlenS:List UInt8→Nat
 | []=>0
 | c::r=>bif c==46 then eat r+1 else eat (c::r)
theorem nlenS_le (s:List UInt8):nlenS s≤s.length:=by
 cases s with
 | nil=>exact Nat.le_refl _
 | cons c r=>
  have h1:=eat_le r
  have h2:=eat_le (c::r)
  simp only [nlenS,List.length_cons] at*
  cases (c==46)<;>simp only [cond_true,cond_false]<;>omega
theorem nameLenS_eq (c:UInt8) (r:List UInt8) (hl:(c::r).length≤1048576):F234 0 (c::r)=some ((nlenS (c::r):Nat):Int):=by
 unfold F234
 have e3:(c::r).getD (0:Int).toNat 0=c:=rfl
 simp only [in0,e3,cond_true,bqI (c:=c) (k:=46) (n:=46) rfl,nlenS]
 cases hc:(c==46) with
 | true=>
  have h:=nameLen_loop (c::r) hl (c::r).length 1 (by omega) (by simp)
  simp only [cond_true,loopQ0]
  rw [show (1:Int)=((1:Nat):Int) from rfl,h]
  show some (((1+eat r:Nat):Nat):Int)=_
  rw [Nat.add_comm]
 | false=>
  have h:=nameLen_loop (c::r) hl (c::r).length 0 (by omega) (by omega)
  simp only [cond_false,loopQ0]
  rw [show (0:Int)=((0:Nat):Int) from rfl,h,List.drop_zero,Nat.zero_add];rfl
def nameRd (s:List UInt8):(Tk×Nat)⊕Int:=bif typeP (s.take (nlenS s)) then .inl (⟨1,s.take (nlenS s),0⟩,nlenS s) else .inr 8
def intRd (s:List UInt8):(Tk×Nat)⊕Int:=
 bif (decide (1<runN digC s)&&s.getD 0 0==48)||(decide (runN digC s<s.length)&&alnB (s.getD (runN digC s) 0)) then .inr 2
 else bif (uintRes (Lib.parseUintB 64 (s.take (runN digC s)))).2 then .inl (⟨2,[],IntKind.wrap .i64 (uintRes (Lib.parseUintB 64 (s.take (runN digC s)))).1⟩,runN digC s) else .inr 6
def unqV (s:List UInt8):List UInt8×Int×Int:=(F131 0 s).getD ([],0,2)
def quoRd (s:List UInt8):(Tk×Nat)⊕Int:=bif (unqV s).2.2==0 then .inl (⟨3,(unqV s).1,0⟩,(unqV s).2.1.toNat) else .inr 2
def readS:List UInt8→(Tk×Nat)⊕Int
 | []=>.inr 2
 | c::r=>bif startN c r then nameRd (c::r) else bif digC c then intRd (c::r) else bif c==34 then quoRd (c::r) else bif signC c then .inl (⟨4,[c],0⟩,1) else .inr 2
inductive RdOk (y:Option (PV×Int×Int)):(Tk×Nat)⊕Int→Prop
 | ok (k:Tk) (n:Nat):y=some (PV.agg [PV.int k.k,PV.str k.s,PV.int k.n,PV.int 0],(n:Int),0)→RdOk y (.inl (k,n))
 | er (e:Int) (v:PV) (m:Int):e≠0→y=some (v,m,e)→RdOk y (.inr e)
theorem rd_none {x:(Tk×Nat)⊕Int} (h:RdOk none x):False:=by
 cases h with
 | ok k n h=>cases h
 | er e v m he h=>cases h
theorem readS_cons (c:UInt8) (r:List UInt8):readS (c::r)=bif startN c r then nameRd (c::r) else bif digC c then intRd (c::r) else bif c==34 then quoRd (c::r) else bif signC c then .inl (⟨4,[c],0⟩,1) else .inr 2:=rfl
theorem nameRd_eq (c:UInt8) (r:List UInt8) (hl:(c::r).length≤1048576):RdOk (F129 0 (c::r)) (nameRd (c::r)):=by
 have hle:=nlenS_le (c::r)
 have e1:decide ((0:Int)≤(0:Int)∧(0:Int)≤((nlenS (c::r):Nat):Int)∧((nlenS (c::r):Nat):Int)≤((c::r).length:Int))=true:=decide_eq_true (by omega)
 have e2:((c::r).take ((nlenS (c::r):Nat):Int).toNat).drop (0:Int).toNat=(c::r).take (nlenS (c::r)):=by
  rw [Int.toNat_natCast];rfl
 obtain ⟨y,h1,h2⟩:=trim_full ((c::r).take (nlenS (c::r))) (by rw [List.length_take];omega)
 have hy:F129 0 (c::r)=bif !typeP ((c::r).take (nlenS (c::r))) then some (PV.agg [PV.int 0,PV.str [],PV.int 0,PV.int 0],0,8) else some (PV.agg [PV.int 1,PV.str ((c::r).take (nlenS (c::r))),PV.int 0,PV.int 0],((nlenS (c::r):Nat):Int),0):=by
  unfold F129
  simp only [nameLenS_eq c r hl,Option.bind_some,e1,e2,cond_true,h1,h2]
 unfold nameRd
 cases ht:typeP ((c::r).take (nlenS (c::r))) with
 | true=>rw [ht] at hy;exact .ok _ _ hy
 | false=>rw [ht] at hy;exact .er _ _ _ (by decide) hy
theorem intRd_eq (c:UInt8) (r:List UInt8) (hl:(c::r).length≤1048576):RdOk (F130 0 (c::r)) (intRd (c::r)):=by
 have hle:=runN_le digC (c::r)
 have hr:=run_digit (c::r) hl
 obtain ⟨n,hn⟩:∃ n,runN digC (c::r)=n:=⟨_,rfl⟩
 unfold intRd
 rw [hn] at hle hr ⊢
 have e1:decide ((0:Int)≤(0:Int)∧(0:Int)≤(n:Int)∧(n:Int)≤((c::r).length:Int))=true:=decide_eq_true (by omega)
 have e2:((c::r).take n).drop (0:Int).toNat=(c::r).take n:=rfl
 have x2:decide ((n:Int)>(1:Int))=decide (1<n):=decide_eq_decide.2 (by omega)
 have x7:decide ((n:Int)<((c::r).length:Int))=decide (n<(c::r).length):=decide_eq_decide.2 (by omega)
 have x5:((((c::r).getD (0:Int).toNat 0).toNat:Int)==(48:Int))=((c::r).getD 0 0==48):=bqI (k:=48) rfl
 have hp:=lparseUint_ok ((c::r).take n) (by rw [List.length_take];omega)
 have key:F130 0 (c::r)=bif (decide (1<n)&&(c::r).getD 0 0==48)||(decide (n<(c::r).length)&&alnB ((c::r).getD n 0)) then some (PV.agg [PV.int 0,PV.str [],PV.int 0,PV.int 0],0,2)
  else bif !(uintRes (Lib.parseUintB 64 ((c::r).take n))).2 then some (PV.agg [PV.int 0,PV.str [],PV.int 0,PV.int 0],0,6) else some (PV.agg [PV.int 2,PV.str [],PV.int (IntKind.wrap .i64 (uintRes (Lib.parseUintB 64 ((c::r).take n))).1),PV.int 0],(n:Int),0):=by
  unfold F130
  simp only [hr,Option.bind_some,x2,x7,x5,in0,inRange_nat,imp,Bool.true_or,Bool.or_true,cond_same,cond_true,Int.toNat_natCast,goes_eq,e1,e2,hp]
  by_cases hc:n<(c::r).length
  ·simp only [hc,decide_true,Bool.true_and,cond_true,Bool.true_or,Bool.or_true]
   cases decide (1<n)<;>cases ((c::r).getD 0 0==48)<;>cases alnB ((c::r).getD n 0)<;>rfl
  ·simp only [hc,decide_false,Bool.false_and,cond_false,cond_same,Bool.not_false,Bool.true_or,cond_true]
   cases decide (1<n)<;>cases ((c::r).getD 0 0==48)<;>rfl
 cases hb:(decide (1<n)&&(c::r).getD 0 0==48)||(decide (n<(c::r).length)&&alnB ((c::r).getD n 0)) with
 | true=>rw [hb] at key;exact .er _ _ _ (by decide) key
 | false=>
  rw [hb] at key
  cases hu:(uintRes (Lib.parseUintB 64 ((c::r).take n))).2 with
  | true=>rw [hu] at key;exact .ok _ _ key
  | false=>rw [hu] at key;exact .er _ _ _ (by decide) key
theorem readS_eq (c:UInt8) (r:List UInt8) (hl:(c::r).length≤1048576) (hs:spC c=false) (hh:hash2 (c::r)=false):RdOk (F61 0 (c::r)) (readS (c::r)):=by
 have hst:=stateS_eq c r
 unfold stateS at hst
 rw [hs,hh,cond_false,cond_false] at hst
 rw [readS_cons]
 unfold F61
 rw [hst,Option.bind_some]
 cases h1:startN c r with
 | true=>
  simp only [cond_true,show ((3:Int)==3)=true from rfl]
  have h:=nameRd_eq c r hl
  cases hy:F129 0 (c::r) with
  | none=>rw [hy] at h;exact (rd_none h).elim
  | some y=>rw [hy] at h;rw [Option.bind_some];exact h
 | false=>
  cases h2:digC c with
  | true=>
   simp only [cond_true,cond_false,show ((4:Int)==3)=false from rfl,show ((4:Int)==4)=true from rfl]
   have h:=intRd_eq c r hl
   cases hy:F130 0 (c::r) with
   | none=>rw [hy] at h;exact (rd_none h).elim
   | some y=>rw [hy] at h;rw [Option.bind_some];exact h
  | false=>
   cases h3:(c==34) with
   | true=>
    simp only [cond_true,cond_false,show ((5:Int)==3)=false from rfl,show ((5:Int)==4)=false from rfl,show ((5:Int)==5)=true from rfl]
    unfold quoRd unqV
    rcases unq_tot (c::r) hl with ⟨a,q,ha,hy⟩ | ⟨_,hy⟩
    ·rw [hy];exact .ok ⟨3,a,0⟩ (quote a).length rfl
    ·rw [hy];exact .er 2 _ _ (by decide) rfl
   | false=>
    cases h4:signC c with
    | true=>
     have e:decide ((0:Int)≤(0:Int)∧(0:Int)≤(1:Int)∧(1:Int)≤((c::r).length:Int))=true:=decide_eq_true (by simp only [List.length_cons];omega)
     simp only [cond_true,cond_false,show ((6:Int)==3)=false from rfl,show ((6:Int)==4)=false from rfl,show ((6:Int)==5)=false from rfl,show ((6:Int)==6)=true from rfl,e]
     exact .ok ⟨4,[c],0⟩ 1 rfl
    | false=>exact .er 2 _ _ (by decide) rfl
def WfTk (k:Tk):Prop:=(k.k=1∧typeP k.s=true∧k.n=0)∨(k.k=2∧k.s=[]∧∃ u:Nat,u<18446744073709551616∧k.n=IntKind.wrap .i64 (u:Int))∨(k.k=3∧k.n=0)∨(k.k=4∧k.n=0∧∃ c,k.s=[c]∧signC c=true)
theorem parseM_lt {l:List UInt8} {u:Nat} (h:Lib.parseUintB 64 l=.ok u):u<18446744073709551616:=by
 have:=Lib.parseUintB_le h
 omega
theorem readS_wf {c:UInt8} {r:List UInt8} (hl:(c::r).length≤1048576) {k:Tk} {n:Nat} (h:readS (c::r)=.inl (k,n)):1≤n∧n≤(c::r).length∧WfTk k∧k.s.length≤(c::r).length:=by
 rw [readS_cons] at h
 cases h1:startN c r with
 | true=>
  rw [h1] at h
  simp only [cond_true] at h
  unfold nameRd at h
  cases ht:typeP ((c::r).take (nlenS (c::r)))<;>rw [ht] at h<;>simp only [cond_true,cond_false] at h<;>cases h
  have hle:=nlenS_le (c::r)
  refine ⟨?_,hle,Or.inl ⟨rfl,ht,rfl⟩,by simp only [List.length_take];omega⟩
  rcases Nat.eq_zero_or_pos (nlenS (c::r)) with h0 | h0
  ·rw [h0,List.take_zero] at ht;exact absurd ht (by decide)
  ·exact h0
 | false=>
  cases h2:digC c with
  | true=>
   rw [h1,h2] at h
   simp only [cond_true,cond_false] at h
   have hle:=runN_le digC (c::r)
   have hpos:1≤runN digC (c::r):=by rw [runN_cons,if_pos h2];omega
   unfold intRd at h
   cases hb:(decide (1<runN digC (c::r))&&(c::r).getD 0 0==48)||(decide (runN digC (c::r)<(c::r).length)&&alnB ((c::r).getD (runN digC (c::r)) 0))<;>rw [hb] at h<;>simp only [cond_true,cond_false] at h
   ·cases hp:Lib.parseUintB 64 ((c::r).take (runN digC (c::r))) with
    | ok u=>
     rw [hp] at h
     simp only [uintRes,cond_true] at h
     cases h
     exact ⟨hpos,hle,Or.inr (Or.inl ⟨rfl,rfl,u,parseM_lt hp,rfl⟩),Nat.zero_le _⟩
    | range=>rw [hp] at h;cases h
    | «syntax»=>rw [hp] at h;cases h
   ·cases h
  | false=>
   cases h3:(c==34) with
   | true=>
    rw [h1,h2,h3] at h
    simp only [cond_true,cond_false] at h
    unfold quoRd unqV at h
    rcases unq_tot (c::r) hl with ⟨a,q,ha,hy⟩ | ⟨_,hy⟩
    ·rw [hy] at h
     simp only [Option.getD_some,show ((0:Int)==0)=true from rfl,cond_true,Int.toNat_natCast] at h
     cases h
     have hq:(quote a).length≤(c::r).length:=by rw [ha];simp
     have hq2:=quote_ge a
     refine ⟨?_,hq,Or.inr (Or.inr (Or.inl ⟨rfl,rfl⟩)),by show a.length≤_;omega⟩
     obtain ⟨z,hz⟩:=quote_head a
     rw [hz];simp
    ·rw [hy] at h;cases h
   | false=>
    cases h4:signC c with
    | true=>
     rw [h1,h2,h3,h4] at h
     simp only [cond_true,cond_false] at h
     cases h
     exact ⟨Nat.le_refl _,by simp,Or.inr (Or.inr (Or.inr ⟨rfl,rfl,c,rfl,h4⟩)),by simp⟩
    | false=>rw [h1,h2,h3,h4] at h;cases h
def tokV (k:Tk) (line:Nat):PV:=PV.agg [PV.int k.k,PV.str k.s,PV.int k.n,PV.int (line:Int)]
def cnt10 (s:List UInt8):Nat:=s.count 10
theorem cnt_le (s:List UInt8):cnt10 s≤s.length:=List.count_le_length
def scanF:Nat→Nat→List UInt8→List PV→List PV⊕(Nat×Int)
 | 0,_,_,acc=>.inl acc
 | f+1,line,s,acc=>
  match s.drop (skipS false s) with
  | []=>.inl acc
  | c::r=>match readS (c::r) with
   | .inr e=>.inr (line+cnt10 (s.take (skipS false s)),e)
   | .inl (k,n)=>scanF f (line+cnt10 (s.take (skipS false s))+cnt10 ((c::r).take n)) ((c::r).drop n) (acc++[tokV k (line+cnt10 (s.take (skipS false s)))])
def scanO (s:List UInt8):List PV×Int×Int:=match scanF (s.length+1) 1 s [] with | .inl xs=>(xs,0,0) | .inr (l,e)=>([],(l:Int),e)
theorem lcnt (l:List UInt8):Lcount 0 l ([10]:List UInt8)=some ((cnt10 l:Nat):Int):=rfl
theorem scanF_loop {src:List UInt8} (hl:src.length≤16384):∀ (f i:Nat) (acc:List PV) (line:Nat),src.length-i<f→i≤src.length→acc.length≤i→line≤i+1→
 loopW (S28_7step 0) (src,acc,(line:Int),(i:Int))=some (match scanF f line (src.drop i) acc with | .inl xs=>.inl xs | .inr (l,e)=>.inr ([],(l:Int),e)):=by
 intro f
 induction f with
 | zero=>intro i acc line hm;omega
 | succ f ih=>
  intro i acc line hm hi ha hline
  unfold scanF
  have hsk:=skipS_le (src.drop i) false
  rw [List.length_drop] at hsk
  by_cases hlt:i<src.length
  ·have e1:decide ((i:Int)<(src.length:Int))=true:=decide_eq_true (by omega)
   have h1:=skipS_eq (src.drop i) (by rw [List.length_drop];omega)
   obtain ⟨k,hk⟩:∃ k,skipS false (src.drop i)=k:=⟨_,rfl⟩
   rw [hk] at hsk h1 ⊢
   have w1:IntKind.wrap .i64 ((i:Int)+(k:Int))=((i+k:Nat):Int):=by rw [wrap64 (by omega) (by omega)];omega
   have e2:decide (0≤(i:Int)∧(i:Int)≤((i+k:Nat):Int)∧((i+k:Nat):Int)≤(src.length:Int))=true:=decide_eq_true (by omega)
   have t1:(src.take (((i+k:Nat):Int)).toNat).drop ((i:Int)).toNat=(src.drop i).take k:=by
    rw [Int.toNat_natCast,Int.toNat_natCast,List.drop_take,show i+k-i=k by omega]
   have hc:=cnt_le ((src.drop i).take k)
   rw [List.length_take,List.length_drop] at hc
   have w2:IntKind.wrap .i64 ((line:Int)+((cnt10 ((src.drop i).take k):Nat):Int))=((line+cnt10 ((src.drop i).take k):Nat):Int):=by rw [wrap64 (by omega) (by omega)];omega
   have hdd:(src.drop i).drop k=src.drop (i+k):=by rw [List.drop_drop]
   rw [hdd]
   by_cases hend:i+k=src.length
   ·have e3:(((i+k:Nat):Int)==(src.length:Int))=true:=by rw [hend];simp
    have hnil:src.drop (i+k)=[]:=List.drop_eq_nil_of_le (by omega)
    rw [hnil]
    refine loopW_end ?_
    simp only [S28_7step,S28_7,e1,sl_in src hi,cond_true,sl_drop,h1,w1,e2,lcnt,e3,Option.bind_some]
   ·have e3:(((i+k:Nat):Int)==(src.length:Int))=false:=by rw [beq_eq_false_iff_ne];omega
    have hlt2:i+k<src.length:=by omega
    obtain ⟨c,hcc⟩:∃ c,src.getD (i+k) 0=c:=⟨_,rfl⟩
    have hd:src.drop (i+k)=c::src.drop (i+k+1):=by rw [drop_cons hlt2 0,hcc]
    have hstop:=skipS_stop (src.drop i) false c (src.drop (i+k+1)) (by rw [hk,hdd,hd])
    have hlen:(c::src.drop (i+k+1)).length≤1048576:=by rw [←hd,List.length_drop];omega
    have hrd:=readS_eq c (src.drop (i+k+1)) hlen hstop.1 hstop.2
    rw [hd]
    cases hx:readS (c::src.drop (i+k+1)) with
    | inr e=>
     rw [hx] at hrd
     cases hrd with
     | er _ v m he hy=>
      rw [←hd] at hy
      refine loopW_end ?_
      simp only [S28_7step,S28_7,e1,sl_in src hi,sl_in src (show i+k≤src.length by omega),cond_true,cond_false,sl_drop,h1,w1,w2,e2,lcnt,t1,e3,hy,hx,bneI he,Option.bind_some]
    | inl kn=>
     obtain ⟨tk,n⟩:=kn
     obtain ⟨hn1,hn2,hwf,_⟩:=readS_wf hlen hx
     rw [←hd,List.length_drop] at hn2
     rw [hx] at hrd
     cases hrd with
     | ok _ _ hy=>
      rw [←hd] at hy
      have w3:IntKind.wrap .i64 (((i+k:Nat):Int)+(n:Int))=((i+k+n:Nat):Int):=by rw [wrap64 (by omega) (by omega)];omega
      have e4:decide (0≤((i+k:Nat):Int)∧((i+k:Nat):Int)≤((i+k+n:Nat):Int)∧((i+k+n:Nat):Int)≤(src.length:Int))=true:=decide_eq_true (by omega)
      have t2:(src.take (((i+k+n:Nat):Int)).toNat).drop (((i+k:Nat):Int)).toNat=(src.drop (i+k)).take n:=by
       rw [Int.toNat_natCast,Int.toNat_natCast,List.drop_take,show i+k+n-(i+k)=n by omega]
      have hc2:=cnt_le ((src.drop (i+k)).take n)
      rw [List.length_take,List.length_drop] at hc2
      have w4:IntKind.wrap .i64 (((line+cnt10 ((src.drop i).take k):Nat):Int)+((cnt10 ((src.drop (i+k)).take n):Nat):Int))=((line+cnt10 ((src.drop i).take k)+cnt10 ((src.drop (i+k)).take n):Nat):Int):=by rw [wrap64 (by omega) (by omega)];omega
      have ea:∀ x:PV,decide (acc.length+[x].length≤accMax)=true:=fun x=>decide_eq_true (by simp only [List.length_cons,List.length_nil];unfold accMax;omega)
      have z0:((0:Int) != (0:Int))=false:=rfl
      have st:S28_7step 0 (src,acc,(line:Int),(i:Int))=some (.inl (src,acc++[tokV tk (line+cnt10 ((src.drop i).take k))],((line+cnt10 ((src.drop i).take k)+cnt10 ((src.drop (i+k)).take n):Nat):Int),((i+k+n:Nat):Int))):=by
       simp only [S28_7step,S28_7,e1,sl_in src hi,sl_in src (show i+k≤src.length by omega),cond_true,cond_false,sl_drop,h1,w1,w2,w3,w4,e2,e4,ea,lcnt,t1,t2,e3,hy,z0,Option.bind_some]
       rfl
      have:=ih (i+k+n) (acc++[tokV tk (line+cnt10 ((src.drop i).take k))]) (line+cnt10 ((src.drop i).take k)+cnt10 ((src.drop (i+k)).take n)) (by omega) (by omega) (by simp;omega) (by omega)
      simp only [hx]
      rw [loopW_go st,this,←hd,List.drop_drop]
  ·have e1:decide ((i:Int)<(src.length:Int))=false:=decide_eq_false (by omega)
   have hnil:src.drop i=[]:=List.drop_eq_nil_of_le (by omega)
   rw [hnil]
   exact loopW_end (by simp only [S28_7step,S28_7,e1,cond_false];rfl)
theorem scanO_eq (s:List UInt8) (hl:s.length≤16384):F28 0 s=some (scanO s):=by
 have h:=scanF_loop hl (s.length+1) 0 [] 1 (by omega) (by omega) (by simp) (by omega)
 have e:decide ((s.length:Int)>(16384:Int))=false:=decide_eq_false (by omega)
 rw [List.drop_zero] at h
 unfold F28 scanO
 rw [e,cond_false,loopQ0,show (0:Int)=((0:Nat):Int) from rfl,show (1:Int)=((1:Nat):Int) from rfl,h]
 cases scanF (s.length+1) 1 s [] with
 | inl xs=>rfl
 | inr p=>rfl
end
end Go.Ab
namespace Go.Ab
open Go
set_option maxRecDepth 100000
theorem loop_all {σ τ:Type} {step:σ→Option (σ⊕τ)} (st:Nat→σ) (n:Nat) (y:τ) (h:∀ i,i<n→step (st i)=some (.inl (st (i+1)))) (he:step (st n)=some (.inr y)):loopW step (st 0)=some y:=by
 have:=loopW_all (step:=step) st n (fun _=>true) y y (fun i hi=>by rw [h i hi];rfl) he n 0 (by omega)
 rw [this,allT];rfl
theorem notesOk_same {l:List PV} (h:NotesOk l):F58 0 l l=some true:=notes_sameR l (by have:=h.1;omega) h.2
theorem fieldOk_same {v:PV} (h:FieldOk v):F27 0 v v=some true:=fieldSame_ok h.1 (by have:=h.2;omega)
theorem texts_self (l:List PV) (hl:l.length≤100000):F47 0 l l=some true:=by
 unfold F47
 simp only [bne_self_eq_false,cond_false,loopQ0]
 rw [show (0:Int)=((0:Nat):Int) from rfl,loop_all (fun i=>(l,l,((i:Nat):Int))) l.length (.inr ()) (fun i hi=>by
  simp only [S47_5step,S47_5,declt,hi,decide_true,cond_true,inRange_nat,Int.toNat_natCast,beq_self_eq_true,Bool.not_true,cond_false,wadd' (show i≤9223372036854775000 by omega)])
  (by simp only [S47_5step,S47_5,declt,Nat.lt_irrefl,decide_false,cond_false])]
 rfl
theorem spans_self (l:List PV) (hl:l.length≤100000):F228 0 l l=some true:=by
 unfold F228
 simp only [bne_self_eq_false,cond_false,loopQ0]
 rw [show (0:Int)=((0:Nat):Int) from rfl,loop_all (fun i=>(l,l,((i:Nat):Int))) l.length (.inr ()) (fun i hi=>by
  simp only [S228_5step,S228_5,declt,hi,decide_true,cond_true,inRange_nat,Int.toNat_natCast,bne_self_eq_false,Bool.not_false,imp,cond_false,wadd' (show i≤9223372036854775000 by omega)])
  (by simp only [S228_5step,S228_5,declt,Nat.lt_irrefl,decide_false,cond_false])]
 rfl
theorem mess_self {v:PV} (h:MessOk v):F111 0 v v=some true:=by
 obtain ⟨h1,h2,h3,h4,h5⟩:=h
 unfold F111
 simp only [bne_self_eq_false,beq_self_eq_true,Bool.not_true,cond_false,Bool.not_false,cond_true,spans_self _ h3,texts_self _ h4,notesOk_same h5,Option.bind_some,loopQ0]
 have lp:=loop_all (step:=S111_5step 0) (fun i=>((),(),((i:Nat):Int),(v.fld 0).asStr,(v.fld 1).asList,(v.fld 2).asList,(v.fld 3).asList,(v.fld 4).asList,(v.fld 0).asStr,(v.fld 1).asList,(v.fld 2).asList,(v.fld 3).asList,(v.fld 4).asList)) (v.fld 1).asList.length (.inr ((v.fld 0).asStr,(v.fld 1).asList,(v.fld 2).asList,(v.fld 3).asList,(v.fld 4).asList,(v.fld 0).asStr,(v.fld 1).asList,(v.fld 2).asList,(v.fld 3).asList,(v.fld 4).asList)) (fun i hi=>by
  simp only [S111_5step,S111_5,declt,hi,decide_true,cond_true,inRange_nat,Int.toNat_natCast,fieldOk_same (h2 _ (getD_mem hi .bad)),Option.bind_some,Bool.not_true,cond_false,wadd' (show i≤9223372036854775000 by omega)])
  (by simp only [S111_5step,S111_5,declt,Nat.lt_irrefl,decide_false,cond_false])
 have lp:loopW (S111_5step 0) ((),(),(0:Int),(v.fld 0).asStr,(v.fld 1).asList,(v.fld 2).asList,(v.fld 3).asList,(v.fld 4).asList,(v.fld 0).asStr,(v.fld 1).asList,(v.fld 2).asList,(v.fld 3).asList,(v.fld 4).asList)=_:=lp
 rw [lp]
 rfl
theorem enum_self {v:PV} (h:EnumsOk v):F112 0 v v=some true:=by
 obtain ⟨h1,h2,h3,h4⟩:=h
 unfold F112
 simp only [bne_self_eq_false,beq_self_eq_true,Bool.not_true,cond_false,Bool.not_false,cond_true,spans_self _ h3,notesOk_same h4,Option.bind_some,loopQ0]
 have lp:=loop_all (step:=S112_5step 0) (fun i=>((),(),((i:Nat):Int),(v.fld 0).asStr,(v.fld 1).asBool,(v.fld 2).asList,(v.fld 3).asList,(v.fld 4).asList,(v.fld 0).asStr,(v.fld 1).asBool,(v.fld 2).asList,(v.fld 3).asList,(v.fld 4).asList)) (v.fld 2).asList.length (.inr ((v.fld 0).asStr,(v.fld 1).asBool,(v.fld 2).asList,(v.fld 3).asList,(v.fld 4).asList,(v.fld 0).asStr,(v.fld 1).asBool,(v.fld 2).asList,(v.fld 3).asList,(v.fld 4).asList)) (fun i hi=>by
  have hn:NotesOk (((v.fld 2).asList.getD i .bad).fld 2).asList:=h2 _ (getD_mem hi .bad)
  simp only [S112_5step,S112_5,declt,hi,decide_true,cond_true,inRange_nat,Int.toNat_natCast,beq_self_eq_true,bne_self_eq_false,Bool.not_true,Bool.not_false,imp,cond_false,notesOk_same hn,Option.bind_some,wadd' (show i≤9223372036854775000 by omega)])
  (by simp only [S112_5step,S112_5,declt,Nat.lt_irrefl,decide_false,cond_false])
 have lp:loopW (S112_5step 0) ((),(),(0:Int),(v.fld 0).asStr,(v.fld 1).asBool,(v.fld 2).asList,(v.fld 3).asList,(v.fld 4).asList,(v.fld 0).asStr,(v.fld 1).asBool,(v.fld 2).asList,(v.fld 3).asList,(v.fld 4).asList)=_:=lp
 rw [lp]
 rfl
theorem serv_self {v:PV} (h:ServOk v):F113 0 v v=some true:=by
 obtain ⟨h1,h2,h3⟩:=h
 unfold F113
 simp only [bne_self_eq_false,beq_self_eq_true,Bool.not_true,cond_false,Bool.not_false,cond_true,notesOk_same h3,Option.bind_some,loopQ0]
 have lp:=loop_all (step:=S113_5step 0) (fun i=>((),(),((i:Nat):Int),(v.fld 0).asStr,(v.fld 1).asList,(v.fld 2).asList,(v.fld 0).asStr,(v.fld 1).asList,(v.fld 2).asList)) (v.fld 1).asList.length (.inr ((v.fld 0).asStr,(v.fld 1).asList,(v.fld 2).asList,(v.fld 0).asStr,(v.fld 1).asList,(v.fld 2).asList)) (fun i hi=>by
  have hn:NotesOk (((v.fld 1).asList.getD i .bad).fld 4).asList:=h2 _ (getD_mem hi .bad)
  simp only [S113_5step,S113_5,declt,hi,decide_true,cond_true,inRange_nat,Int.toNat_natCast,beq_self_eq_true,bne_self_eq_false,Bool.not_true,Bool.not_false,imp,cond_false,notesOk_same hn,Option.bind_some,wadd' (show i≤9223372036854775000 by omega)])
  (by simp only [S113_5step,S113_5,declt,Nat.lt_irrefl,decide_false,cond_false])
 have lp:loopW (S113_5step 0) ((),(),(0:Int),(v.fld 0).asStr,(v.fld 1).asList,(v.fld 2).asList,(v.fld 0).asStr,(v.fld 1).asList,(v.fld 2).asList)=_:=lp
 rw [lp]
 rfl
theorem defs_self (ms es ss:List PV) (h1:ms.length≤100000) (h2:es.length≤100000) (h3:ss.length≤100000) (o1:∀ x,x∈ms→MessOk x) (o2:∀ x,x∈es→EnumsOk x) (o3:∀ x,x∈ss→ServOk x):
 F48 0 (PV.agg [PV.slice ms,PV.slice es,PV.slice ss]) (PV.agg [PV.slice ms,PV.slice es,PV.slice ss])=some true:=by
 obtain ⟨d,hd⟩:∃ d,d=PV.agg [PV.slice ms,PV.slice es,PV.slice ss]:=⟨_,rfl⟩
 have e0:(d.fld 0).asList=ms:=by rw [hd];rfl
 have e1:(d.fld 1).asList=es:=by rw [hd];rfl
 have e2:(d.fld 2).asList=ss:=by rw [hd];rfl
 rw [←hd]
 have lp1:=loop_all (step:=S48_5step 0) (fun i=>((),(),((i:Nat):Int),d,d)) ms.length (.inr ((),(),d,d)) (fun i hi=>by
  simp only [S48_5step,S48_5,e0,declt,hi,decide_true,cond_true,inRange_nat,Int.toNat_natCast,mess_self (o1 _ (getD_mem hi .bad)),Option.bind_some,Bool.not_true,cond_false,wadd' (show i≤9223372036854775000 by omega)])
  (by simp only [S48_5step,S48_5,e0,declt,Nat.lt_irrefl,decide_false,cond_false])
 have lp2:=loop_all (step:=S48_10step 0) (fun i=>((),(),((i:Nat):Int),d,d)) es.length (.inr ((),(),d,d)) (fun i hi=>by
  simp only [S48_10step,S48_10,e1,declt,hi,decide_true,cond_true,inRange_nat,Int.toNat_natCast,enum_self (o2 _ (getD_mem hi .bad)),Option.bind_some,Bool.not_true,cond_false,wadd' (show i≤9223372036854775000 by omega)])
  (by simp only [S48_10step,S48_10,e1,declt,Nat.lt_irrefl,decide_false,cond_false])
 have lp3:=loop_all (step:=S48_15step 0) (fun i=>((),(),((i:Nat):Int),d,d)) ss.length (.inr (d,d)) (fun i hi=>by
  simp only [S48_15step,S48_15,e2,declt,hi,decide_true,cond_true,inRange_nat,Int.toNat_natCast,serv_self (o3 _ (getD_mem hi .bad)),Option.bind_some,Bool.not_true,cond_false,wadd' (show i≤9223372036854775000 by omega)])
  (by simp only [S48_15step,S48_15,e2,declt,Nat.lt_irrefl,decide_false,cond_false])
 have lp1:loopW (S48_5step 0) ((),(),(0:Int),d,d)=_:=lp1
 have lp2:loopW (S48_10step 0) ((),(),(0:Int),d,d)=_:=lp2
 have lp3:loopW (S48_15step 0) ((),(),(0:Int),d,d)=_:=lp3
 unfold F48
 simp only [bne_self_eq_false,cond_false,loopQ0,lp1,lp2,lp3,Option.bind_some,sumE_inr]
theorem file_self {v:PV} (h:FileOk2 v):F17 0 v v=some true:=by
 obtain ⟨h1,h2,h3,h4,o1,o2,o3⟩:=h
 unfold F17
 simp only [beq_self_eq_true,cond_true,texts_self _ h1,Option.bind_some,defs_self _ _ _ h2 h3 h4 o1 o2 o3]
end Go.Ab
namespace Go.Ab
open Go
set_option maxRecDepth 100000
noncomputable section
def scanG:Nat→Nat→List UInt8→List (Tk×Nat)⊕(Nat×Int)
 | 0,_,_=>.inl []
 | f+1,line,s=>
  match s.drop (skipS false s) with
  | []=>.inl []
  | c::r=>match readS (c::r) with
   | .inr e=>.inr (line+cnt10 (s.take (skipS false s)),e)
   | .inl (k,n)=>match scanG f (line+cnt10 (s.take (skipS false s))+cnt10 ((c::r).take n)) ((c::r).drop n) with
    | .inl l=>.inl ((k,line+cnt10 (s.take (skipS false s)))::l)
    | .inr p=>.inr p
def vTk (p:Tk×Nat):PV:=tokV p.1 p.2
theorem scanF_G:∀ (f line:Nat) (s:List UInt8) (acc:List PV),scanF f line s acc=match scanG f line s with | .inl l=>.inl (acc++l.map vTk) | .inr p=>.inr p:=by
 intro f
 induction f with
 | zero=>intro line s acc;simp [scanF,scanG]
 | succ f ih=>
  intro line s acc
  unfold scanF scanG
  cases hd:s.drop (skipS false s) with
  | nil=>simp
  | cons c r=>
   simp only
   cases hr:readS (c::r) with
   | inr e=>rfl
   | inl kn=>
    obtain ⟨k,n⟩:=kn
    simp only
    rw [ih]
    cases scanG f (line+cnt10 (s.take (skipS false s))+cnt10 ((c::r).take n)) ((c::r).drop n) with
    | inl l=>simp [vTk]
    | inr p=>rfl
theorem scanG_ok:∀ (f line:Nat) (s:List UInt8),s.length≤1048576→(∀ l,scanG f line s=.inl l→l.length≤s.length∧∀ p,p∈l→WfTk p.1∧p.1.s.length≤s.length∧line≤p.2∧p.2≤line+s.length)∧(∀ n e,scanG f line s=.inr (n,e)→e≠0∧line≤n∧n≤line+s.length):=by
 intro f
 induction f with
 | zero=>intro line s _;exact ⟨fun l h=>(by cases h;exact ⟨Nat.zero_le _,fun p hp=>by cases hp⟩),fun n e h=>by cases h⟩
 | succ f ih=>
  intro line s hs
  unfold scanG
  have hsk:=skipS_le s false
  have hc:=cnt_le (s.take (skipS false s))
  rw [List.length_take] at hc
  cases hd:s.drop (skipS false s) with
  | nil=>exact ⟨fun l h=>(by cases h;exact ⟨Nat.zero_le _,fun p hp=>by cases hp⟩),fun n e h=>by cases h⟩
  | cons c r=>
   have hlen:(c::r).length=s.length-skipS false s:=by rw [←hd,List.length_drop]
   have hstop:=skipS_stop s false c r hd
   simp only
   cases hr:readS (c::r) with
   | inr e=>
    have hx:=readS_eq c r (by omega) hstop.1 hstop.2
    rw [hr] at hx
    refine ⟨fun l h=>(by cases h),fun n e' h=>?_⟩
    cases h
    cases hx with
    | er _ v m he _=>exact ⟨he,by omega,by omega⟩
   | inl kn=>
    obtain ⟨k,n⟩:=kn
    obtain ⟨hn1,hn2,hwf,hks⟩:=readS_wf (by omega) hr
    have hc2:=cnt_le ((c::r).take n)
    rw [List.length_take] at hc2
    have hrest:((c::r).drop n).length=s.length-skipS false s-n:=by rw [List.length_drop,hlen]
    obtain ⟨g1,g2⟩:=ih (line+cnt10 (s.take (skipS false s))+cnt10 ((c::r).take n)) ((c::r).drop n) (by omega)
    simp only
    cases hg:scanG f (line+cnt10 (s.take (skipS false s))+cnt10 ((c::r).take n)) ((c::r).drop n) with
    | inl l=>
     refine ⟨fun l' h=>?_,fun n e h=>by cases h⟩
     cases h
     obtain ⟨q1,q2⟩:=g1 l hg
     refine ⟨by simp only [List.length_cons];omega,fun p hp=>?_⟩
     rcases List.mem_cons.1 hp with rfl | hp
     ·exact ⟨hwf,by show k.s.length≤_;omega,by show line≤line+_;omega,by show line+_≤_;omega⟩
     ·obtain ⟨a1,a2,a3,a4⟩:=q2 p hp
      exact ⟨a1,by omega,by omega,by omega⟩
    | inr p=>
     obtain ⟨m,e⟩:=p
     refine ⟨fun l h=>(by cases h),fun n' e' h=>?_⟩
     cases h
     obtain ⟨a1,a2,a3⟩:=g2 m e hg
     exact ⟨a1,by omega,by omega⟩
theorem scanG_fuel:∀ (f g line:Nat) (s:List UInt8),s.length≤1048576→s.length<f→s.length<g→scanG f line s=scanG g line s:=by
 intro f
 induction f with
 | zero=>intro g line s _ h;omega
 | succ f ih=>
  intro g line s hs h1 h2
  obtain ⟨g,rfl⟩:∃ m,g=m+1:=⟨g-1,by omega⟩
  unfold scanG
  have hsk:=skipS_le s false
  cases hd:s.drop (skipS false s) with
  | nil=>rfl
  | cons c r=>
   have hlen:(c::r).length=s.length-skipS false s:=by rw [←hd,List.length_drop]
   simp only
   cases hr:readS (c::r) with
   | inr e=>rfl
   | inl kn=>
    obtain ⟨k,n⟩:=kn
    obtain ⟨hn1,hn2,_,_⟩:=readS_wf (by omega) hr
    have hrest:((c::r).drop n).length=s.length-skipS false s-n:=by rw [List.length_drop,hlen]
    simp only
    rw [ih g _ _ (by omega) (by omega) (by omega)]
theorem scanG_shift (d:Nat):∀ (f line:Nat) (s:List UInt8),scanG f (line+d) s=match scanG f line s with | .inl l=>.inl (l.map fun p=>(p.1,p.2+d)) | .inr (n,e)=>.inr (n+d,e):=by
 intro f
 induction f with
 | zero=>intro line s;rfl
 | succ f ih=>
  intro line s
  unfold scanG
  cases s.drop (skipS false s) with
  | nil=>rfl
  | cons c r=>
   simp only
   cases readS (c::r) with
   | inr e=>simp only;rw [show line+d+cnt10 (s.take (skipS false s))=line+cnt10 (s.take (skipS false s))+d by omega]
   | inl kn=>
    obtain ⟨k,n⟩:=kn
    simp only
    rw [show line+d+cnt10 (s.take (skipS false s))+cnt10 ((c::r).take n)=line+cnt10 (s.take (skipS false s))+cnt10 ((c::r).take n)+d by omega,ih]
    cases scanG f (line+cnt10 (s.take (skipS false s))+cnt10 ((c::r).take n)) ((c::r).drop n) with
    | inl l=>simp only [List.map_cons];rw [show line+d+cnt10 (s.take (skipS false s))=line+cnt10 (s.take (skipS false s))+d by omega]
    | inr p=>rfl
theorem scanG_nl (f line:Nat) (s:List UInt8):scanG f line (10::s)=scanG f (line+1) s:=by
 cases f with
 | zero=>rfl
 | succ f=>
  unfold scanG
  have e1:skipS false (10::s)=skipS false s+1:=rfl
  have e2:cnt10 ((10::s).take (skipS false s+1))=cnt10 (s.take (skipS false s))+1:=by
   rw [List.take_succ_cons];unfold cnt10;rw [List.count_cons_self]
  rw [e1,List.drop_succ_cons,e2]
  have e3:line+(cnt10 (s.take (skipS false s))+1)=line+1+cnt10 (s.take (skipS false s)):=by omega
  rw [e3]
theorem scanG_nls (f:Nat):∀ (d line:Nat) (s:List UInt8),scanG f line (List.replicate d 10++s)=scanG f (line+d) s:=by
 intro d
 induction d with
 | zero=>intro line s;rfl
 | succ d ih=>intro line s;rw [List.replicate_succ,List.cons_append,scanG_nl,ih,show line+1+d=line+(d+1) by omega]
theorem scanO_G (s:List UInt8):scanO s=match scanG (s.length+1) 1 s with | .inl l=>(l.map vTk,0,0) | .inr (n,e)=>([],(n:Int),e):=by
 unfold scanO
 rw [scanF_G]
 cases scanG (s.length+1) 1 s<;>rfl
theorem ts_v (l:List (Tk×Nat)):ts (l.map vTk) 0=l.map (·.1):=by
 unfold ts
 rw [List.drop_zero,List.map_map]
 rfl
theorem wf_num {k:Tk} (h:WfTk k):-9223372036854775808≤k.n∧k.n≤9223372036854775807:=by
 rcases h with ⟨_,_,h⟩ | ⟨_,_,u,hu,h⟩ | ⟨_,h⟩ | ⟨_,h,_⟩
 ·rw [h];decide
 ·rw [h,IntKind.wrap_i64];omega
 ·rw [h];decide
 ·rw [h];decide
theorem tnum_v {l:List (Tk×Nat)} {n:Nat} (hn:n≤16384) (hl:l.length≤n) (h:∀ p,p∈l→WfTk p.1∧p.1.s.length≤n):TNum (l.map vTk):=
 { len:=by rw [List.length_map];omega
   txt:=fun x hx=>by
    obtain ⟨p,hp,rfl⟩:=List.mem_map.1 hx
    have:=(h p hp).2
    show p.1.s.length≤_
    omega
   num:=fun x hx=>by
    obtain ⟨p,hp,rfl⟩:=List.mem_map.1 hx
    exact wf_num (h p hp).1
   sml:=fun x hx=>by
    obtain ⟨p,hp,rfl⟩:=List.mem_map.1 hx
    have:=(h p hp).2
    show p.1.s.length≤_
    omega }
theorem file_cases (po:ParOk) (name:List UInt8) (l:List (Tk×Nat)) (ht:TNum (l.map vTk)) (h5:l.length≤100000):
 (∃ v r,fileS parV kindOf name (l.map (·.1))=.ok v r∧(v.fld 0).asStr=name)∨∃ r e,fileS parV kindOf name (l.map (·.1))=.er r e∧e≠0∧0<l.length:=by
 rw [←ts_v,file_parts]
 rcases file_par po ht (by rw [List.length_map];exact h5) name with ⟨v,j,hj,_,hx,hy⟩ | ⟨j,e,z,hj,he,hx,hy⟩
 ·rw [hx];exact Or.inl ⟨_,_,rfl,rfl⟩
 ·rw [hx]
  refine Or.inr ⟨_,e,rfl,he,?_⟩
  rcases Nat.eq_zero_or_pos l.length with h | h
  ·have:l=[]:=List.eq_nil_of_length_eq_zero h
   subst this
   obtain ⟨v,hv⟩:=parts_nil
   have hx:partsS []=_:=hx
   rw [hv] at hx;cases hx
  ·exact h
theorem lineAt_v (l:List (Tk×Nat)) (j:Nat) (hl:0<l.length):∃ p,p∈l∧∀ d:Nat,lineAt ((l.map fun p=>(p.1,p.2+d)).map vTk) j=(p.2:Int)+(d:Int):=by
 obtain ⟨k,hk⟩:∃ k,(if l.length-1<j then l.length-1 else j)=k:=⟨_,rfl⟩
 have hkl:k<l.length:=by rw [←hk];split<;>omega
 refine ⟨l[k],List.getElem_mem _,fun d=>?_⟩
 unfold lineAt
 simp only [List.length_map,hk]
 rw [List.getD_eq_getElem?_getD,List.getElem?_map,List.getElem?_map,List.getElem?_eq_getElem hkl]
 show (((l[k].2+d:Nat):Nat):Int)=_
 omega
theorem nl_loop (a0 a1:List UInt8) (d:Nat) (hd:d≤200):∀ (m i:Nat),d-i≤m→i≤d→loopW (S6_6step 0) (a0,a1,(d:Int),List.replicate i 10,(i:Int))=some (a0,a1,(d:Int),List.replicate d 10):=by
 intro m
 induction m with
 | zero=>
  intro i hm hi
  have:i=d:=by omega
  subst this
  have e:decide ((i:Int)<(i:Int))=false:=decide_eq_false (by omega)
  exact loopW_end (by simp only [S6_6step,S6_6,e,cond_false])
 | succ m ih=>
  intro i hm hi
  by_cases h:i<d
  ·have e:decide ((i:Int)<(d:Int))=true:=decide_eq_true (by omega)
   have l1:decide ((List.replicate i (10:UInt8)).length+([10]:List UInt8).length≤strMax)=true:=leStr (by simp;omega)
   rw [loopW_go (x1:=(a0,a1,(d:Int),List.replicate (i+1) 10,((i+1:Nat):Int)))]
   ·exact ih (i+1) (by omega) (by omega)
   ·simp only [S6_6step,S6_6,e,cond_true,l1,wadd' (show i≤9223372036854775000 by omega)]
    rw [show List.replicate (i+1) (10:UInt8)=List.replicate i 10++[10] from List.replicate_succ']
  ·have:i=d:=by omega
   subst this
   have e:decide ((i:Int)<(i:Int))=false:=decide_eq_false (by omega)
   exact loopW_end (by simp only [S6_6step,S6_6,e,cond_false])
theorem parse_of (name src:List UInt8) (hl:src.length≤16384):F15 0 name src=some (match scanG (src.length+1) 1 src with | .inl l=>fileO name (l.map vTk) | .inr (n,e)=>(zeroFile,(n:Int),e)):=by
 have hs:=scanO_eq src hl
 obtain ⟨g1,g2⟩:=scanG_ok (src.length+1) 1 src (by omega)
 rw [scanO_G] at hs
 cases h:scanG (src.length+1) 1 src with
 | inl l=>
  rw [h] at hs
  obtain ⟨q1,q2⟩:=g1 l h
  exact parseFile_eq parOk name src _ 0 hs (tnum_v hl q1 fun p hp=>⟨(q2 p hp).1,(q2 p hp).2.1⟩) (by rw [List.length_map];omega)
 | inr p=>
  obtain ⟨n,e⟩:=p
  rw [h] at hs
  have he:=(g2 n e h).1
  unfold F15
  simp only [hs,Option.bind_some,bneI he,cond_true]
  rfl
theorem plain_lines (name src:List UInt8) (k:Int):F6 0 name src k=some true:=by
 unfold F6
 by_cases h1:src.length>6000
 ·rw [decide_eq_true (show (src.length:Int)>6000 by omega)];rfl
 by_cases h2:k<0
 ·rw [decide_eq_false (show ¬(src.length:Int)>6000 by omega),decide_eq_true h2];rfl
 by_cases h3:k>200
 ·rw [decide_eq_false (show ¬(src.length:Int)>6000 by omega),decide_eq_false h2,decide_eq_true h3];rfl
 obtain ⟨d,rfl⟩:∃ d:Nat,k=(d:Int):=⟨k.toNat,by omega⟩
 rw [decide_eq_false (show ¬(src.length:Int)>6000 by omega),decide_eq_false h2,decide_eq_false h3]
 have lp:=nl_loop name src d (by omega) d 0 (by omega) (by omega)
 have lp:loopW (S6_6step 0) (name,src,(d:Int),([]:List UInt8),(0:Int))=some (name,src,(d:Int),List.replicate d 10):=lp
 have hl2:(List.replicate d (10:UInt8)++src).length=d+src.length:=by simp
 have l1:decide ((List.replicate d (10:UInt8)).length+src.length≤strMax)=true:=leStr (by simp;omega)
 have p1:=parse_of name src (by omega)
 have p2:=parse_of name (List.replicate d 10++src) (by omega)
 have hsh:scanG ((List.replicate d (10:UInt8)++src).length+1) 1 (List.replicate d 10++src)=match scanG (src.length+1) 1 src with | .inl l=>.inl (l.map fun p=>(p.1,p.2+d)) | .inr (n,e)=>.inr (n+d,e):=by
  rw [scanG_nls,scanG_fuel _ (src.length+1) _ src (by omega) (by omega) (by omega),scanG_shift]
 rw [hsh] at p2
 obtain ⟨g1,g2⟩:=scanG_ok (src.length+1) 1 src (by omega)
 simp only [cond_false,loopQ0,lp,Option.bind_some,p1,l1,cond_true,p2]
 have zz:=file_self zeroFile_ok
 have fin:∀ (n:Nat) (e:Int),e≠0→1≤n→n≤7000→(bif e==0 then (some true:Option Bool) else (bif (bif (bif e==e then decide ((n:Int)>0) else false) then ((n:Int)+(d:Int))==IntKind.wrap .i64 ((n:Int)+(d:Int)) else false) then F17 0 zeroFile zeroFile else some false))=some true:=fun n e he h1 h2=>by
  rw [beqI he,beq_self_eq_true,decide_eq_true (show (n:Int)>0 by omega),wrap64 (by omega) (by omega),zz]
  simp
 cases h:scanG (src.length+1) 1 src with
 | inr p=>
  obtain ⟨n,e⟩:=p
  obtain ⟨he,hn1,hn2⟩:=g2 n e h
  have w:IntKind.wrap .i64 ((n:Int)+(d:Int))=((n+d:Nat):Int):=by rw [wrap64 (by omega) (by omega)];omega
  have zz2:F17 0 zeroFile (PV.agg [(PV.str ([]:List UInt8)),(PV.str ([]:List UInt8)),(PV.slice []),(PV.slice []),(PV.slice []),(PV.slice [])])=some true:=zz
  simp only [beqI he,cond_false,beq_self_eq_true,decide_eq_true (show (n:Int)>0 by omega),cond_true,w,zz2,Option.bind_some,Lawake09]
 | inl l=>
  obtain ⟨q1,q2⟩:=g1 l h
  have ht:=tnum_v (n:=src.length) (by omega) q1 fun p hp=>⟨(q2 p hp).1,(q2 p hp).2.1⟩
  have ht2:(l.map fun p=>(p.1,p.2+d)).map (·.1)=l.map (·.1):=by rw [List.map_map];rfl
  have ok1:=fileO_ok parOk name (l.map vTk) ht (by rw [List.length_map];omega)
  have zz2:F17 0 zeroFile (PV.agg [(PV.str ([]:List UInt8)),(PV.str ([]:List UInt8)),(PV.slice []),(PV.slice []),(PV.slice []),(PV.slice [])])=some true:=zz
  simp only
  rcases file_cases parOk name l ht (by omega) with ⟨v,r,hf,hnm⟩ | ⟨r,e,hf,he,hl0⟩
  ·have f1:fileO name (l.map vTk)=(v,0,0):=by unfold fileO;rw [ts_v,hf]
   have f2:fileO name ((l.map fun p=>(p.1,p.2+d)).map vTk)=(v,0,0):=by unfold fileO;rw [ts_v,ht2,hf]
   rw [f1] at ok1
   simp only [f1,f2,beq_self_eq_true,cond_true,hnm,file_self ok1,Option.bind_some,Lawake09]
  ·obtain ⟨p,hp,hline⟩:=lineAt_v l (l.length-r.length) hl0
   have hb:=q2 p hp
   have f1:fileO name (l.map vTk)=(zeroFile,(p.2:Int),e):=by
    have h0:=hline 0
    have hid:(l.map fun p:Tk×Nat=>(p.1,p.2+0))=l:=by simp
    rw [hid] at h0
    unfold fileO
    rw [ts_v,hf]
    simp only [List.length_map,h0]
    simp
   have f2:fileO name ((l.map fun p=>(p.1,p.2+d)).map vTk)=(zeroFile,((p.2+d:Nat):Int),e):=by
    unfold fileO
    rw [ts_v,ht2,hf]
    simp only [List.length_map,hline d]
    simp
   have w:IntKind.wrap .i64 ((p.2:Int)+(d:Int))=((p.2+d:Nat):Int):=by rw [wrap64 (by omega) (by omega)];omega
   simp only [f1,f2,beqI he,cond_false,beq_self_eq_true,decide_eq_true (show (p.2:Int)>0 by omega),cond_true,w,zz2,Option.bind_some,Lawake09]
end
end Go.Ab
