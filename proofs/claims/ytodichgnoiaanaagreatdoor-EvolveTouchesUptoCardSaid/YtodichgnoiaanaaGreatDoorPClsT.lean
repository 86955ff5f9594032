/- The program's closure of one name. -/
import Derived.Test.YtodichgnoiaanaaGreatDoorPSetsT
set_option linter.unusedVariables false
set_option linter.unusedSimpArgs false
set_option linter.unnecessarySimpa false
namespace Go.Ab
open Go
set_option maxRecDepth 100000
def Clo (s:PV) (n x:Str):Prop:=(x=n/\(isM s n=true\/isE s n=true))\/∃ y,(y=n\/RP s n y)/\x∈ago s y
theorem a5d {s:PV}{n:Str} (h:isM s n=false):flds s n=[]:=by grind [isM,flds,fndM]
theorem aw3 {s:PV}{n:Str} (h:isM s n=false):ago s n=[]:=by unfold ago asr;rw [a5d h];rfl
theorem bcp {s:PV}{n:Str} (h:isM s n=false):acq s n=[]:=by grind [acq,a5d]
theorem bcq {s:PV}{n x:Str} (h:isM s n=false):¬RP s n x:=λo=>by
 induction o with
 | one H=>grind [bcp]
 | more _ _ z=>exact z
abbrev cloF (s:PV) (m:Str):List Str:=m::ago s m
theorem bau (s:PV) (n:Str):(ago s n).length<=(flds s n).length:=
 Nat.le_trans (agv _) (by rw [ae5];exact atu (Nat.le_refl _))
theorem azc {s:PV} (h:Few s) {v:List Str} (z:v.Nodup) (o:∀ x,x∈v->isM s x=true):(v.flatMap (cloF s)).length<=2097152:=by
 have e:∀ l:List Str,(l.flatMap (cloF s)).length<=l.length+sumS (λn=>(flds s n).length) l:=by
  intro l;induction l with
  | nil=>grind
  | cons x r ih=>grind [bau,List.length_append,List.length_cons,sumS]
 have J:=e v;have H:=ak1 (λn=>(flds s n).length) z (l:=(msS s).map nmP) (λx I=>arw (o x I));rw [ald h.uq] at H;have M:=h.all;have O:=ajr h.small z o;have Z:=h.small.ms;omega
theorem atw (f:Str->List Str) {a b:List Str} (h:a.Perm b):(a.flatMap f).Perm (b.flatMap f):=List.Perm.flatMap_right f h
theorem a8v {m:List Str}{i:Nat}{e:PV×PV} (h:(ac5 m)[i]?=some e):∃ k,m[i]?=some k/\e=(.str k,.bool true):=by grind [ac5,Option.map_eq_some_iff]
theorem awq:∀ (m:List Str) (i:Nat),(ac5 m).eraseIdx i=ac5 (m.eraseIdx i):=by
 intro m;induction m with
 | nil=>intro i;rfl
 | cons x r h=>
  intro i;cases i with
  | zero=>rfl
  | succ i=>grind [ac5]
theorem azx {k:Str}:∀ {m:List Str}{i:Nat},m[i]?=some k->(k::m.eraseIdx i).Perm m:=by
 intro m;induction m with
 | nil=>grind
 | cons x r o=>
  intro i h;cases i with
  | zero=>grind
  | succ i=>grind
theorem a7s {s w:PV} (h:Few s) (hw:Web s w) {A:List PV}{i j:Int}{I:PV}{z v:List Str}{P:Unit×Unit×List PV×Int×Int×PV×PV×List PV×PV×List (PV×PV)->Prop}
 (hn:v.Nodup) (hm:∀ x,x∈v->isM s x=true) (hc:z.length<=2000000) (hP:∀ o:List Str,o.Perm v->P ((),(),A,i,j,s,w,strs (z++o.flatMap (cloF s)),I,[])):
 ∀ (n:Nat) (m o:List Str),m.length=n->(o++m).Perm v->mend S12_13rem (S12_13go 0) (S12_13fin 0) n ((),(),A,i,j,(),s,w,strs (z++o.flatMap (cloF s)),I,ac5 m) P:=by
 intro n
 induction n with
 | zero=>
  intro m o Z hp
  have:m=[]:=List.length_eq_zero_iff.1 Z
  subst this
  rw [List.append_nil] at hp
  exact ⟨rfl,_,rfl,hP o hp⟩
 | succ n ih=>
  intro m o Z hp
  refine ⟨by show (ac5 m).length=n+1;simp [ac5,Z],λidx e M=>Or.inl ?_⟩
  have M:(ac5 m)[idx]?=some e:=M
  obtain ⟨k,hk,rfl⟩:=a8v M
  have aa:=azx hk
  have J:((o++[k])++m.eraseIdx idx).Perm v:=by grind
  have ab:((o++[k]).flatMap (cloF s)).length<=2097152:=by have h1:=azc h hn hm;have h2:=(atw (cloF s) J).length_eq;grind
  have hx:(z++(o++[k]).flatMap (cloF s))=z++o.flatMap (cloF s)++[k]++ago s k:=by simp_all
  have H:(z++(o++[k]).flatMap (cloF s)).length<=5000000:=by grind
  rw [hx,Al,Al,List.length_singleton] at H
  have d1:decide ((strs (z++o.flatMap (cloF s))).length+[PV.str k].length<=aae)=true:=Ag (by grind [aae,List.length_map,List.length_singleton])
  have d2:decide ((strs (z++o.flatMap (cloF s))++[PV.str k]).length+(strs (ago s k)).length<=aae)=true:=Ag (by grind [aae,List.length_append,List.length_map,List.length_singleton])
  have e5:strs (z++o.flatMap (cloF s))++[PV.str k]++strs (ago s k)=strs (z++(o++[k]).flatMap (cloF s)):=by rw [hx];simp [strs]
  have O:S12_13go 0 (PV.str k,PV.bool true) ((S12_13rem ((),(),A,i,j,(),s,w,strs (z++o.flatMap (cloF s)),I,ac5 m)).eraseIdx idx) ((),(),A,i,j,(),s,w,strs (z++o.flatMap (cloF s)),I,ac5 m)=some (.inl ((),(),A,i,j,(),s,w,strs (z++(o++[k]).flatMap (cloF s)),I,ac5 (m.eraseIdx idx))):=by have e6:(S12_13rem ((),(),A,i,j,(),s,w,strs (z++o.flatMap (cloF s)),I,ac5 m)).eraseIdx idx=ac5 (m.eraseIdx idx):=awq m idx;rw [e6];have a0:((PV.str k,PV.bool true):PV×PV).1.asStr=k:=rfl;simp only [S12_13go,S12_13,a0,d1,Af,a6w h.small hw,Aa,d2,e5]
  exact ⟨_,O,ih (m.eraseIdx idx) (o++[k]) (by have:=aa.length_eq;grind) J⟩
theorem aqc {s:PV} (h:Few s) (n:Str):∃ ys:List Str,F12 0 s [PV.str n]=some ((),strs ys)/\abm ys/\(∀ x,x∈ys ↔ Clo s n x)/\ys.length<=5000000:=by
 obtain ⟨w,h1,O⟩:=bay h.small;have c1:decide ((0:Int)<(([PV.str n]:List PV).length:Int))=true:=rfl;have c2:aab (0:Int) ([PV.str n]:List PV).length=true:=rfl;have c3:decide (IntKind.wrap .i64 ((0:Int)+(1:Int))<(([PV.str n]:List PV).length:Int))=false:=by have:=aat 0 (by omega);grind
 have g:(([PV.str n]:List PV).getD (0:Int).toNat .bad).asStr=n:=rfl;have hh:PV.mhas ((w.fld 0).asMap) (.str n)=isM s n:=by unfold PV.mhas;rw [O.m];rfl
 have a1:decide (([]:List PV).length+[PV.str n].length<=aae)=true:=rfl;have done:∀ l:List Str,l.length<=5000000->(afw 0 (strs l)).bind (λy=>(ac0 0 y).bind λz=>some ((),z.2))=some ((),strs (Lib.compact (adk l))):=λl hl=>by rw [ao6 (by omega),Aa,aho (by rw [ae5];omega),Aa]
 have fin:∀ l:List Str,l.length<=5000000->(∀ x,x∈l ↔ Clo s n x)->∃ ys:List Str,some ((),strs (Lib.compact (adk l)))=some ((),strs ys)/\abm ys/\(∀ x,x∈ys ↔ Clo s n x)/\ys.length<=5000000:=λl hl H=>
  ⟨_,rfl,(adp l).1,λx=>((adp l).2 x).trans (H x),Nat.le_trans (agv _) (by grind [ae5])⟩
 unfold F12;rw [h1,Aa];simp only [c1,c2,c3,Af,Ah,g,hh,O.e];cases hM:isM s n with
 | false=>
  simp only [Av,Af];cases hE:isE s n with
  | true=>
   simp only [Af,a1];have:=done [n] (by simp);have Z:(afw 0 ([]++[PV.str n])).bind (λy=>(ac0 0 y).bind λz=>some ((),z.2))=some ((),strs (Lib.compact (adk [n]))):=this;rw [Z];refine fin [n] (by simp) λx=>?_;unfold Clo;rw [List.mem_singleton];refine ⟨λe=>Or.inl ⟨e,Or.inr hE⟩,λH=>?_⟩;rcases H with H | ⟨y,J,H⟩
   ·exact H.1
   ·rcases J with rfl | J;all_goals grind [aw3,absurd,bcq]
  | false=>
   simp only [Ah];have:=done [] (by simp);have Z:(afw 0 []).bind (λy=>(ac0 0 y).bind λz=>some ((),z.2))=some ((),strs (Lib.compact (adk []))):=this;rw [Z];refine fin [] (by simp) λx=>?_;unfold Clo;refine ⟨λe=>(by cases e),λH=>?_⟩;rcases H with ⟨_,H⟩ | ⟨y,J,H⟩
   ·all_goals grind
   ·rcases J with rfl | J;all_goals grind [aw3,absurd,bcq]
 | true=>
  obtain ⟨v,hv,hn,hr,ad⟩:=a9p h O n;have M:∀ x,x∈v->isM s x=true:=λx H=>by
   cases (hr x).1 H with
   | one H=>exact akm H
   | more _ H=>exact akm H
  have ab:=a6v h.small n;have d2:decide ((([]:List PV)++[PV.str n]).length+(strs (ago s n)).length<=aae)=true:=Ag (by grind [aae,List.length_map,List.length_singleton]);simp only [Ay,Ah,a1,Af,a6w h.small O,Aa,d2,hv];have I:∀ o:List Str,o.Perm v->((n::ago s n)++o.flatMap (cloF s)).length<=5000000:=λo ho=>by have h1:=azc h hn M;grind
  have e7:([]++[PV.str n]++strs (ago s n):List PV)=strs ((n::ago s n)++([]:List Str).flatMap (cloF s)):=by simp [strs]
  rw [e7];have hL:=I v (.refl _);refine ⟨Lib.compact (adk ((n::ago s n)++v.flatMap (cloF s))),a9c _ ?_,(adp _).1,λx=>((adp _).2 x).trans ?_,Nat.le_trans (agv _) (by grind [ae5])⟩
  ·show mend _ _ _ (ac5 v).length _ _;have aa:(ac5 v).length=v.length:=by simp [ac5]
   rw [aa];exact a7s h O hn M (by grind) (λo ho=>by dsimp only;rw [c3,Ah,done _ (I o ho),arx (List.Perm.append_left _ (atw (cloF s) ho))]) v.length v [] rfl (by simp)
  ·rw [Bm,List.mem_cons,List.mem_flatMap];unfold Clo;constructor
   ·rintro ((rfl | H) | ⟨m,hm,H⟩)
    ·grind
    ·grind
    ·rcases List.mem_cons.1 H with rfl | H
     ·cases (hr _).1 hm with
      | one H=>exact Or.inr ⟨n,Or.inl rfl,aul H⟩
      | more J H=>grind [aul]
     all_goals grind
   ·rintro (⟨rfl,_⟩ | ⟨y,rfl | J,H⟩);all_goals grind
end Go.Ab
namespace Go.Ab
open Go
set_option maxRecDepth 100000
def insW (l:List Str) (x:Str):List Str:=if x∈l then l else l.takeWhile (λy=>Op.bytesLess y x)++x::l.drop (l.takeWhile (λy=>Op.bytesLess y x)).length
theorem agw (l:List Str) (p:Str->Bool):l.takeWhile p++l.drop (l.takeWhile p).length=l:=by
 induction l with
 | nil=>rfl
 | cons y r o=>
  cases h:p y with
  | true=>simp_all
  | false=>simp [h]
theorem ayo (l:List Str) (x y:Str):y∈insW l x ↔ y=x\/y∈l:=by
 unfold insW;by_cases h:x∈l
 ·grind
 ·rw [if_neg h];grind [agw,Op.bytesLess]
theorem awo {l:List Str}{x:Str} (h:abm l):abm (insW l x):=by
 unfold insW;by_cases I:x∈l
 ·grind
 ·rw [if_neg I];induction l with
  | nil=>simp_all
  | cons y r O=>
   have h':=List.pairwise_cons.1 h;have H:x≠y:=λe=>I (by grind);have J:x∉r:=λe=>I (List.mem_cons_of_mem _ e);cases o:Op.bytesLess y x with
   | true=>
    have e:(y::r).takeWhile (λz=>Op.bytesLess z x)=y::r.takeWhile (λz=>Op.bytesLess z x):=by simp [o]
    rw [e];simp only [Ax,List.drop_succ_cons,Bl];have O:=O h'.2 J;refine List.pairwise_cons.2 ⟨λz Z=>?_,O⟩;have M:z∈insW r x:=by unfold insW;grind
    rcases (ayo r x z).1 M with rfl | Z
    ·rw [Go.Proofs.bytesLess_eq] at o;grind
    grind
   | false=>
    have e:(y::r).takeWhile (λz=>Op.bytesLess z x)=[]:=by simp [o]
    rw [e];simp only [A6,Aw,Ap];rw [Go.Proofs.bytesLess_eq] at o;have aa:x<y:=ava (of_decide_eq_false o) H;refine List.pairwise_cons.2 ⟨λz Z=>?_,h⟩;grind
theorem akd (l:List Str) (x:Str):(insW l x).length<=l.length+1/\l.length<=(insW l x).length:=by
 unfold insW;by_cases h:x∈l
 ·grind
 ·rw [if_neg h];have:=congrArg List.length (agw l (λy=>Op.bytesLess y x));grind
theorem bdu {l:List Str} (h:l.length<=1000000000) (x:Str):F100 0 (strs l) x=some (decide (x∈l)):=by
 have q:=akg (step:=S100_3step 0) (λi=>(strs l,x,((i:Nat):Int))) (strs l).length (λi=>l.getD i []==x) (λ_=>.inl true) (.inr ()) (λi o=>by
  have Z:i<l.length:=by simpa using o
  simp only [S100_3step,S100_3,decL i _ o,Af,aaa,Ag o,Ai,aat i (show i<=1000000000000 by omega),afl o];grind) (by
  simp only [S100_3step,S100_3,decN,Ah]) _ 0 (Nat.zero_add _)
 have J:aaf 0 (S100_3step 0) (strs l,x,(0:Int))=_:=q;unfold F100;rw [J,Aa];cases z:fstI (λi=>l.getD i []==x) 0 (strs l).length with
 | some j=>
  obtain ⟨_,M,O⟩:=a3d z;have H:j<l.length:=by grind
  have:x∈l:=by grind
  rw [Ag this];rfl
 | none=>
  have:x∉l:=λI=>by obtain ⟨j,H,rfl⟩:=List.mem_iff_getElem.1 I;have:=a3c z j (Nat.zero_le _) (by grind);grind
  rw [An this];rfl
theorem a6z {l:List Str}{x:Str} (h:l.length<=90000000):∀ (b a:List Str),l=a++b->aa3 (S47_6step 0) (strs l,x,strs a,(a.length:Int))=some (strs l,x,strs (a++b.takeWhile λy=>Op.bytesLess y x)):=by
 intro b;induction b with
 | nil=>
  intro a e;have H:l.length=a.length:=by rw [e];simp
  refine aai ?_;have:decide ((a.length:Int)<((strs l).length:Int))=false:=An (by grind);simp only [S47_6step,S47_6,this,a3k,Af,Ah,List.takeWhile_nil,List.append_nil]
 | cons y r O=>
  intro a e;have H:l.length=a.length+(r.length+1):=by rw [e];simp
  have z:a.length<(strs l).length:=by grind
  have I:((strs l).getD a.length .bad).asStr=y:=by rw [afl z,e,List.getD_eq_getElem?_getD,A7 (Nat.le_refl _)];simp
  have d:decide ((a.length:Int)<((strs l).length:Int))=true:=decL _ _ z;cases o:Op.bytesLess y x with
  | true=>
   have M:S47_6step 0 (strs l,x,strs a,(a.length:Int))=some (.inl (strs l,x,strs (a++[y]),((a++[y]).length:Int))):=by simp only [S47_6step,S47_6,d,arp,aaa,Ag z,Af,Ai,I,o];have J:decide ((strs a).length+[PV.str y].length<=aae)=true:=al6 (by grind);rw [J,Af,aat a.length (by omega)];simp [strs]
   rw [aao M,O (a++[y]) (by rw [e];simp)];simp [o]
  | false=>refine aai ?_;simp only [S47_6step,S47_6,d,arp,aaa,Ag z,Af,Ai,I,o,Ah];simp [o]
theorem al1 {l:List Str} (h:l.length<=90000000) (x:Str):F47 0 (strs l) x=some (strs (insW l x)):=by
 unfold F47;rw [bdu (by omega),Aa];unfold insW;by_cases o:x∈l
 ·rw [Ag o,Af,if_pos o]
 ·rw [An o,Ah,if_neg o];have q:=a6z (x:=x) h l [] rfl;have H:aaf 0 (S47_6step 0) (strs l,x,[],(0:Int))=some (strs l,x,strs (l.takeWhile λy=>Op.bytesLess y x)):=q;rw [H,Aa];dsimp only;have e:=agw l (λy=>Op.bytesLess y x);generalize l.takeWhile (λy=>Op.bytesLess y x)=a at e ⊢;have z:a.length<=l.length:=by grind
  have I:decide ((strs a).length+[PV.str x].length<=aae)=true:=al6 (by grind);have J:decide (0<=(((strs a).length:Nat):Int)/\(((strs a).length:Nat):Int)<=(((strs l).length:Nat):Int)/\(((strs l).length:Nat):Int)<=(((strs l).length:Nat):Int))=true:=Ag (by grind);have O:((strs l).take (((strs l).length:Nat):Int).toNat).drop (((strs a).length:Nat):Int).toNat=strs (l.drop a.length):=by rw [Ai,Ai,List.take_length,List.length_map];simp [strs]
  have M:decide ((strs a++[PV.str x]).length+(strs (l.drop a.length)).length<=aae)=true:=Ag (by grind [aae,List.length_append,List.length_map,List.length_drop,List.length_singleton]);grind
end Go.Ab
namespace Go.Ab
open Go
set_option maxRecDepth 100000
theorem aty (l:List PV) (p:PV->Bool):∀ (k i:Nat),i+k=l.length->(l.drop i).find? p=(fstI (λj=>p (l.getD j .bad)) i k).map λj=>l.getD j .bad:=by
 intro k;induction k with
 | zero=>intro i h;rw [Be (by omega)];rfl
 | succ k o=>grind [abg,bad,fstI]
theorem agc {s:PV} (h:Small s) (n:Str):∃ y,F98 0 s n=some y/\(y.1.fld 1).asList=flds s n/\decide (y.2>=(0:Int))=isM s n/\decide (y.2<(0:Int))=!(isM s n):=by
 have H:=h.ms;have q:=akg (step:=S98_3step 0) (λi=>(n,(),(),((i:Nat):Int),s,(PV.agg [(PV.str ([]:Bo)),(PV.slice []),(PV.slice []),(PV.slice []),(PV.slice [])]))) (msS s).length (λi=>nmP ((msS s).getD i .bad)==n) (λi=>.inl ((),((i:Nat):Int),s,(msS s).getD i .bad)) (.inr ((),s,(PV.agg [(PV.str ([]:Bo)),(PV.slice []),(PV.slice []),(PV.slice []),(PV.slice [])]))) (λi z=>by
  simp only [S98_3step,S98_3,decL i _ z,Af,aaa,Ag z,Ai,aat i (show i<=1000000000000 by omega)];grind) (by
  simp only [S98_3step,S98_3,decN,Ah]) _ 0 (Nat.zero_add _)
 have I:aaf 0 (S98_3step 0) (n,(),(),(0:Int),s,(PV.agg [(PV.str ([]:Bo)),(PV.slice []),(PV.slice []),(PV.slice []),(PV.slice [])]))=_:=q;have o:=aty (msS s) (λm=>nmP m==n) (msS s).length 0 (Nat.zero_add _);rw [Ap] at o;unfold F98;rw [I,Aa];unfold flds isM fndM;rw [o];cases fstI (λi=>nmP ((msS s).getD i .bad)==n) 0 (msS s).length with
 | none=>exact ⟨_,rfl,rfl,rfl,rfl⟩
 | some j=>exact ⟨_,rfl,rfl,Ag (Int.natCast_nonneg j),An (Int.not_lt.2 (Int.natCast_nonneg j))⟩
theorem a2p {s:PV} (h:Small s) (n:Str):∃ y,F99 0 s n=some y/\decide (y.2>=(0:Int))=isE s n/\decide (y.2<(0:Int))=!(isE s n):=by
 have I:=h.es;have q:=akg (step:=S99_3step 0) (λi=>(n,(),(),((i:Nat):Int),s,(PV.agg [(PV.str ([]:Bo)),(PV.bool false),(PV.slice []),(PV.slice []),(PV.slice [])]))) (esS s).length (λi=>nmP ((esS s).getD i .bad)==n) (λi=>.inl ((),((i:Nat):Int),s,(esS s).getD i .bad)) (.inr ((),s,(PV.agg [(PV.str ([]:Bo)),(PV.bool false),(PV.slice []),(PV.slice []),(PV.slice [])]))) (λi z=>by
  simp only [S99_3step,S99_3,decL i _ z,Af,aaa,Ag z,Ai,aat i (show i<=1000000000000 by omega)];grind) (by
  simp only [S99_3step,S99_3,decN,Ah]) _ 0 (Nat.zero_add _)
 have J:aaf 0 (S99_3step 0) (n,(),(),(0:Int),s,(PV.agg [(PV.str ([]:Bo)),(PV.bool false),(PV.slice []),(PV.slice []),(PV.slice [])]))=_:=q;have o:=aty (esS s) (λm=>nmP m==n) (esS s).length 0 (Nat.zero_add _);rw [Ap] at o;have H:isE s n=((esS s).find? λm=>nmP m==n).isSome:=by unfold isE;grind
 unfold F99;rw [J,Aa,H,o];cases fstI (λi=>nmP ((esS s).getD i .bad)==n) 0 (esS s).length with
 | none=>exact ⟨_,rfl,rfl,rfl⟩
 | some j=>exact ⟨_,rfl,Ag (Int.natCast_nonneg j),An (Int.not_lt.2 (Int.natCast_nonneg j))⟩
theorem azu {s:PV} (h:Small s) (n:Str):F46 0 s n=some (isM s n||isE s n):=by obtain ⟨y,o,_,H,_⟩:=agc h n;obtain ⟨z,I,J,_⟩:=a2p h n;grind [F46,aye]
theorem aux {s f:PV} (h:Small s):F102 0 s f=some (bif ldF s f then (nmF f,true) else ([],false)):=by
 obtain ⟨y,H,_,_,I⟩:=agc h (nmF f);obtain ⟨z,J,_,M⟩:=a2p h (nmF f);unfold F102 ldF toF;by_cases o:kdF f=10
 ·grind
 grind
theorem at1 (xs:List Str):∀ l:List Str,abm l->abm (xs.foldl insW l)/\(∀ y,y∈xs.foldl insW l ↔ y∈l\/y∈xs)/\(xs.foldl insW l).length<=l.length+xs.length/\l.length<=(xs.foldl insW l).length:=by
 induction xs with
 | nil=>grind
 | cons x r h=>grind [insW,awo,akd,List.length_cons,ayo]
theorem a2y (p:PV->Bool):∀ (l:List PV) (o:List Str),l.foldl (λo f=>bif p f then insW o (nmF f) else o) o=((l.filter p).map nmF).foldl insW o:=by
 intro l;induction l with
 | nil=>intro o;rfl
 | cons x r h=>grind
def aps (s:PV) (n:Str):List Str:=(acq s n).foldl insW []
def ass (s:PV) (n:Str):List Str:=(asr s n).foldl insW []
theorem alk (s:PV) (n:Str):abm (aps s n)/\(∀ y,y∈aps s n ↔ y∈acq s n)/\(aps s n).length<=(acq s n).length:=by obtain ⟨h,o,z,_⟩:=at1 (acq s n) [] .nil;grind [aps]
theorem al0 (s:PV) (n:Str):abm (ass s n)/\(∀ y,y∈ass s n ↔ y∈ago s n)/\(ass s n).length<=(asr s n).length:=by obtain ⟨h,o,z,_⟩:=at1 (asr s n) [] .nil;grind [ass,ago,adp]
theorem a9u {s:PV} (h:Small s) (n:Str):F49 0 s n=some (strs (ass s n)):=by
 obtain ⟨y,I,H,_⟩:=agc h n;have Z:=aih h n;have q:=(aa9 (step:=S49_5step 0) (λi (o:List Str)=>((),strs o,(),((i:Nat):Int),s,y.1)) (flds s n) (λo f=>bif ldF s f then insW o (nmF f) else o) (λo=>(strs o,s,y.1)) (λi o=>o.length<=i) (λi o z O=>by
  have e:=aux (f:=(flds s n)[i]) h;have J:=akd o (nmF (flds s n)[i]);simp only [S49_5step,S49_5,H,decL i _ z,Af,aaa,Ag z,Ai,aat i (show i<=1000000000000 by omega),aag z,e,Aa];cases ldF s (flds s n)[i] with
  | true=>exact ⟨by simp only [Af,al1 (show o.length<=90000000 by omega),Aa],by grind⟩
  | false=>grind) (λo _=>by
  simp only [S49_5step,S49_5,H,decN,Ah]) (flds s n).length 0 [] (Nat.zero_add _) (Nat.le_refl _)).1
 have M:aaf 0 (S49_5step 0) ((),[],(),(0:Int),s,y.1)=_:=q;unfold F49;rw [I,Aa,M,Aa,Ap,a2y];rfl
theorem imp_b (b:Bool):imp b true=true:=by cases b<;>rfl
theorem a9r {s:PV} (h:Small s) (n:Str):F101 0 s n=some (strs (aps s n)):=by
 obtain ⟨y,J,H,_⟩:=agc h n;have hl:=aih h n;have q:=(aa9 (step:=S101_5step 0) (λi (o:List Str)=>((),strs o,(),((i:Nat):Int),s,y.1)) (flds s n) (λo f=>bif toF s f then insW o (nmF f) else o) (λo=>(strs o,s,y.1)) (λi o=>o.length<=i) (λi o z Z=>by
  have e:=aux (f:=(flds s n)[i]) h;have M:=akd o (nmF (flds s n)[i]);have I:(bif (bif ldF s (flds s n)[i] then (nmF (flds s n)[i],true) else ([],false)).2 then kdF (flds s n)[i]==(10:Int) else false)=toF s (flds s n)[i]:=by unfold ldF toF;grind
  simp only [S101_5step,S101_5,H,decL i _ z,Af,aaa,Ag z,Ai,aat i (show i<=1000000000000 by omega),aag z,e,Aa,imp_b,I];cases toF s (flds s n)[i] with
  | true=>exact ⟨by simp only [Af,al1 (show o.length<=90000000 by omega),Aa],by grind⟩
  | false=>grind) (λo _=>by
  simp only [S101_5step,S101_5,H,decN,Ah]) (flds s n).length 0 [] (Nat.zero_add _) (Nat.le_refl _)).1
 have O:aaf 0 (S101_5step 0) ((),[],(),(0:Int),s,y.1)=_:=q;unfold F101;rw [J,Aa,O,Aa,Ap,a2y];rfl
end Go.Ab
