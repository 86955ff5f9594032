/- Strictly ascending lists of strings as sets. -/
import Derived.Test.YtodichgnoiaanaaGreatDoorPComparesT
set_option linter.unusedVariables false
set_option linter.unusedSimpArgs false
set_option linter.unnecessarySimpa false
namespace Go.Ab
open Go
set_option maxRecDepth 100000
abbrev Str:=Bo
abbrev abm (l:List Str):Prop:=l.Pairwise (·<·)
theorem ava {x y:Str} (h:x<=y) (o:x≠y):x<y:=by grind
theorem bem {x y:Str} (h:x<y):x≠y:=λe=>by grind
theorem ab0 {l:List Str} (h:abm l):l.Nodup:=h.imp λh=>bem h
theorem alv {l o:List Str} (h:abm l) (z:abm o) (J:∀ x,x∈l ↔ x∈o):l=o:=by refine List.Perm.eq_of_pairwise (le:=λa b:Str=>a<b) (λa b _ _ H I=>absurd I (List.lt_asymm H)) h z ((List.perm_ext_iff_of_nodup (ab0 h) (ab0 z)).2 J)
theorem arx {l o:List Str} (h:l.Perm o):adk l=adk o:=
 List.Perm.eq_of_pairwise (le:=λa b:Str=>a<=b) (λa b _ _ z H=>List.le_antisymm z H) (aef l) (aef o) (((adc l).trans h).trans (adc o).symm)
theorem ate {l:List Str} (h:l.Pairwise (·<=·)):abm (Lib.compact l)/\∀ x,x∈Lib.compact l ↔ x∈l:=by
 have Z:∀ j,j<l.length->l.toArray[j]! =l.getD j []:=λj H=>by all_goals grind
 have z:∀ i j,i<=j->j<l.length->l.getD i []<=l.getD j []:=by intro i j J H;rcases Nat.eq_or_lt_of_le J with rfl | ab;all_goals grind [List.le_refl,List.pairwise_iff_getElem,aag]
 have hk:∀ j,j<l.length->(Lib.keeps l.toArray j=true ↔ j=0\/l.getD j []≠l.getD (j-1) []):=by intro j H;unfold Lib.keeps;grind
 unfold Lib.compact Lib.compactUpTo;constructor
 ·show List.Pairwise (·<·) _;rw [List.pairwise_map];have hr:List.Pairwise (λa b=>a<b/\a<l.length/\b<l.length/\Lib.keeps l.toArray b=true) ((List.range l.length).filter (Lib.keeps l.toArray)):=by
   have M:List.Pairwise (λa b=>a<b) ((List.range l.length).filter (Lib.keeps l.toArray)):=(List.pairwise_lt_range).filter _;refine List.Pairwise.imp_of_mem (λ{a b} ha hb o=>?_) M;grind
  refine hr.imp λ{a b} o=>?_;obtain ⟨M,h2,I,h4⟩:=o;rw [Z a h2,Z b I];rcases (hk b I).1 h4 with O | O
  ·omega
  ·have h6:l.getD (b-1) []<l.getD b []:=ava (z (b-1) b (by omega) I) (λe=>O e.symm);exact List.lt_of_le_of_lt (z a (b-1) (by omega) (by omega)) h6
 ·intro x;rw [List.mem_map];constructor
  ·grind
  ·intro hx;obtain ⟨j,H,rfl⟩:=List.mem_iff_getElem.1 hx;have aa:∀ j (H:j<l.length),∃ i,i<=j/\l.getD i []=l.getD j []/\Lib.keeps l.toArray i=true:=by
    intro j;induction j with
    | zero=>grind
    | succ j ih=>grind
   grind
theorem adp (l:List Str):abm (Lib.compact (adk l))/\∀ x,x∈Lib.compact (adk l) ↔ x∈l:=by grind [ate,aef,adc]
abbrev strs (l:List Str):List PV:=l.map PV.str
theorem afl {l:List Str}{i:Nat} (h:i<(strs l).length):((strs l).getD i .bad).asStr=l.getD i []:=by
 have o:i<l.length:=by simpa using h
 rw [aag h,aag o,List.getElem_map];rfl
theorem a6e (l:List Str):(strs l).map PV.asStr=l:=by rw [List.map_map];have:(PV.asStr∘PV.str)=id:=rfl;simp_all
theorem ao6 {l:List Str} (h:l.length<=1000000000):afw 0 (strs l)=some (strs (adk l)):=by unfold afw;rw [Ag (by grind [aae]),Af,ao5,a6e]
theorem aho {l:List Str} (h:l.length<=1000000000):ac0 0 (strs l)=some ((),strs (Lib.compact l)):=by unfold ac0;rw [Ag (by grind [aae]),Af,af1,a6e]
theorem ae5 (l:List Str):(adk l).length=l.length:=(adc l).length_eq
theorem agv (l:List Str):(Lib.compact l).length<=l.length:=ahn _ _
end Go.Ab
namespace Go.Ab
open Go
set_option maxRecDepth 100000
theorem keyEq_str {k:Str}{x:PV}:agy (.str k) x=true ↔ x=.str k:=by cases x<;>simp [agy,ad3];exact eq_comm
theorem ayy (k:PV):PV.mget [] k=none:=rfl
theorem ail (n k:Str):agy (.str n) (.str k)=(n==k):=rfl
theorem agd (e:PV×PV) (r:List (PV×PV)) (n:Str):PV.mget (e::r) (.str n)=bif agy (.str n) e.1 then some e.2 else PV.mget r (.str n):=by grind [PV.mget,agy]
theorem auj (v:PV) (k n:Str):∀ M:List (PV×PV),PV.mget (PV.mput M (.str k) v) (.str n)=bif n==k then some v else PV.mget M (.str n):=by
 intro M;induction M with
 | nil=>rw [PV.mput,agd,ail]
 | cons e r z=>
  unfold PV.mput;cases h:agy (.str k) e.1 with
  | true=>have o:=keyEq_str.1 h;rw [Af,agd,agd,o,ail];grind
  | false=>rw [Ah,agd,agd,z];grind
abbrev msS (s:PV):List PV:=(s.fld 0).asList
abbrev esS (s:PV):List PV:=(s.fld 1).asList
abbrev nmP (m:PV):Str:=(m.fld 0).asStr
abbrev nmF (f:PV):Str:=((f.fld 4).fld 1).asStr
abbrev kdF (f:PV):Int:=((f.fld 4).fld 0).asInt
def fndM (s:PV) (n:Str):Option PV:=(msS s).find? λm=>nmP m==n
def isM (s:PV) (n:Str):Bool:=(fndM s n).isSome
def isE (s:PV) (n:Str):Bool:=(esS s).any λe=>nmP e==n
def flds (s:PV) (n:Str):List PV:=match fndM s n with | some m=>(m.fld 1).asList | none=>[]
structure Small (s:PV):Prop where
 ms:(msS s).length<=1048576
 es:(esS s).length<=1048576
 fl:∀ m,m∈msS s->((m.fld 1).asList).length<=1048576
theorem aih {s:PV} (h:Small s) (n:Str):(flds s n).length<=1048576:=by
 unfold flds;cases o:fndM s n with
 | none=>simp
 | some m=>exact h.fl m (List.mem_of_find?_eq_some o)
structure Web (s w:PV):Prop where
 m:∀ n:Str,PV.mget ((w.fld 0).asMap) (.str n)=fndM s n
 e:∀ n:Str,((PV.mget ((w.fld 1).asMap) (.str n)).getD (.bool false)).asBool=isE s n
def putM (M:List (PV×PV)) (m:PV):List (PV×PV):=bif !(PV.mhas M (.str (nmP m))) then PV.mput M (.str (nmP m)) m else M
def putE (M:List (PV×PV)) (e:PV):List (PV×PV):=PV.mput M (.str (nmP e)) (.bool true)
theorem a9l (n:Str):∀ (l:List PV) (M:List (PV×PV)),PV.mget (l.foldl putM M) (.str n)=(PV.mget M (.str n)).or (l.find? λm=>nmP m==n):=by
 intro l;induction l with
 | nil=>intro M;simp
 | cons m r h=>
  intro M;rw [List.foldl_cons,h,List.find?_cons];unfold putM PV.mhas;cases o:PV.mget M (.str (nmP m)) with
  | none=>simp only [Option.isSome_none,Av,Af];rw [auj];grind
  | some v=>grind
theorem a9k (n:Str):∀ (l:List PV) (M:List (PV×PV)),((PV.mget (l.foldl putE M) (.str n)).getD (.bool false)).asBool=(((PV.mget M (.str n)).getD (.bool false)).asBool||l.any λe=>nmP e==n):=by
 intro l;induction l with
 | nil=>intro M;simp
 | cons e r o=>
  intro M;rw [List.foldl_cons,o,List.any_cons];unfold putE;rw [auj];by_cases h:n=nmP e
  ·grind [PV.asBool]
  grind
theorem bay {s:PV} (h:Small s):∃ w,F41 0 s=some w/\Web s w:=by
 have J:=(aa9 (step:=S41_4step 0) (λi (M:List (PV×PV))=>((),(),(),msS s,((msS s).length:Int),((i:Nat):Int),s,(PV.agg [(PV.map []),(PV.map [])]),M,[],(),())) (msS s) putM (λM=>((),(),(),s,(PV.agg [(PV.map []),(PV.map [])]),M,[],(),())) (λ_ _=>True) (λi M o _=>by
  refine ⟨?_,trivial⟩;have I:=h.ms;simp only [S41_4step,S41_4,decL i _ o,Af,aaa,Ag o,Ai,aat i (show i<=1000000000000 by omega),aag o];unfold putM;grind) (λM _=>by
  simp only [S41_4step,S41_4,decN,Ah]) (msS s).length 0 [] (Nat.zero_add _) trivial).1
 have O:=λM:List (PV×PV)=>(aa9 (step:=S41_11step 0) (λi (N:List (PV×PV))=>((),(),esS s,((esS s).length:Int),((i:Nat):Int),s,(PV.agg [(PV.map []),(PV.map [])]),M,N,(),())) (esS s) putE (λN=>((),(),s,(PV.agg [(PV.map []),(PV.map [])]),M,N,(),())) (λ_ _=>True) (λi N o _=>by
  refine ⟨?_,trivial⟩;have I:=h.es;simp only [S41_11step,S41_11,decL i _ o,Af,aaa,Ag o,Ai,aat i (show i<=1000000000000 by omega),aag o];rfl) (λM _=>by
  simp only [S41_11step,S41_11,decN,Ah]) (esS s).length 0 [] (Nat.zero_add _) trivial).1
 have z:aaf 0 (S41_4step 0) ((),(),(),msS s,((msS s).length:Int),(0:Int),s,(PV.agg [(PV.map []),(PV.map [])]),[],[],(),())=_:=J;have H:∀ M,aaf 0 (S41_11step 0) ((),(),esS s,((esS s).length:Int),(0:Int),s,(PV.agg [(PV.map []),(PV.map [])]),M,[],(),())=_:=O;unfold F41;dsimp only;rw [z,Aa];dsimp only;rw [H,Aa,Ap,Ap];refine ⟨_,rfl,λn=>?_,λn=>?_⟩
 ·have:=a9l n (msS s) [];rw [ayy,Option.none_or] at this;exact this
 ·have:=a9k n (esS s) [];rw [ayy] at this;exact this
def toF (s f:PV):Bool:=isM s (nmF f)&&kdF f==10
def ldF (s f:PV):Bool:=toF s f||(kdF f==9&&isE s (nmF f))
def acq (s:PV) (n:Str):List Str:=((flds s n).filter (toF s)).map nmF
def asr (s:PV) (n:Str):List Str:=((flds s n).filter (ldF s)).map nmF
theorem beu {s w f:PV} (h:Web s w):F139 0 w f=some (toF s f):=by unfold F139 PV.mhas;rw [h.m,a2k];rfl
theorem a8y {s w f:PV} (h:Web s w):F85 0 w f=some (ldF s f):=by unfold F85;rw [beu h,Aa,h.e,aye,a2k];rfl
theorem bds {s w:PV} (h:Web s w) (n:Str):(((PV.mget ((w.fld 0).asMap) (PV.str n)).getD (PV.agg [(PV.str ([]:Bo)),(PV.slice []),(PV.slice []),(PV.slice []),(PV.slice [])])).fld 1).asList=flds s n:=by rw [h.m];unfold flds;cases fndM s n<;>rfl
theorem ayk (p:PV->Bool) (g:PV->Str):∀ l:List PV,(l.flatMap λx=>bif p x then [PV.str (g x)] else [])=strs ((l.filter p).map g):=by
 intro l;induction l with
 | nil=>rfl
 | cons x r h=>grind
theorem atu {p:PV->Bool}{g:PV->Str}{l:List PV}{n:Nat} (h:l.length<=n):((l.filter p).map g).length<=n:=by grind
theorem a5c {s w:PV} (h:Small s) (z:Web s w) (n:Str):F86 0 w n=some (strs (acq s n)):=by
 have J:=aih h n;have q:=agb (step:=S86_4step 0) (λi c=>((),c,flds s n,((flds s n).length:Int),((i:Nat):Int),w)) (flds s n) (λf=>bif toF s f then [PV.str (nmF f)] else []) (λc=>(c,w)) 5000000 (λi c o I=>by
  simp only [S86_4step,S86_4,decL i _ o,Af,aaa,Ag o,Ai,beu z,Aa,aat i (show i<=1000000000000 by omega),al6 (show c.length<=100000000 by omega)];grind) (λc=>by
  simp only [S86_4step,S86_4,decN,Ah]) (flds s n).length 0 [] (Nat.zero_add _) (by
  rw [Ap,Aw,ayk];grind)
 rw [Ap,A6,ayk] at q;have H:aaf 0 (S86_4step 0) ((),[],flds s n,((flds s n).length:Int),(0:Int),w)=_:=q;unfold F86;dsimp only;rw [bds z,H,Aa];rfl
def ago (s:PV) (n:Str):List Str:=Lib.compact (adk (asr s n))
theorem avn {s:PV} (h:Small s) (n:Str):(asr s n).length<=1048576:=atu (aih h n)
theorem a6v {s:PV} (h:Small s) (n:Str):(ago s n).length<=1048576:=Nat.le_trans (agv _) (by grind [ae5,avn])
theorem auk {s:PV} (h:Small s) (n:Str):(acq s n).length<=1048576:=atu (aih h n)
theorem a6w {s w:PV} (h:Small s) (z:Web s w) (n:Str):F42 0 w n=some (strs (ago s n)):=by
 have M:=aih h n;have q:=agb (step:=S42_4step 0) (λi c=>((),(),flds s n,((flds s n).length:Int),((i:Nat):Int),w,c)) (flds s n) (λf=>bif ldF s f then [PV.str (nmF f)] else []) (λc=>((),w,c)) 5000000 (λi c o J=>by
  simp only [S42_4step,S42_4,decL i _ o,Af,aaa,Ag o,Ai,a8y z,Aa,aat i (show i<=1000000000000 by omega),al6 (show c.length<=100000000 by omega)];grind) (λc=>by
  simp only [S42_4step,S42_4,decN,Ah]) (flds s n).length 0 [] (Nat.zero_add _) (by
  rw [Ap,Aw,ayk];grind)
 rw [Ap,A6,ayk] at q;have H:aaf 0 (S42_4step 0) ((),(),flds s n,((flds s n).length:Int),(0:Int),w,[])=_:=q;have I:=avn h n;unfold F42;dsimp only;rw [bds z,H,Aa];dsimp only;rw [show ((flds s n).filter (ldF s)).map nmF=asr s n from rfl,ao6 (by omega),Aa,aho (by rw [ae5];omega),Aa];rfl
theorem bav {s:PV}{n x:Str}:x∈ago s n ↔ ∃ f,f∈flds s n/\ldF s f=true/\nmF f=x:=by grind [ago,adp,asr]
theorem next_mem {s:PV}{n x:Str}:x∈acq s n ↔ ∃ f,f∈flds s n/\toF s f=true/\nmF f=x:=by grind [acq]
theorem aul {s:PV}{n x:Str} (h:x∈acq s n):x∈ago s n:=by grind [next_mem,bav,ldF]
theorem akm {s:PV}{n x:Str} (h:x∈acq s n):isM s x=true:=by obtain ⟨f,z,o,rfl⟩:=next_mem.1 h;unfold toF at o;grind
end Go.Ab
namespace Go.Ab
open Go
set_option maxRecDepth 100000
inductive RP (s:PV) (n:Str):Str->Prop
 | one {x:Str}:x∈acq s n->RP s n x
 | more {y x:Str}:RP s n y->x∈acq s y->RP s n x
def sumS (f:Str->Nat):List Str->Nat
 | []=>0
 | x::r=>f x+sumS f r
theorem ajv (f:Str->Nat):∀ a b:List Str,sumS f (a++b)=sumS f a+sumS f b:=by
 intro a b;induction a with
 | nil=>simp [sumS]
 | cons x r h=>grind [sumS]
theorem a6g (f:Str->Nat) {a b:List Str} (h:a.Perm b):sumS f a=sumS f b:=by
 induction h with
 | nil=>rfl
 | cons x _ o=>simp only [sumS,o]
 | swap x y l=>grind [sumS]
 | trans _ _ z H=>grind
theorem ak1 (f:Str->Nat):∀ {v l:List Str},v.Nodup->(∀ x,x∈v->x∈l)->sumS f v<=sumS f l:=by
 intro v;induction v with
 | nil=>intro l _ _;exact Nat.zero_le _
 | cons x r I=>intro l H o;have z:x∈l:=o x (List.mem_cons_self ..);have h:=List.perm_cons_erase z;rw [a6g f h];grind [List.nodup_cons,List.mem_cons_of_mem,sumS]
theorem aza:∀ l:List Str,sumS (λ_=>1) l=l.length:=by
 intro l;induction l with
 | nil=>rfl
 | cons x r h=>grind [sumS,List.length_cons]
structure Few (s:PV):Prop where
 small:Small s
 uq:((msS s).map nmP).Nodup
 all:((msS s).map λm=>((m.fld 1).asList).length).sum<=1048576
theorem arw {s:PV}{n:Str} (h:isM s n=true):n∈(msS s).map nmP:=by unfold isM fndM at h;grind
theorem ald {s:PV} (h:((msS s).map nmP).Nodup):sumS (λn=>(flds s n).length) ((msS s).map nmP)=((msS s).map λm=>((m.fld 1).asList).length).sum:=by
 have o:∀ l:List PV,(∀ m,m∈l->fndM s (nmP m)=some m)->sumS (λn=>(flds s n).length) (l.map nmP)=(l.map λm=>((m.fld 1).asList).length).sum:=by
  intro l;induction l with
  | nil=>intro _;rfl
  | cons m r H=>grind [sumS,List.mem_cons_of_mem,flds,List.mem_cons_self]
 refine o _ λm z=>?_;unfold fndM;have fst:∀ l:List PV,(l.map nmP).Nodup->m∈l->(l.find? λx=>nmP x==nmP m)=some m:=by
  intro l;induction l with
  | nil=>grind
  | cons x r H=>grind
 exact fst _ h z
theorem azb {s:PV} (h:Few s) {v:List Str} (H:v.Nodup) (z:∀ x,x∈v->isM s x=true):sumS (λn=>(acq s n).length) v<=1048576:=by
 have J:sumS (λn=>(acq s n).length) v<=sumS (λn=>(flds s n).length) v:=by
  have:∀ l:List Str,sumS (λn=>(acq s n).length) l<=sumS (λn=>(flds s n).length) l:=by
   intro l;induction l with
   | nil=>exact Nat.le_refl _
   | cons x r M=>simp only [sumS];have:=atu (p:=toF s) (g:=nmF) (Nat.le_refl (flds s x).length);grind [acq]
  exact this v
 have o:=ak1 (λn=>(flds s n).length) H (l:=(msS s).map nmP) (λx I=>arw (z x I));rw [ald h.uq] at o;have:=h.all;omega
theorem ajr {s:PV} (h:Small s) {v:List Str} (z:v.Nodup) (o:∀ x,x∈v->isM s x=true):v.length<=(msS s).length:=by have:=ak1 (λ_=>1) z (l:=(msS s).map nmP) (λx H=>arw (o x H));grind [aza,List.length_map]
def ac5 (v:List Str):List (PV×PV):=v.map λk=>(.str k,.bool true)
theorem at8 (x:Str):∀ v:List Str,((PV.mget (ac5 v) (.str x)).getD (.bool false)).asBool=decide (x∈v):=by
 intro v;induction v with
 | nil=>simp [ac5,PV.mget,PV.asBool]
 | cons k r o=>
  have e:ac5 (k::r)=(.str k,.bool true)::ac5 r:=rfl;rw [e,agd,ail];cases h:x==k with
  | true=>have:=eq_of_beq h;grind [PV.asBool]
  | false=>grind
theorem a4e {x:Str}:∀ {v:List Str},x∉v->PV.mput (ac5 v) (.str x) (.bool true)=ac5 (v++[x]):=by
 intro v;induction v with
 | nil=>intro _;rfl
 | cons k r I=>
  intro h;have e:ac5 (k::r)=(.str k,.bool true)::ac5 r:=rfl;have o:x≠k:=λe=>h (by grind);have z:(x==k)=false:=by simpa using o
  rw [e,PV.mput,ail,z,Ah,I (λH=>h (List.mem_cons_of_mem _ H))];rfl
structure RInv (s:PV) (n:Str) (v q:List Str):Prop where
 nd:v.Nodup
 vm:∀ x,x∈v->isM s x=true
 vr:∀ x,x∈v->RP s n x
 qm:∀ x,x∈q->isM s x=true
 qr:∀ x,x∈q->RP s n x
 start:∀ x,x∈acq s n->x∈v\/x∈q
 closed:∀ y,y∈v->∀ x,x∈acq s y->x∈v\/x∈q
 len:q.length<=(acq s n).length+sumS (λm=>(acq s m).length) v
theorem a9p {s w:PV} (h:Few s) (hw:Web s w) (n:Str):∃ v:List Str,F43 0 w n=some (ac5 v)/\v.Nodup/\(∀ x,x∈v ↔ RP s n x)/\v.length<=1048576:=by
 have O:=h.small;obtain ⟨r,h1,v,rfl,hn,hv,I⟩:=aue (step:=S43_4step 0) (λx=>((msS s).length-x.2.2.2.2.length)*1048577+x.2.2.1.length) (λx=>∃ v q:List Str,x=((),(),strs q,w,ac5 v)/\RInv s n v q) (λr=>∃ v:List Str,r=((),w,ac5 v)/\v.Nodup/\(∀ x,x∈v ↔ RP s n x)/\v.length<=1048576) (λx o=>by
  obtain ⟨v,q,rfl,z⟩:=o;have ak:=ajr O z.nd z.vm;have ai:=O.ms;cases q with
  | nil=>
   right;refine ⟨((),w,ac5 v),?_,v,rfl,z.nd,λx=>⟨z.vr x,λhr=>?_⟩,by omega⟩
   ·grind [S43_4step,S43_4]
   ·induction hr with
    | one o=>exact (z.start _ o).resolve_right (by simp)
    | more H o ih=>exact (z.closed _ ih _ o).resolve_right (by simp)
  | cons a q=>
   left;have ae:=azb h z.nd z.vm;have Z:=z.len;have aj:=auk O n;have ag:=auk O a;have d1:decide (((strs (a::q)).length:Int)>(0:Int))=true:=Ag (by grind);have d2:aab (0:Int) (strs (a::q)).length=true:=by have:=aaa 0 (strs (a::q)).length;grind
   have g0:((strs (a::q)).getD (0:Int).toNat .bad).asStr=a:=rfl;simp only [Ax] at Z;by_cases M:a∈v
   ·have d3:decide (0<=(1:Int)/\(1:Int)<=((strs (a::q)).length:Int))=true:=Ag ⟨by omega,by simp;omega⟩;refine ⟨((),(),strs q,w,ac5 v),?_,⟨v,q,rfl,z.nd,z.vm,z.vr,λx o=>z.qm x (List.mem_cons_of_mem _ o),λx o=>z.qr x (List.mem_cons_of_mem _ o),λx o=>?_,λy H x o=>?_,by omega⟩,by simp⟩
    ·simp only [S43_4step,S43_4,d1,d2,Af,g0,at8,Ag M,Ay,Ah,d3];rfl
    ·rcases z.start x o with J | J;all_goals grind
    ·rcases z.closed y H x o with J | J;all_goals grind
   ·have ah:=z.qm a (List.mem_cons_self ..);have ad:=z.qr a (List.mem_cons_self ..);have aa:(v++[a]).Nodup:=by
         rw [List.nodup_append];exact ⟨z.nd,by simp,λx o y H=>by grind⟩
    have I:∀ x,x∈v++[a]->isM s x=true:=λx o=>by
         rcases Bm.1 o with o | o
         ·exact z.vm x o
         grind
    have ab:=ajr O aa I;rw [Al,List.length_singleton] at ab;have d3:decide ((strs (a::q)).length+(strs (acq s a)).length<=aae)=true:=Ag (by grind [aae]);have d4:decide (0<=(1:Int)/\(1:Int)<=((strs (a::q)++strs (acq s a)).length:Int))=true:=Ag ⟨by omega,by simp;omega⟩;have e5:(strs (a::q)++strs (acq s a)).drop (1:Int).toNat=strs (q++acq s a):=by simp [strs]
    refine ⟨((),(),strs (q++acq s a),w,ac5 (v++[a])),?_,⟨v++[a],q++acq s a,rfl,aa,I,λx o=>?_,λx o=>?_,λx o=>?_,λx o=>?_,λy H x o=>?_,?_⟩,?_⟩
    ·simp only [S43_4step,S43_4,d1,d2,Af,g0,at8,An M,Av,a5c O hw,Aa,d3,d4,e5,a4e M]
    ·rcases Bm.1 o with o | o
     ·exact z.vr x o
     grind
    ·rcases Bm.1 o with o | o
     ·exact z.qm x (List.mem_cons_of_mem _ o)
     ·exact akm o
    ·rcases Bm.1 o with o | o
     ·exact z.qr x (List.mem_cons_of_mem _ o)
     ·exact .more ad o
    ·rcases z.start x o with J | J;all_goals grind
    ·rcases Bm.1 H with H | H
     ·rcases z.closed y H x o with J | J;all_goals grind
     grind
    ·grind [List.length_append,ajv,sumS]
    ·simp only [ac5,List.length_map,Al,Ax,Aw];grind) ((),(),strs (acq s n),w,[]) ⟨[],acq s n,rfl,.nil,λx o=>(by cases o),λx o=>(by cases o),λx o=>akm o,λx o=>RP.one o,λx o=>Or.inr o,λy H=>(by cases H),(by simp [sumS])⟩
 refine ⟨v,?_,hn,hv,I⟩;have af:aaf 0 (S43_4step 0) ((),(),strs (acq s n),w,[])=some ((),w,ac5 v):=h1;grind [F43,a5c]
end Go.Ab
