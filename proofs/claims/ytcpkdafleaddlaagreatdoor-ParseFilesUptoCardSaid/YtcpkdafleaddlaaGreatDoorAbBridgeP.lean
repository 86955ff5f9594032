/- From the form's readings to plain data. -/
import Derived.Test.YtcpkdafleaddlaaGreatDoorGenFi
import Derived.Test.YtcpkdafleaddlaaGreatDoorRows
import Derived.ChangeShapes
set_option linter.unusedVariables false
set_option linter.unusedSimpArgs false
set_option linter.unnecessarySimpa false
namespace Go.Ab
open Go Go.Proofs Go.Proofs.YtcpkdafleaddlaaGreatDoor
def akw (P:Program) (S:List TypeId) (T:TypeId):Bool:=
 match P.underlying T with
 | some .bool | some (.int _) | some .string=>true
 | some (.slice E)=>S.any (Nat.beq E)&&!(Nat.beq (P.cellsOf E) 0)
 | some (.struct fs)=>ac6 P T&&fs.toList.all λf=>S.any (Nat.beq f.type)
 | _=>false
def ai0 (P:Program) (S:List TypeId):Bool:=S.all (akw P S)
theorem amf {P:Program}{S:List TypeId} (h:ai0 P S=true) {T:TypeId} (d:S.any (Nat.beq T)=true):akw P S T=true:=by obtain ⟨x,o,m⟩:=List.any_eq_true.1 d;have:=Af m;subst this;exact Bi.1 h _ o
mutual
def adt:PV->Nat
 | .str s=>s.length+1
 | .slice xs=>act xs+1
 | .agg xs=>act xs+1
 | _=>1
def act:List PV->Nat
 | []=>0
 | x::r=>adt x+act r
end
theorem ap3 (v:PV):1<=adt v:=by cases v<;>simp [adt]
theorem bb7:∀ {xs:List PV}{x:PV},x∈xs->adt x<=act xs:=by
 intro xs;induction xs with
 | nil=>intro x h;cases h
 | cons y r d=>
  intro x h;simp only [act];rcases Bl.1 h with rfl | h
  ·omega
  ·have:=d h;omega
theorem api (xs:List PV):xs.length<=act xs:=by
 induction xs with
 | nil=>simp
 | cons y r d=>have:=ap3 y;simp only [act,Ao];omega
def ach (P:Program):Nat->TypeId->PV->Prop
 | 0,_,_=>False
 | n+1,T,v=>
  match P.underlying T with
  | some .bool=>∃ b,v=.bool b
  | some (.int k)=>∃ m,v=.int m/\(Lit.int k m).wf=true
  | some .string=>∃ s,v=.str s
  | some (.slice E)=>∃ xs,v=.slice xs/\∀ x,x∈xs->ach P n E x
  | some (.struct fs)=>∃ d,v=.agg d/\d.length=fs.size/\∀ (i:Nat) (x:PV) (f:Field),d[i]?=some x->fs[i]?=some f->ach P n f.type x
  | _=>True
def af4 (w:World) (b off n:Nat):List Value:=(List.range n).map λj=>(w.cell? ⟨b,off+j,none⟩).getD Go.undef
theorem ahd (w:World) (b off n:Nat):(af4 w b off n).length=n:=by simp [af4]
theorem aj7 {w:World}{b off n j:Nat}{v:Value} (d:j<n) (h:w.cell? ⟨b,off+j,none⟩=some v):(af4 w b off n)[j]?=some v:=by simp [af4,d,h]
theorem aj3 (a:Addr) (n:Nat) (h:a.spot=none):a.add n=⟨a.block,a.off+n,none⟩:=by
 unfold Addr.add;split
 ·rename_i d;subst d;cases a;simp at h;subst h;rfl
 ·rfl
theorem cells?_get {w:World}{base:Nat}{a:Addr}{n:Nat}{cs:List Value} (h:w.cells? base a n=some cs):cs.length=n/\∀ i,i<n->∃ v,cs[i]?=some v/\w.cell? (a.add i)=some v:=by
 unfold World.cells? at h;split at h
 ·refine ⟨by simpa using Lib.mapM_length h,λi d=>?_⟩;exact Lib.mapM_at h i i (by simp [d])
 ·cases h
section
variable {H:Type}{enc:TypeId×Value->H}{P:Program}{w:World}{S:List TypeId}
theorem aqh {M:Type}{f:M->Option (DataW H×List MemPlace)}{l:List M}{xs:List (DataW H×List MemPlace)} (h:l.mapM f=some xs) {g:PV->Nat->Prop}
 (O:∀ (i:Nat) (a:M) (d:DataW H×List MemPlace),l[i]?=some a->xs[i]?=some d->f a=some d->∃ v,g v i/\adt v<=Rows.uptoBulk d.1):
 ∃ o:List PV,o.length=l.length/\(∀ (i:Nat) (v:PV),o[i]?=some v->g v i)/\act o<=Rows.uptoBulkAll (xs.map (·.1)):=by
 induction l generalizing xs g with
 | nil=>
  simp at h;subst h
  exact ⟨[],rfl,λi v m=>by simp at m,by simp [act,Rows.uptoBulkAll]⟩
 | cons a r ih=>
  rw [List.mapM_cons] at h
  simp only [Option.bind_eq_bind,Bf,Option.pure_def,Ak] at h
  obtain ⟨y,hy,ys,z,rfl⟩:=h
  obtain ⟨v,Z,hb⟩:=O 0 a y rfl rfl hy
  obtain ⟨o,U,V,h3⟩:=ih (g:=λv i=>g v (i+1)) z (λi a d W X Y=>O (i+1) a d (by simpa using W) (by simpa using X) Y)
  refine ⟨v::o,by simp [U],λi u m=>?_,?_⟩
  ·cases i with
   | zero=>simp at m;subst m;exact Z
   | succ i=>exact V i u (by simpa using m)
  ·simp only [act,Bk,Rows.uptoBulkAll];omega
theorem ba0 (hS:ai0 P S=true):∀ (m:Nat) (T:TypeId) (cs:List Value) (d:DataW H) (ps:List MemPlace),S.any (Nat.beq T)=true->DataW.trod enc P w 0 (λ_=>true) true m T cs=some (d,ps)->
 ∃ v,(Rep P (λb _=>b<w.heap.size) w T v cs/\ach P m T v)/\adt v<=Rows.uptoBulk d:=by
 intro m
 induction m with
 | zero=>intro T cs d ps _ h;simp [DataW.trod] at h
 | succ m ih=>
  intro T cs d ps hT h
  have hp:=amf hS hT
  unfold akw at hp
  split at hp
  ·rename_i o;simp only [DataW.trod,o] at h;split at h<;>simp_all;obtain ⟨rfl,rfl⟩:=h;exact ⟨_,⟨.bool o,by simp [ach,o]⟩,by simp [adt,Rows.uptoBulk]⟩
  ·rename_i k o;simp only [DataW.trod,o] at h;split at h<;>simp_all;obtain ⟨⟨rfl,hw⟩,rfl,rfl⟩:=h;exact ⟨_,⟨.int o,by simp [ach,o,hw]⟩,by simp [adt,Rows.uptoBulk]⟩
  ·rename_i o;simp only [DataW.trod,o] at h;split at h<;>simp_all;rename_i s;obtain ⟨_,rfl,rfl⟩:=h;refine ⟨.str s.data.toList,⟨?_,by simp [ach,o]⟩,by simp [adt,Rows.uptoBulk]⟩;have:=Rep.str (P:=P) (D:=λb _=>b<w.heap.size) (w:=w) (T:=T) (s:=s.data.toList) o;simpa using this
  ·rename_i E o;simp only [Ai,Bool.not_eq_true'] at hp;obtain ⟨hE,ag⟩:=hp;have hc:P.cellsOf E≠0:=λe=>by rw [e] at ag;cases ag
   simp only [DataW.trod,o] at h;split at h
   ·cases ‹some (TypeDesc.slice E)=some _›
   ·cases ‹some (TypeDesc.slice E)=some _›
   ·cases ‹some (TypeDesc.slice E)=some _›
   ·cases ‹some (TypeDesc.slice E)=some _›
   ·cases ‹some (TypeDesc.slice E)=some _›
   ·cases ‹some (TypeDesc.slice E)=some _›
   ·simp only [Ak,Prod.mk.injEq] at h;obtain ⟨rfl,rfl⟩:=h;exact ⟨.slice [],⟨.nil o λ_=>rfl,by simp [ach,o]⟩,by simp [adt,act,Rows.uptoBulk]⟩
   ·rename_i E' a len cap he;cases he;split at h
    ·rename_i hr;obtain ⟨_,ay,aw⟩:=hr;simp only [A6,Bf,Option.map_eq_some_iff] at h;obtain ⟨am,h1,av,h2,h3⟩:=h;simp only [Prod.mk.injEq] at h3;obtain ⟨rfl,_⟩:=h3;obtain ⟨Y,g1,g2,g3⟩:=aqh (g:=λv i=>i<len->(∃ ds cs,w.cells? 0 (a.add (i*P.cellsOf E)) (P.cellsOf E)=some cs/\Rep P (λb _=>b<w.heap.size) w E v cs/\ach P m E v/\ds=cs)) h1 (λi j dd X hd V=>by
      simp only [Bf] at V;obtain ⟨O,U,ht⟩:=V;obtain ⟨v,⟨q1,q2⟩,q3⟩:=ih E O dd.1 dd.2 hE ht;have ar:j=i:=by have ai:=(A4.1 X).1;simp at ai;simp [ai] at X;exact X.symm
      subst ar;exact ⟨v,λ_=>⟨O,O,U,q1,q2,rfl⟩,q3⟩)
     have z:Y.length=len:=by simpa using g1
     refine ⟨.slice Y,⟨?_,?_⟩,?_⟩
     ·by_cases h0:len=0
      ·subst h0;have:Y=[]:=Az z;subst this;exact .nil o (λe=>by cases e)
      ·have Z:a.spot=none:=by
        obtain ⟨_,O,U,_⟩:=g2 0 Y[0] (An (by omega)) (by omega);obtain ⟨_,hg⟩:=cells?_get U;obtain ⟨v,_,W⟩:=hg 0 (by omega);simp only [Nat.zero_mul,Addr.add,A6] at W;unfold World.cell? at W;split at W
        ·split at W
         ·cases W
         ·rename_i hs;simpa using hs
        ·cases W
       have ab:∀ i,i<len->∀ j,j<P.cellsOf E->∃ v,w.cell? ⟨a.block,a.off+(i*P.cellsOf E+j),none⟩=some v:=by intro i hi j X;obtain ⟨_,O,U,_⟩:=g2 i Y[i] (An (by omega)) hi;obtain ⟨_,hg⟩:=cells?_get U;obtain ⟨v,_,W⟩:=hg j X;rw [aj3 a _ Z,aj3 _ _ rfl] at W;exact ⟨v,by simpa [Nat.add_assoc] using W⟩
       have aa:0<P.cellsOf E:=Nat.pos_of_ne_zero hc;have af:∀ j,j<len*P.cellsOf E->∃ v,w.cell? ⟨a.block,a.off+j,none⟩=some v:=by intro j X;have h1:j / P.cellsOf E<len:=(Nat.div_lt_iff_lt_mul aa).2 X;obtain ⟨v,W⟩:=ab _ h1 (j%P.cellsOf E) (Nat.mod_lt _ aa);have e:=Nat.div_add_mod j (P.cellsOf E);rw [Nat.mul_comm] at e;rw [e] at W;exact ⟨v,W⟩
       have an:a=⟨a.block,a.off,none⟩:=by cases a;simp at Z;subst Z;rfl
       have ak:Rep P (λb _=>b<w.heap.size) w T (.slice Y) [.slice (some ⟨a.block,a.off,none⟩) Y.length cap]:=by
        refine .slice (L:=af4 w a.block a.off (len*P.cellsOf E)) o (by omega) (by rw [ahd,z]) (λi x hx=>?_) (λj v X=>?_)
        ·have hi:i<len:=by have:=(A4.1 hx).1;omega
         obtain ⟨_,O,U,q1,_⟩:=g2 i x hx hi;obtain ⟨ax,hg⟩:=cells?_get U;have:((af4 w a.block a.off (len*P.cellsOf E)).drop (i*P.cellsOf E)).take (P.cellsOf E)=O:=by
          apply List.ext_getElem?;intro j;by_cases X:j<P.cellsOf E
          ·obtain ⟨v,au,al⟩:=hg j X;rw [aj3 a _ Z,aj3 _ _ rfl] at al;have hb:i*P.cellsOf E+j<len*P.cellsOf E:=by
            have:=Au (P.cellsOf E) (show i+1<=len by omega);rw [Nat.add_mul] at this;omega
           rw [List.getElem?_take_of_lt X,List.getElem?_drop,au];exact aj7 hb (by simpa [Nat.add_assoc] using al)
          ·rw [Bj (by simp;omega),Bj (by omega)]
         rw [this];exact q1
        ·have ad:=(A4.1 X).1;rw [ahd] at ad;obtain ⟨v',ae⟩:=af j ad;have:=aj7 ad ae;rw [X] at this;cases this;refine ⟨?_,ae⟩;show a.block<w.heap.size;rcases Nat.lt_or_ge a.block w.heap.size with h' | h'
         ·exact h'
         ·simp [World.cell?,Array.getElem?_eq_none h'] at ae
       rw [z,<-an] at ak;exact ak
     ·simp only [ach,o,PV.slice.injEq,exists_eq_left'];intro x hx;obtain ⟨i,hi⟩:=List.mem_iff_getElem?.1 hx;have aq:i<len:=by have:=(A4.1 hi).1;omega
      obtain ⟨_,_,_,_,q2,_⟩:=g2 i x hi aq;exact q2
     ·simp only [adt,Rows.uptoBulk];omega
    ·cases h
   all_goals first | (cases h;done) | cases ‹some (TypeDesc.slice E)=some _›
  ·rename_i fs o;simp only [Ai] at hp;obtain ⟨ah,ap⟩:=hp;have L:=acf ah o;have M:(if cs.length=P.cellsOf T then (fs.toList.mapM λf=>DataW.trod enc P w 0 (λ_=>true) true m f.type ((cs.drop f.offset).take (P.cellsOf f.type))).map λxs=>(DataW.agg (xs.map (·.1)),xs.flatMap (·.2)) else none)=some (d,ps):=by
    rw [<-h];simp only [DataW.trod,o]
   split at M
   ·rename_i z;simp only [Option.map_eq_some_iff,Prod.mk.injEq] at M;obtain ⟨xs,h1,rfl,_⟩:=M;obtain ⟨Y,g1,g2,g3⟩:=aqh (g:=λv i=>∀ f,fs[i]?=some f->Rep P (λb _=>b<w.heap.size) w f.type v ((cs.drop f.offset).take (P.cellsOf f.type))/\ach P m f.type v) h1 (λi f dd V hd ht=>by
     have aj:f∈fs.toList:=List.mem_of_getElem? V;obtain ⟨v,q1,q2⟩:=ih f.type _ dd.1 dd.2 (Bi.1 ap f aj) ht;refine ⟨v,λf' ao=>?_,q2⟩;have:f'=f:=by rw [Array.getElem?_toList] at V;rw [ao] at V;cases V;rfl
     subst this;exact q1)
    refine ⟨.agg Y,⟨.agg o z ?_ (by simpa using g1) (λi v f W V=>(g2 i v W f V).1),?_⟩,by simp only [adt,Rows.uptoBulk];omega⟩
    ·refine L.oneCell z (λi f V=>?_);have hi:i<Y.length:=by rw [g1,Array.length_toList];exact (Array.getElem?_eq_some_iff.1 V).1
     exact ((g2 i _ (An hi) f V).1).oneCell
    ·simp only [ach,o,PV.agg.injEq,exists_eq_left'];exact ⟨by simpa using g1,λi x f hx V=>(g2 i x hx f V).2⟩
   ·cases M
  ·cases hp
end
theorem bcj {P:Program}{n:Nat}{T:TypeId}{v:PV}{fs:Array Field} (h:ach P n T v) (O:P.underlying T=some (.struct fs)):
 ∃ d m,v=.agg d/\d.length=fs.size/\∀ (i:Nat) (x:PV) (f:Field),d[i]?=some x->fs[i]?=some f->ach P m f.type x:=by
 cases n with
 | zero=>cases h
 | succ n=>
  simp only [ach,O] at h
  obtain ⟨d,o,z,M⟩:=h
  exact ⟨d,n,o,z,M⟩
theorem bdm {P:Program}{n:Nat}{T E:TypeId}{v:PV} (h:ach P n T v) (z:P.underlying T=some (.slice E)):∃ xs m,v=.slice xs/\∀ x,x∈xs->ach P m E x:=by
 cases n with
 | zero=>cases h
 | succ n=>simp only [ach,z] at h;obtain ⟨xs,d,o⟩:=h;exact ⟨xs,n,d,o⟩
theorem good_int {P:Program}{n:Nat}{T:TypeId}{k:IntKind}{v:PV} (h:ach P n T v) (d:P.underlying T=some (.int k)):∃ m,v=.int m/\(Lit.int k m).wf=true:=by
 cases n with
 | zero=>cases h
 | succ n=>simpa only [ach,d] using h
theorem bdu (v:PV):v.asList.length+1<=adt v:=by
 cases v with
 | slice xs=>have:=api xs;simp [PV.asList,adt];omega
 | _=>have:=ap3;simp [PV.asList,adt]
theorem bulk_str (v:PV):v.asStr.length+1<=adt v:=by cases v<;>simp [PV.asStr,adt]
end Go.Ab
