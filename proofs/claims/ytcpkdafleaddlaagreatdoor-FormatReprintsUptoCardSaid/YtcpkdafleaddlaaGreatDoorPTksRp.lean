/- The scanner on texts that are written token by token: which tokens it gives. -/
import Derived.Test.YtcpkdafleaddlaaGreatDoorPApartRp
set_option linter.unusedVariables false
set_option linter.unusedSimpArgs false
set_option linter.unnecessarySimpa false
namespace Go.Ab
open Go
set_option maxRecDepth 100000
inductive TokT:Bo->Bo->Tk->Prop
 | name {t s:Bo}:ack t=true->endN s->TokT t s ⟨1,t,0⟩
 | int {u:Nat}{s:Bo}:u<18446744073709551616->endI s->TokT (decB u) s ⟨2,[],IntKind.wrap .i64 (u:Int)⟩
 | text {t s:Bo}:t.length<=1048576->TokT (abd t) s ⟨3,t,0⟩
 | sign {c:UInt8}{s:Bo}:aia c=true->TokT [c] s ⟨4,[c],0⟩
theorem TokT.tok {t s:Bo}{k:Tk} (h:TokT t s k):Tok t s:=by
 cases h with
 | name d m=>exact .name d m
 | int d m=>exact .int d m
 | text d=>exact .text d
 | sign d=>exact .sign d
theorem a8s {u:Nat} (H:u<18446744073709551616) {s:Bo} (z:endI s) (X:(decB u++s).length<=1048576):F130 0 (decB u++s)=some (PV.agg [PV.int 2,PV.str [],PV.int (IntKind.wrap .i64 (u:Int)),PV.int 0],(((decB u).length:Nat):Int),0):=by
 obtain ⟨c,r,e,hc,V⟩:=anf H;have o:=ay8 (decB u++s) X;rw [bhw (a3n (u:=u) (by omega)) (bfy z)] at o;have M:decide ((0:Int)<=(0:Int)/\(0:Int)<=(((decB u).length:Nat):Int)/\(((decB u).length:Nat):Int)<=((decB u++s).length:Int))=true:=Aj (by grind);have O:((decB u++s).take (((decB u).length:Nat):Int).toNat).drop (0:Int).toNat=decB u:=by grind
 have Y:ace 0 (decB u) 10 64=some ((u:Int),true):=by
  have W:Nat.ble (decB u).length 281474976710656=true:=by grind [agf,Nat.ble_eq]
  unfold ace;rw [W,af0 (by omega),aem H];rfl
 have Z:aaa (0:Int) (decB u++s).length=true:=by rw [e,As,in0]
 have U:(bif decide ((((decB u).length:Nat):Int)>(1:Int)) then ((((decB u++s).getD (0:Int).toNat 0).toNat:Int)==(48:Int)) else false)=false:=by
  cases r with
  | nil=>rw [e];rfl
  | cons d r=>
   have:((((decB u++s).getD (0:Int).toNat 0).toNat:Int)==(48:Int))=false:=by rw [e];show ((c.toNat:Int)==(48:Int))=false;rw [bqI (c:=c) (k:=48) (n:=48) rfl,At];grind
   rw [this];simp
 have m:∀ b:Bool,(bif b then true else true)=true:=λb=>by cases b<;>rfl
 unfold F130;simp only [o,Aa,Z,U,imp,Ao,aat,Ad,Bool.or_true,m];cases s with
 | nil=>grind
 | cons a s=>
  have x7:decide ((((decB u).length:Nat):Int)<((decB u++a::s).length:Int))=true:=Aj (by simp;omega);have x8:aaa (((decB u).length:Nat):Int) (decB u++a::s).length=true:=by rw [aab];simp
  have x9:(decB u++a::s).getD (((decB u).length:Nat):Int).toNat 0=a:=by grind
  simp only [x7,x8,x9,Ad,Ae,aat,Bool.true_or,a0w,z a s rfl,Aa,M,O,Y,Aq,m]
theorem bem {t s:Bo}{k:Tk} (h:TokT t s k) (o:(t++s).length<=1048576):F61 0 (t++s)=some (PV.agg [PV.int k.k,PV.str k.s,PV.int k.n,PV.int 0],((t.length:Nat):Int),0):=by
 cases h with
 | name d m=>unfold F61;rw [aua d s,Aa,show ((3:Int)==3)=true from rfl,Ad,a1y d m o];rfl
 | int d m=>unfold F61;rw [azg d s,Aa,show ((4:Int)==3)=false from rfl,Ae,show ((4:Int)==4)=true from rfl,Ad,a8s d m o];rfl
 | text d=>unfold F61;rw [auc,Aa,show ((5:Int)==3)=false from rfl,Ae,show ((5:Int)==4)=false from rfl,Ae,show ((5:Int)==5)=true from rfl,Ad,aoh d s o];rfl
 | @sign c s d=>grind [decide,decide_eq_true,F61,aub]
inductive TksT:Bo->List Tk->Prop
 | nil:TksT [] []
 | sp {c:UInt8}{s:Bo}{l:List Tk}:c=32\/c=10->TksT s l->TksT (c::s) l
 | tok {t s:Bo}{k:Tk}{l:List Tk}:TokT t s k->TksT s l->TksT (t++s) (k::l)
def bnc (s:Bo) (l:List Tk):Prop:=(s=[]/\l=[])\/∃ t r k q,s=t++r/\l=k::q/\TokT t r k/\TksT r q
theorem a9c {d:Bo} (hl:d.length<=1048576) {s:Bo}{l:List Tk} (h:TksT s l):∀ i:Nat,d.drop i=s->i<=d.length->∃ k z,aa9 (S59_3step 0) (d,(i:Int))=some z/\(z=.inl ((k:Nat):Int)\/z=.inr ((k:Nat):Int))/\i<=k/\k<=d.length/\bnc (d.drop k) l:=by
 induction h with
 | nil=>
  intro i m o;have U:d.length<=i:=by simp_all
  have H:decide ((i:Int)<(d.length:Int))=false:=Al (by omega);refine ⟨i,.inr (i:Int),aae ?_,Or.inr rfl,Nat.le_refl _,o,Or.inl ⟨m,rfl⟩⟩;simp only [S59_3step,S59_3,H,Ae]
 | @sp c s l W V X=>
  intro i m o;obtain ⟨M,_,hn⟩:=af2 0 m;have H:decide ((i:Int)<(d.length:Int))=true:=Aj (by omega);have st:S59_3step 0 (d,(i:Int))=some (.inl (d,((i+1:Nat):Int))):=by simp only [S59_3step,S59_3,H,alo d o,Ad,afd,m,a2i s W,Aa,abv (show i<=9223372036854775000 by omega)];rfl
  grind [aba]
 | @tok t s Y l O V X=>
  intro i m o;have M:i<d.length:=by have:=congrArg List.length m;have:=List.length_pos_iff.2 (azp O.tok);grind
  have H:decide ((i:Int)<(d.length:Int))=true:=Aj (by omega);obtain ⟨k,Z,q2,q3⟩:=ben O.tok;refine ⟨i,.inl (i:Int),aae ?_,Or.inl rfl,Nat.le_refl _,o,Or.inr ⟨t,s,Y,l,m,rfl,O,V⟩⟩;simp only [S59_3step,S59_3,H,alo d o,Ad,afd,m,Z,q2,q3,Aa,Ae]
theorem bim {s:Bo}{l:List Tk} (M:s.length<=1048576) (h:TksT s l):∃ k:Nat,F59 0 s=some (k:Int)/\k<=s.length/\bnc (s.drop k) l:=by obtain ⟨k,z,d,m,_,o,H⟩:=a9c M h 0 rfl (by omega);refine ⟨k,?_,o,H⟩;unfold F59;rw [aaq,show (0:Int)=((0:Nat):Int) from rfl,d];rcases m with rfl | rfl<;>rfl
def TkOk (x:PV):Prop:=(-9223372036854775808<=(x.fld 2).asInt/\(x.fld 2).asInt<=9223372036854775807)/\(x.fld 1).asStr.length<=1048576
theorem bms {t s:Bo}{k:Tk} (h:TokT t s k) (o:t.length<=1048576):(-9223372036854775808<=k.n/\k.n<=9223372036854775807)/\k.s.length<=1048576:=by
 cases h with
 | name d m=>grind
 | int d m=>exact ⟨by grind [IntKind.wrap,IntKind.wrap_i64],Nat.zero_le _⟩
 | text d=>grind
 | sign d=>grind
theorem a87 {d:Bo} (hl:d.length<=16384):∀ (m i:Nat) (o:List PV) (z:Int) (l:List Tk),d.length-i<=m->i<=d.length->o.length<=i->TksT (d.drop i) l->∃ xs,aa9 (S28_7step 0) (d,o,z,(i:Int))=some (.inl (o++xs))/\xs.map tkOf=l/\∀ x,x∈xs->TkOk x:=by
 intro m;induction m with
 | zero=>
  intro i o z l hm hi ha M;have W:decide ((i:Int)<(d.length:Int))=false:=Al (by omega);rw [A2 (by omega)] at M;have U:l=[]:=by
   generalize hs:([]:Bo)=s at M;cases M with
   | nil=>rfl
   | sp=>cases hs
   | tok X h2=>have:=azp X.tok;simp_all
  subst U;exact ⟨[],by rw [List.append_nil];exact aae (by simp only [S28_7step,S28_7,W,Ae]),rfl,λx Y=>by cases Y⟩
 | succ m ih=>
  intro i o z l hm hi ha M;by_cases ai:i<d.length
  ·have W:decide ((i:Int)<(d.length:Int))=true:=Aj (by omega);obtain ⟨k,X,h2,O⟩:=bim (by grind) M;rw [A4] at h2;rw [Bd] at O;have w1:IntKind.wrap .i64 ((i:Int)+(k:Int))=((i+k:Nat):Int):=by grind [acs]
   have e2:decide (0<=(i:Int)/\(i:Int)<=((i+k:Nat):Int)/\((i+k:Nat):Int)<=(d.length:Int))=true:=Aj (by omega);have Z:∀ l:Bo,∃ n:Int,as7 0 l ([10]:Bo)=some n:=λl=>⟨_,rfl⟩;obtain ⟨n,hn⟩:=Z ((d.take (((i+k:Nat):Int)).toNat).drop ((i:Int)).toNat);rcases O with ⟨O,h4⟩ | ⟨t,r,H,q,O,h4,V,hr⟩
   ·subst h4;have aa:i+k=d.length:=by
     have:=congrArg List.length O;grind
    have e3:(((i+k:Nat):Int)==(d.length:Int))=true:=by rw [aa];simp
    refine ⟨[],?_,rfl,λx Y=>by cases Y⟩;rw [List.append_nil];refine aae ?_;simp only [S28_7step,S28_7,W,alo d hi,Ad,afd,X,w1,e2,hn,e3,Aa]
   ·subst h4;have ab:=congrArg List.length O;rw [A4,Am] at ab;have ag:=List.length_pos_iff.2 (azp V.tok);have e3:(((i+k:Nat):Int)==(d.length:Int))=false:=by grind
    have hk:=bem V (by grind);rw [<-O] at hk;have w2:IntKind.wrap .i64 (((i+k:Nat):Int)+((t.length:Nat):Int))=((i+k+t.length:Nat):Int):=by grind [acs]
    have e4:decide (0<=((i+k:Nat):Int)/\((i+k:Nat):Int)<=((i+k+t.length:Nat):Int)/\((i+k+t.length:Nat):Int)<=(d.length:Int))=true:=Aj (by omega);have ea:∀ x:PV,decide (o.length+[x].length<=aak)=true:=λx=>Aj (by grind [List.length_cons,List.length_nil,aak]);obtain ⟨n2,af⟩:=Z ((d.take (((i+k+t.length:Nat):Int)).toNat).drop (((i+k:Nat):Int)).toNat);have z0:((0:Int) != (0:Int))=false:=rfl;have hd:d.drop (i+k+t.length)=r:=by grind [List.drop_drop,List.drop_left]
    have st:∃ ln line2,S28_7step 0 (d,o,z,(i:Int))=some (.inl (d,o++[PV.agg [PV.int H.k,PV.str H.s,PV.int H.n,PV.int ln]],line2,((i+k+t.length:Nat):Int))):=by simp only [S28_7step,S28_7,W,alo d hi,alo d (show i+k<=d.length by omega),Ad,Ae,afd,X,w1,w2,e2,e4,ea,hn,af,hk,z0,e3,Aa];exact ⟨_,_,rfl⟩
    obtain ⟨ln,line2,st⟩:=st;obtain ⟨xs,ah,ae,Y⟩:=ih (i+k+t.length) (o++[PV.agg [PV.int H.k,PV.str H.s,PV.int H.n,PV.int ln]]) line2 q (by omega) (by omega) (by simp;omega) (by grind);refine ⟨PV.agg [PV.int H.k,PV.str H.s,PV.int H.n,PV.int ln]::xs,?_,?_,?_⟩
    ·grind [aba,List.append_assoc]
    ·rw [Be,ae];rfl
    ·intro x ad;rcases Bl.1 ad with rfl | ad
     ·exact bms V (by omega)
     grind
  ·have W:decide ((i:Int)<(d.length:Int))=false:=Al (by omega);rw [A2 (by omega)] at M;have U:l=[]:=by
    generalize hs:([]:Bo)=s at M;cases M with
    | nil=>rfl
    | sp=>cases hs
    | tok X h2=>have:=azp X.tok;simp_all
   subst U;exact ⟨[],by rw [List.append_nil];exact aae (by simp only [S28_7step,S28_7,W,Ae]),rfl,λx Y=>by cases Y⟩
theorem bh0 {s:Bo}{l:List Tk} (z:s.length<=16384) (h:TksT s l):∃ xs,F28 0 s=some (xs,0,0)/\xs.map tkOf=l/\∀ x,x∈xs->TkOk x:=by obtain ⟨xs,d,m,o⟩:=a87 z s.length 0 [] 1 l (by omega) (by omega) (by simp) h;have e:decide ((s.length:Int)>(16384:Int))=false:=Al (by omega);refine ⟨xs,?_,m,o⟩;unfold F28;rw [e,Ae,aaq,show (0:Int)=((0:Nat):Int) from rfl,d];rfl
end Go.Ab
namespace Go.Ab
open Go
set_option maxRecDepth 100000
noncomputable section
def aky (n:Int):List Tk:=bif decide (n<0) then [⟨4,[45],0⟩,⟨2,[],IntKind.wrap .i64 (n.natAbs:Int)⟩] else [⟨2,[],IntKind.wrap .i64 (n.toNat:Int)⟩]
def auj (v:PV):List Tk:=
 bif aa7 v==1 then [⟨1,bif aan v==1 then [116,114,117,101] else [102,97,108,115,101],0⟩]
 else bif aa7 v==3 then aky (IntKind.wrap .i64 (aan v))
 else bif aa7 v==7 then [⟨3,abl v,0⟩]
 else [⟨2,[],IntKind.wrap .i64 ((aan v).toNat:Int)⟩]
def nTks (n:PV):List Tk:=⟨1,aef n,0⟩::⟨4,[61],0⟩::auj (nVal n)
def ajo:List PV->List Tk
 | []=>[⟨4,[93],0⟩]
 | n::r=>⟨4,[44],0⟩::(nTks n++ajo r)
theorem acb {s:Bo}{l:List Tk} (h:TksT s l):TksT (32::s) l:=.sp (Or.inl rfl) h
theorem a5j (c:UInt8) (d:aia c=true) {s:Bo}{l:List Tk} (h:TksT s l):TksT (c::s) (⟨4,[c],0⟩::l):=.tok (t:=[c]) (.sign d) h
theorem bfz {c:UInt8}{r:Bo} (h:alnB c=false) (m:c≠46):endN (c::r):=λd q e=>by grind
theorem axv {s:Bo} (h:endN s):endI s:=λc r e=>(h c r e).1
theorem avl {n:Int} (o:-9223372036854775808<=n) (z:n<=9223372036854775807) {s:Bo}{l:List Tk} (d:endI s) (m:TksT s l):TksT (amb n++s) (aky n++l):=by
 unfold amb aky;by_cases h:n<0
 ·rw [Aj h];exact a5j 45 (by decide) (.tok (.int (u:=n.natAbs) (by omega) d) m)
 ·rw [Al h];exact .tok (.int (u:=n.toNat) (by omega) d) m
theorem bm0 {k:Int} (H:k=1\/k=7\/k=3\/k=4) {v:PV} (O:aee v) (z:adc k v=true) {s:Bo}{l:List Tk} (m:endN s) (d:TksT s l):TksT (am6 v++s) (auj v++l):=by
 rw [a5g z];obtain ⟨_,M,U,V⟩:=O;have W:-9223372036854775808<=IntKind.wrap .i64 (aan v)/\IntKind.wrap .i64 (aan v)<=9223372036854775807:=by rw [IntKind.wrap_i64];omega
 have o:=(aea z).1;unfold auj;rw [o];rcases H with rfl | rfl | rfl | rfl
 ·show TksT ((bif aan v==1 then [116,114,117,101] else [102,97,108,115,101])++s) _;cases (aan v==1) with
  | true=>exact .tok (t:=[116,114,117,101]) (.name (by decide) m) d
  | false=>exact .tok (t:=[102,97,108,115,101]) (.name (by decide) m) d
 ·exact .tok (.text M) d
 ·grind [avl,axv]
 ·exact .tok (.int (u:=(aan v).toNat) (by omega) (axv m)) d
theorem bb6:(knownNames.all ack)=true:=by kernel_rfl
theorem a4n {n:PV} (z:abt n=true) (O:acq n) {s:Bo}{l:List Tk} (o:endN s) (H:TksT s l):TksT (afq n++s) (nTks n++l):=by obtain ⟨m,M⟩:=ar5 z;have d:aac (aef n)≠0:=ajc m;unfold afq nTks;simp only [An,As,Au];exact .tok (.name (Bf.1 bb6 _ m) (bfz (by decide) (by decide))) (acb (a5j 61 (by decide) (acb (bm0 (ajd d) O.1 M o H))))
theorem bmr {s:Bo}{l:List Tk} (h:TksT s l):l.length<=s.length:=by
 induction h with
 | nil=>grind
 | sp _ _ m=>grind
 | tok d _ m=>have:=List.length_pos_iff.2 (azp d.tok);grind
def alh (v:PV):PV:=ad0 (aa7 v) (aan v) (abl v)
def a1p (n:PV):PV:=PV.agg [PV.str (aef n),alh (nVal n)]
theorem bhj {k:Int} (o:k=3\/k=4) (d:Bool) {u:Nat} (m:u<18446744073709551616):parV k ((bif d then ([45]:Bo) else [])++decB u)=numV k d u:=by unfold parV;rw [ar6 d m,bhl k o d u m];rfl
theorem azv {u:Nat} (d:u<18446744073709551616):(IntKind.wrap .u64 (IntKind.wrap .i64 (u:Int))).toNat=u:=by rw [IntKind.wrap_u64,IntKind.wrap_i64];omega
theorem avi {k:Int} (o:k=3\/k=4) (d:Bool) {u:Nat} (m:u<18446744073709551616) (R:List Tk) {b:Int} (h:numV k d u=(mkV k b,0)):intS parV k d (⟨2,[],IntKind.wrap .i64 (u:Int)⟩::R)=.ok (mkV k b) R:=by unfold intS;rw [show aav (⟨2,[],IntKind.wrap .i64 (u:Int)⟩::R:List Tk)=2 from rfl,show ali (⟨2,[],IntKind.wrap .i64 (u:Int)⟩::R:List Tk)=IntKind.wrap .i64 (u:Int) from rfl,azv m,bhj o d m,h];rfl
theorem bi4 {k:Int} (V:k=1\/k=7\/k=3\/k=4) {v:PV} (sv:aee v) (z:adc k v=true) (R:List Tk):ad3 parV k (auj v++R)=.ok (alh v) R:=by
 have U:=aea z;obtain ⟨H,W,m⟩:=U;obtain ⟨_,_,b0,b1⟩:=sv;obtain ⟨u,Z⟩:∃ u:Nat,aan v=(u:Int):=⟨(aan v).toNat,by omega⟩;unfold auj alh ad3;rw [H];rcases V with rfl | rfl | rfl | rfl
 ·have o:abl v=[]/\acd 1 (aan v)=true:=m;have Y:aan v<=1:=by grind [acd]
  rw [o.1,Z];rcases (show u=0\/u=1 by omega) with rfl | rfl<;>rfl
 ·have o:aan v=0:=m;have h3:(abl v).length<=4096/\valid (abl v)=true:=by
   unfold adc at z;simp only [Ag] at z;have O:=z.2;rw [show afp 7=true from rfl,if_pos rfl] at O;grind
  have d:decide ((abl v).length>4096)=false:=Al (by omega);show (bif decide ((abl v).length>4096) then Rs.er _ 3 else bif valid (abl v) then Rs.ok (ad0 7 0 (abl v)) R else Rs.er _ 7)=_;grind
 ·have o:abl v=[]:=m.1;rw [o];show (bif isS 4 [45] (aky (IntKind.wrap .i64 (aan v))++R) then intS parV 3 true (aky (IntKind.wrap .i64 (aan v))++R).tail else intS parV 3 false (aky (IntKind.wrap .i64 (aan v))++R))=_;unfold aky;by_cases M:IntKind.wrap .i64 (aan v)<0
  ·rw [Aj M];refine avi (Or.inl rfl) true (u:=(IntKind.wrap .i64 (aan v)).natAbs) (by grind [IntKind.wrap_i64]) R ?_;have hw:IntKind.wrap .i64 (aan v)=aan v-18446744073709551616:=by grind [IntKind.wrap_i64]
   have aa:((IntKind.wrap .i64 (aan v)).natAbs:Int)=18446744073709551616-aan v:=by omega
   unfold numV;rw [if_neg (by omega),if_neg (by decide),if_pos rfl,if_neg (by grind [IntKind.wrap_i64])];grind [IntKind.wrap_u64]
  ·rw [Al M];have hw:IntKind.wrap .i64 (aan v)=aan v:=by grind [IntKind.wrap_i64]
   have X:aan v<9223372036854775808:=by grind [IntKind.wrap_i64]
   refine avi (Or.inl rfl) false (u:=(IntKind.wrap .i64 (aan v)).toNat) (by omega) R ?_;unfold numV;grind
 ·have o:abl v=[]/\acd 4 (aan v)=true:=m;have Y:aan v<4294967296:=by grind [acd]
  rw [o.1];refine avi (Or.inr rfl) false (u:=(aan v).toNat) (by omega) R ?_;unfold numV;grind
theorem ayq {n:PV} (m:abt n=true) (M:acq n) (R:List Tk):anw parV aac (nTks n++R)=.ok (a1p n) R:=by obtain ⟨z,H⟩:=ar5 m;have d:aac (aef n)≠0:=ajc z;have o:=bi4 (ajd d) M.1 H R;show (bif aac (aef n)==0 then _ else (ad3 parV (aac (aef n)) (auj (nVal n)++R)).bind _)=_;rw [beqI d,o];rfl
theorem bdo:∀ (l:List PV) (n:PV) (d:List PV) (R:List Tk),(n::l).all abt=true->(∀ x,x∈n::l->acq x)->ab4 parV aac (nTks n++(ajo l++R)) d=.ok (d++(n::l).map a1p) R:=by
 intro l;induction l with
 | nil=>intro n d R m o;simp only [A9,Ag] at m;rw [abw,ayq m.1 (o n (by simp)),Rs.bind_ok];rfl
 | cons a l H=>intro n d R m o;have z:=m;simp only [A9,Ag] at m;rw [abw,ayq m.1 (o n (by simp)),Rs.bind_ok];have:=H a (d++[a1p n]) R (by grind) (λx M=>o x (by grind));show ab4 parV aac (nTks a++ajo l++R) (d++[a1p n])=_;grind
theorem a8g {a:PV}{l:List PV} (d:(a::l).all abt=true) (m:∀ n,n∈a::l->acq n) (R:List Tk):ac9 parV aac ((⟨4,[91],0⟩::(nTks a++ajo l))++R)=.ok ((a::l).map a1p) R:=by have:=bdo l a [] R d m;show ab4 parV aac (nTks a++ajo l++R) []=_;grind
end
end Go.Ab
namespace Go.Ab
open Go
set_option maxRecDepth 100000
inductive PG {α R S Z:Type} (t:List PV) (ok:R->S) (er:PV×Z->S) (I:α->Nat->Prop) (mk:α->Int->R) (x:Rs α) (y:Option S):Prop
 | ok (v:α) (j:Nat):j<=t.length->I v j->x=.ok v (ts t j)->y=some (ok (mk v ((j:Nat):Int)))->PG t ok er I mk x y
 | er (j:Nat) (e:Int) (z:Z):j<=t.length->e≠0->x=.er (ts t j) e->y=some (er (PV.agg [PV.int ((j:Nat):Int),PV.int e],z))->PG t ok er I mk x y
theorem Par.pg {α R:Type}{t:List PV}{q:QF}{mk:α->Q0->R}{x:Rs α}{y:Option (R⊕(PV×Q0))} (h:Par t q mk x y):PG t Sum.inl Sum.inr (λ_ _=>True) (λv j=>mk v (t,j,q)) x y:=by
 rcases h with ⟨v,j,d,m,o⟩ | ⟨j,e,d,z,m,o⟩
 ·exact .ok v j d trivial m o
 ·exact .er j e _ d z m o
theorem PG.seq {α W R Y H Z Z':Type}{t:List PV}{I:α->Nat->Prop}{X:W->Nat->Prop}{mk:α->Int->R}{o:Y->H}{d:PV×Z'->H}{m:W->Int->Y}{x:Rs α}{y:Option (R⊕(PV×Z))}{f:α->List Tk->Rs W}{g:R->Option H}{E:PV×Z->Option H}
 (h:PG t Sum.inl Sum.inr I mk x y) (hc:∀ v j,j<=t.length->I v j->x=.ok v (ts t j)->PG t o d X m (f v (ts t j)) (g (mk v ((j:Nat):Int)))) (hE:∀ p z,∃ V,E (p,z)=some (d (p,V))):
 PG t o d X m (x.bind f) (y.bind λz=>sumE g E z):=by
 rcases h with ⟨v,j,O,hi,M,U⟩ | ⟨j,e,z,O,he,M,U⟩
 ·have:=hc v j O hi M;rw [M,U];exact this
 ·obtain ⟨V,hz⟩:=hE (PV.agg [PV.int ((j:Nat):Int),PV.int e]) z;rw [M,U];exact .er j e V O he rfl hz
theorem PG.swap {α W R Y H Z Z':Type}{t:List PV}{I:α->Nat->Prop}{X:W->Nat->Prop}{mk:α->Int->R}{o:Y->H}{d:PV×Z'->H}{m:W->Int->Y}{x:Rs α}{y:Option ((PV×Z)⊕R)}{f:α->List Tk->Rs W}{g:R->Option H}{E:PV×Z->Option H}
 (h:PG t Sum.inr Sum.inl I mk x y) (hc:∀ v j,j<=t.length->I v j->x=.ok v (ts t j)->PG t o d X m (f v (ts t j)) (g (mk v ((j:Nat):Int)))) (hE:∀ p z,∃ V,E (p,z)=some (d (p,V))):
 PG t o d X m (x.bind f) (y.bind λz=>sumE E g z):=by
 rcases h with ⟨v,j,O,hi,M,U⟩ | ⟨j,e,z,O,he,M,U⟩
 ·have:=hc v j O hi M;rw [M,U];exact this
 ·obtain ⟨V,hz⟩:=hE (PV.agg [PV.int ((j:Nat):Int),PV.int e]) z;rw [M,U];exact .er j e V O he rfl hz
section
variable {α R S Z:Type}{t:List PV}{ok:R->S}{er:PV×Z->S}{I:α->Nat->Prop}{mk:α->Int->R}
theorem PG.may (M:TOk t) (s:Bo) (k:Int) (H:kOf s=k) (i:Nat) (z:i<=t.length) (q:QF) {K:Bool×Q0->Option S}{x1 d:Rs α}
 (m:isS k s (ts t i)=true->i+1<=t.length->PG t ok er I mk x1 (K (true,(t,((i+1:Nat):Int),q)))) (o:isS k s (ts t i)=false->PG t ok er I mk d (K (false,(t,(i:Int),q)))):
 PG t ok er I mk (bif isS k s (ts t i) then x1 else d) ((F91 0 () s (t,(i:Int),q)).bind K):=by
 grind [anu,isS,ts,aeb]
theorem PG.sign (M:TOk t) (s:Bo) (k:Int) (H:kOf s=k) (i:Nat) (z:i<=t.length) (q:QF) {K:Bool×Q0->Option S}{x1 d:Rs α}
 (m:isS k s (ts t i)=true->PG t ok er I mk x1 (K (true,(t,(i:Int),q)))) (o:isS k s (ts t i)=false->PG t ok er I mk d (K (false,(t,(i:Int),q)))):
 PG t ok er I mk (bif isS k s (ts t i) then x1 else d) ((F96 0 () s (t,(i:Int),q)).bind K):=by
 grind [at6,isS,ts]
end
theorem ad9 {α:Type}{x:Rs α}{t:List PV}{i j:Nat}{v:α} (o:i<=t.length) (z:j<=t.length) (d:Sh x (ts t i)) (m:x=.ok v (ts t j)):i<j:=by have:=d v _ m;grind [aeq]
theorem bjv {α:Type}{x:Rs α}{t:List PV}{i j:Nat}{v:α} (o:i<=t.length) (z:j<=t.length) (d:Sh0 x (ts t i)) (m:x=.ok v (ts t j)):i<=j:=by have:=d v _ m;grind [aeq]
theorem accL {n:Nat} (h:n<=68719476736):decide (n<=aak)=true:=Aj h
theorem a3w {s:Bo} (h:afb s=true):s.length<=120:=by unfold afb at h;grind
theorem a74 {o s:Bo} (h:amn o s=true):(aq7 o s).length<=120:=by
 unfold amn at h;simp only [Ag,A5] at h;rcases h.2 with d | d
 ·have e:o=[]:=by simpa using d
  subst e;have:=h.1;unfold defP at this;simp only [Ag] at this;exact a3w this.1
 grind [a3w]
theorem bb1 (o s:Bo) (d:o.length<=1048576) (m:s.length<=1048576):F288 0 o s=some (aq7 o s):=by
 unfold F288 aq7;cases h:(o==[]) with
 | true=>rfl
 | false=>have z:decide (o.length+([46]:Bo).length<=aaf)=true:=aq9 (by simp;omega);have H:decide ((o++([46]:Bo)).length+s.length<=aaf)=true:=aq9 (by simp;omega);grind
theorem bcq (o s:Bo) (O:o.length<=120) (d:s.length<=1048576):F287 0 s () o=some (amn o s,o):=by
 have M:(aq7 o s).length<=1048820:=by grind [aq7]
 unfold F287 amn;rw [ax9 s d,Aa,ag3,bb1 o s (by omega) d];cases defP s with
 | false=>grind
 | true=>
  cases H:(o==[]) with
  | true=>rfl
  | false=>
   cases m:aes s with
   | false=>rfl
   | true=>
    have z:s.length<=120:=by unfold aes at m;grind
    have:=ajb (aq7 o s) (by grind [aq7]);grind
theorem aro (o:Bo) (X:o.length<=120) (t:List PV) (H:TOk t) (i:Nat) (W:i<=t.length) (O U:Bo) (V M ms es:List PV):
 PG t Sum.inl Sum.inr (λv _=>v.length<=120) (λv j=>(v,(t,j,O,U,(),(),(),V,M,ms,es))) (ak1 o (ts t i)) (F204 0 () o (t,(i:Int),O,U,(),(),(),V,M,ms,es)):=by
 have hl:=H.len
 unfold F204 ak1 ahl F92_v2
 simp only [afk t i (O,U,(),(),(),V,M,ms,es),Aa]
 by_cases m:aav (ts t i)=1
 ·have z:(aav (ts t i) != 1)=false:=by rw [m];rfl
  have d:(aav (ts t i)==1)=true:=by rw [m];rfl
  have h:i<t.length:=aek rfl d;have hx:acj (ts t i)=((t.getD i .bad).fld 1).asStr:=by rw [afg h];rfl
  simp only [z,d,Ae,Ad,aab,h,decide_true,Ah,bcq o _ X (beo H h),Aa,hx,abv (show i<=9223372036854775000 by omega)];cases Y:amn o ((t.getD i .bad).fld 1).asStr with
  | true=>simp only [Aq,Ae,Ad,ab3,bb1 o _ (by omega) (beo H h),Aa,Rs.bind_ok];exact .ok _ (i+1) h (a74 Y) (by rw [aa5]) rfl
  | false=>exact .er i 8 _ W (by decide) rfl rfl
 ·have z:(aav (ts t i) != 1)=true:=bneI m;have d:(aav (ts t i)==1)=false:=beqI m;simp only [z,d,Ad,Ae];exact .er i 2 _ W (by decide) rfl rfl
theorem a7e (t:List PV) (V:TOk t) (h5:t.length<=100000) (i0:Nat) (q:QF):∀ (m i:Nat) (d:List PV),t.length-i<=m->i<=t.length->d.length+i0<=i->
 PG t Sum.inl Sum.inr (λv j=>v.length+i0<=j) (λv j=>(v,(t,j,q))) (goneS (ts t i) d) (aa9 (S207_3step 0) ((),d,(t,(i:Int),q))):=by
 intro m
 induction m with
 | zero=>
  intro i d hm U ha
  rw [ah2,show abn (ts t i)=.er (ts t i) 2 by rw [aik (by omega)];rfl]
  have M:S207_3step 0 ((),d,(t,(i:Int),q))=some (.inr (.inr (PV.agg [PV.int (i:Int),PV.int 2],(t,(i:Int),q)))):=by
   unfold S207_3step S207_3;rcases ahs t V i U q with ⟨v,j,o,H,M⟩ | ⟨j,e,o,X,H,M⟩
   ·have:=ad9 U o (acz _) H;omega
   ·rw [show abn (ts t i)=.er (ts t i) 2 by rw [aik (by omega)];rfl] at H;grind [Rs.er.injEq,bj1,abg]
  exact .er i 2 (t,(i:Int),q) U (by decide) rfl (aae M)
 | succ m ih=>
  intro i d hm U ha
  rw [ah2]
  have Y:∀ x:PV,decide (d.length+[x].length<=aak)=true:=λx=>accL (by simp;omega)
  rcases ahs t V i U q with ⟨v,j,o,H,M⟩ | ⟨j,e,o,X,H,M⟩
  ·have ab:=ad9 U o (acz _) H;rw [H,Rs.bind_ok];cases W:isS 4 [59] (ts t j) with
   | true=>refine .ok (d++[PV.str v]) (j+1) (aeb W) (by simp;omega) (by rw [Ad,aa5]) (aae ?_);simp only [S207_3step,S207_3,M,Aa,ab3,Y,Ad,anu [59] 4 (by decide) t V j o,W]
   | false=>
    rw [Ae];rcases ae3 [44] 4 (by decide) t V j o q with ⟨_,k,hk,z,O⟩ | ⟨k,e,hk,X,z,O⟩
    ·have aa:=ad9 o hk (abo _ _ _) z;rw [z,Rs.bind_ok];have st:S207_3step 0 ((),d,(t,(i:Int),q))=some (.inl ((),d++[PV.str v],(t,(k:Int),q))):=by
      simp only [S207_3step,S207_3,M,Aa,ab3,Y,Ad,Ae,anu [59] 4 (by decide) t V j o,W,O]
     grind [aba]
    ·rw [z,Rs.bind_er];refine .er k e (t,(k:Int),q) hk X rfl (aae ?_);simp only [S207_3step,S207_3,M,Aa,ab3,abg,Y,Ad,Ae,anu [59] 4 (by decide) t V j o,W,O]
  ·rw [H,Rs.bind_er];refine .er j e (t,(j:Int),q) o X rfl (aae ?_);grind [S207_3step,S207_3,abg]
theorem bgb (t:List PV) (O:TOk t) (o:t.length<=100000) (i:Nat) (M:i<=t.length) (q:QF):
 PG t Sum.inl Sum.inr (λv j=>v.length+i<=j) (λv j=>(v,(t,j,q))) (goneS (ts t i) []) (F207 0 () (t,(i:Int),q)):=by
 unfold F207
 rw [aaq]
 rcases a7e t O o i q t.length i [] (by omega) M (by simp) with ⟨v,j,d,U,m,V⟩ | ⟨j,e,z,d,H,m,V⟩
 ·exact .ok v j d U m (by grind [ab3])
 ·exact .er j e z d H m (by grind [abg])
end Go.Ab
namespace Go.Ab
open Go
set_option maxRecDepth 100000
def ak5 (l:List PV):Prop:=l.length<=100000/\∀ x,x∈l->az1 x
def ak3 (v:PV):Prop:=bj4 v/\(v.fld 8).asList.length<=100000
def apm (v:PV):Prop:=ak5 (v.fld 4).asList
def azw (v:PV):Prop:=ak5 (v.fld 2).asList
def aho (v:PV):Prop:=(v.fld 2).asList.length<=100000/\(∀ x,x∈(v.fld 2).asList->azw x)/\(v.fld 3).asList.length<=100000/\ak5 (v.fld 4).asList
def bjd (v:PV):Prop:=(v.fld 1).asList.length<=100000/\(∀ x,x∈(v.fld 1).asList->apm x)/\ak5 (v.fld 2).asList
def alv (v:PV):Prop:=(v.fld 1).asList.length<=100000/\(∀ x,x∈(v.fld 1).asList->ak3 x)/\(v.fld 2).asList.length<=100000/\(v.fld 3).asList.length<=100000/\ak5 (v.fld 4).asList
theorem af9 {t:List PV}{i j:Nat}{v:List PV} (d:t.length<=100000) (h:ac9 parV aac (ts t i)=.ok v (ts t j)):ak5 v:=by have:=aty h;rw [aeq] at this;exact ⟨by omega,atz h⟩
theorem ae9 {P:PV->Prop}{l:List PV}{x:PV} (h:∀ y,y∈l->P y) (d:P x):∀ y,y∈l++[x]->P y:=λy m=>by grind
theorem be5 {P:PV->Prop}{l m:List PV} (h:∀ y,y∈l->P y) (d:∀ y,y∈m->P y):∀ y,y∈l++m->P y:=λy o=>by grind
theorem all_nil {P:PV->Prop}:∀ y,y∈([]:List PV)->P y:=λy d=>by cases d
theorem Rs.bind_assoc {α β d:Type} (x:Rs α) (f:α->List Tk->Rs β) (g:β->List Tk->Rs d):(x.bind f).bind g=x.bind λv r=>(f v r).bind g:=by cases x<;>rfl
inductive PL {α β R S Z σ:Type} (t:List PV) (st:β->Int->σ) (spec:List Tk->β->Rs α) (J:β->Nat->Prop) (ok:R->S) (er:PV×Z->S) (I:α->Nat->Prop) (mk:α->Int->R) (i:Nat) (x:Rs α) (y:Option (σ⊕S)):Prop
 | go (b:β) (j:Nat):i<j->j<=t.length->J b j->x=spec (ts t j) b->y=some (.inl (st b ((j:Nat):Int)))->PL t st spec J ok er I mk i x y
 | done (v:α) (j:Nat):j<=t.length->I v j->x=.ok v (ts t j)->y=some (.inr (ok (mk v ((j:Nat):Int))))->PL t st spec J ok er I mk i x y
 | er (j:Nat) (e:Int) (z:Z):j<=t.length->e≠0->x=.er (ts t j) e->y=some (.inr (er (PV.agg [PV.int ((j:Nat):Int),PV.int e],z)))->PL t st spec J ok er I mk i x y
section
variable {α β R S Z σ:Type}{t:List PV}{st:β->Int->σ}{spec:List Tk->β->Rs α}{J:β->Nat->Prop}{ok:R->S}{er:PV×Z->S}{I:α->Nat->Prop}{mk:α->Int->R}{i:Nat}
theorem PL.loop {step:σ->Option (σ⊕S)} (h:∀ i b,i<=t.length->J b i->PL t st spec J ok er I mk i (spec (ts t i) b) (step (st b (i:Int)))):∀ (m i:Nat) (b:β),t.length-i<=m->i<=t.length->J b i->PG t ok er I mk (spec (ts t i) b) (aa9 step (st b (i:Int))):=by
 intro m;induction m with
 | zero=>
  intro i b W O U;rcases h i b O U with ⟨V,j,d,o,_⟩ | ⟨v,j,d,o,H,M⟩ | ⟨j,e,z,d,o,H,M⟩
  ·omega
  ·exact .ok v j d o H (aae M)
  ·exact .er j e z d o H (aae M)
 | succ m Y=>
  intro i b W O U;rcases h i b O U with ⟨V,j,d,o,H,M,X⟩ | ⟨v,j,d,o,H,M⟩ | ⟨j,e,z,d,o,H,M⟩
  ·grind [aba]
  ·exact .ok v j d o H (aae M)
  ·exact .er j e z d o H (aae M)
theorem PL.seq {d H X:Type}{W:d->Nat->Prop}{m:d->Int->H}{U:Rs d}{Y:Option (H⊕(PV×X))}{f:d->List Tk->Rs α}{g:H->Option (σ⊕S)}{E:PV×X->Option (σ⊕S)}
 (h:PG t Sum.inl Sum.inr W m U Y) (hc:∀ v j,j<=t.length->W v j->U=.ok v (ts t j)->PL t st spec J ok er I mk i (f v (ts t j)) (g (m v ((j:Nat):Int)))) (hE:∀ p z,∃ V,E (p,z)=some (.inr (er (p,V)))):
 PL t st spec J ok er I mk i (U.bind f) (Y.bind λz=>sumE g E z):=by
 rcases h with ⟨v,j,M,hi,o,O⟩ | ⟨j,e,z,M,he,o,O⟩
 ·have:=hc v j M hi o;rw [o,O];exact this
 ·obtain ⟨V,hz⟩:=hE (PV.agg [PV.int ((j:Nat):Int),PV.int e]) z;rw [o,O];exact .er j e V M he rfl hz
theorem PL.may (M:TOk t) (s:Bo) (k:Int) (H:kOf s=k) (j:Nat) (z:j<=t.length) (q:QF) {K:Bool×Q0->Option (σ⊕S)}{x1 d:Rs α}
 (m:isS k s (ts t j)=true->j+1<=t.length->PL t st spec J ok er I mk i x1 (K (true,(t,((j+1:Nat):Int),q)))) (o:isS k s (ts t j)=false->PL t st spec J ok er I mk i d (K (false,(t,(j:Int),q)))):
 PL t st spec J ok er I mk i (bif isS k s (ts t j) then x1 else d) ((F91 0 () s (t,(j:Int),q)).bind K):=by
 grind [anu,isS,ts,aeb]
theorem PL.sign (M:TOk t) (s:Bo) (k:Int) (H:kOf s=k) (j:Nat) (z:j<=t.length) (q:QF) {K:Bool×Q0->Option (σ⊕S)}{x1 d:Rs α}
 (m:isS k s (ts t j)=true->PL t st spec J ok er I mk i x1 (K (true,(t,(j:Int),q)))) (o:isS k s (ts t j)=false->PL t st spec J ok er I mk i d (K (false,(t,(j:Int),q)))):
 PL t st spec J ok er I mk i (bif isS k s (ts t j) then x1 else d) ((F96 0 () s (t,(j:Int),q)).bind K):=by
 grind [at6,isS,ts]
end
section
variable {t:List PV}
theorem bd4 (most:Int) (l:List Tk) (d:List PV):ada most l d=(numS most l).bind λa r=>bif isS 4 [45] r then ((numS most r.tail).bind λb m=>bif isS 4 [59] m then .ok (d++[PV.agg [PV.int a,PV.int b]]) m.tail else (eatS 4 [44] m).bind λ_ o=>ada most o (d++[PV.agg [PV.int a,PV.int b]]))
 else (bif isS 4 [59] r then .ok (d++[PV.agg [PV.int a,PV.int a]]) r.tail else (eatS 4 [44] r).bind λ_ o=>ada most o (d++[PV.agg [PV.int a,PV.int a]])):=by
 grind [akk,as3,Rs.bind_assoc,Rs.bind_ok,isS]
theorem azf (o:TOk t) (hn:∀ x,x∈t->-9223372036854775808<=(x.fld 2).asInt/\(x.fld 2).asInt<=9223372036854775807) (h5:t.length<=100000) (most:Int) (hm:0<=most/\most<=2147483647) (M:Nat) (Y:M<=t.length) (q:QF):
 PG t Sum.inl Sum.inr (λv j=>v.length+M<=j) (λv j=>(v,(t,j,q))) (ada most (ts t M) []) (F208 0 () most (t,(M:Int),q)):=by
 have lp:=PL.loop (t:=t) (st:=λ(b:List PV) j=>((),most,b,((t,j,q):Q0))) (spec:=λl b=>ada most l b) (J:=λb j=>b.length+M<=j) (ok:=Sum.inl) (er:=Sum.inr) (I:=λv j=>v.length+M<=j) (mk:=λv j=>(v,((t,j,q):Q0))) (step:=S208_3step 0) (λi b hi W=>by
  have ea:∀ x:PV,decide (b.length+[x].length<=aak)=true:=λx=>accL (by simp;omega);show PL t _ _ _ _ _ _ _ i (ada most (ts t i) b) _;rw [bd4];simp only [S208_3step,S208_3,ea,Ad];refine PL.seq (av1 t o i hi most hm hn q).pg (λa j d _ V=>?_) (λp z=>⟨_,rfl⟩);have h1:=ad9 hi d (arv most _) V;refine PL.may o [45] 4 (by decide) j d q (λ_ O=>?_) (λ_=>?_)
  ·simp only [Ad,aa5];refine PL.seq (av1 t o (j+1) O most hm hn q).pg (λc k X _ aa=>?_) (λp z=>⟨_,rfl⟩);have h2:=ad9 O X (arv most _) aa;refine PL.may o [59] 4 (by decide) k X q (λ_ m=>?_) (λ_=>?_)
   ·simp only [Ad,aa5];exact .done _ (k+1) m (by simp;omega) rfl rfl
   ·simp only [Ae];refine PL.seq (ae3 [44] 4 (by decide) t o k X q).pg (λ_ l U _ H=>?_) (λp z=>⟨_,rfl⟩);have h3:=ad9 X U (abo _ _ _) H;exact .go (b++[PV.agg [PV.int a,PV.int c]]) l (by omega) U (by simp;omega) rfl rfl
  ·simp only [Ae];refine PL.may o [59] 4 (by decide) j d q (λ_ m=>?_) (λ_=>?_)
   ·simp only [Ad,aa5];exact .done _ (j+1) m (by simp;omega) rfl rfl
   ·simp only [Ae];refine PL.seq (ae3 [44] 4 (by decide) t o j d q).pg (λ_ l U _ H=>?_) (λp z=>⟨_,rfl⟩);have h3:=ad9 d U (abo _ _ _) H;exact .go (b++[PV.agg [PV.int a,PV.int a]]) l (by omega) U (by simp;omega) rfl rfl) t.length M [] (by omega) Y (by simp)
 unfold F208
 rw [aaq]
 rcases lp with ⟨v,j,W,hv,V,hy⟩ | ⟨j,e,z,W,he,V,hy⟩
 ·exact .ok v j W hv V (by rw [hy];rfl)
 ·exact .er j e z W he V (by rw [hy];rfl)
theorem bev (po:aev) (ht:TNum t) (h5:t.length<=100000) (O:Nat) (W:O<=t.length) (q:QF):
 PG t Sum.inl Sum.inr (λv j=>v.length+O<=j/\∀ x,x∈v->ak3 x) (λv j=>(v,(t,j,q))) (ak2 parV aac (ts t O)) (F206 0 () (t,(O:Int),q)):=by
 have U:=ht.toTOk
 have lp:=λ(un:Bo)=>PL.loop (t:=t) (st:=λ(b:List PV) j=>((),un,b,((t,j,q):Q0))) (spec:=λl b=>acv parV aac un l b) (J:=λb j=>b.length+O<=j/\∀ x,x∈b->ak3 x) (ok:=Sum.inl) (er:=Sum.inr) (I:=λv j=>v.length+O<=j/\∀ x,x∈v->ak3 x) (mk:=λv j=>(v,((t,j,q):Q0))) (step:=S206_6step 0) (λi b hi hJ=>by
  obtain ⟨Y,X⟩:=hJ;have ea:∀ x:PV,decide (b.length+[x].length<=aak)=true:=λx=>accL (by simp;omega);show PL t _ _ _ _ _ _ _ i (acv parV aac un (ts t i) b) _;rw [ag6];simp only [S206_6step,S206_6,ea,Ad];refine PL.seq (a2u t U i hi q).pg (λty j o _ M=>?_) (λp z=>⟨_,rfl⟩);have h1:=ad9 hi o (auh _) M;refine PL.seq (awo po 2 0 ty un false (by unfold typS at M;cases hq:adk (ts t i)<;>rw [hq] at M<;>simp only [Rs.bind] at M<;>cases M;exact awq _) t ht j o q).pg (λx k H _ d=>?_) (λp z=>⟨_,rfl⟩)
  have h2:=ad9 o H (aoe parV aac _ _ _ _ _ _) d;have V:ak3 x:=⟨awl (bjx ht j) (λh=>by cases h) d,by have:=ase d;grind [aeq]⟩;refine PL.may U [125] 4 (by decide) k H q (λ_ aa=>?_) (λ_=>?_)
  ·simp only [Ad,aa5];exact .done (b++[x]) (k+1) aa ⟨by simp;omega,ae9 X V⟩ rfl rfl
  ·simp only [Ae];exact .go (b++[x]) k (by omega) H ⟨by simp;omega,ae9 X V⟩ rfl rfl)
 unfold F206 ak2
 refine PG.seq (ae3 [117,110,105,111,110] 1 (by decide) t U O W q).pg (λ_ j Y _ M=>?_) (λp z=>⟨_,rfl⟩)
 have h1:=ad9 W Y (abo _ _ _) M
 refine PG.seq (amu t U j Y q).pg (λun k H _ d=>?_) (λp z=>⟨_,rfl⟩)
 have h2:=ad9 Y H (alj _) d
 refine PG.seq (ae3 [123] 4 (by decide) t U k H q).pg (λ_ l hl _ ab=>?_) (λp z=>⟨_,rfl⟩)
 have h3:=ad9 H hl (abo _ _ _) ab
 simp only [aaq]
 rcases lp un t.length l [] (by omega) hl ⟨by simp;omega,all_nil⟩ with ⟨v,m,hm,hv,hx4,hy⟩ | ⟨m,e,z,hm,he,hx4,hy⟩
 ·exact .ok v m hm hv hx4 (by rw [hy];rfl)
 ·exact .er m e z hm he hx4 (by rw [hy];rfl)
theorem a5b (d:TOk t) (i:Nat) (U:i<=t.length) (q:QF):
 PG t Sum.inl Sum.inr (λ_ _=>True) (λv j=>(v.1,v.2,(t,j,q))) (awf (ts t i)) (F289 0 () (t,(i:Int),q)):=by
 unfold F289 awf
 refine PG.seq (ae3 [40] 4 (by decide) t d i U q).pg (λ_ j O _ V=>?_) (λp z=>⟨_,rfl⟩)
 rw [anu [115,116,114,101,97,109] 1 (by decide) t d j O q]
 simp only [Aa]
 cases h:isS 1 [115,116,114,101,97,109] (ts t j) with
 | true=>
  simp only [Ad,aa5]
  refine PG.seq (ajx t d (j+1) (aeb h) q).pg (λs k m _ H=>?_) (λp z=>⟨_,rfl⟩)
  refine PG.seq (ae3 [41] 4 (by decide) t d k m q).pg (λ_ l o _ M=>?_) (λp z=>⟨_,rfl⟩)
  exact .ok (true,s) l o trivial rfl rfl
 | false=>
  simp only [Ae]
  refine PG.seq (ajx t d j O q).pg (λs k m _ H=>?_) (λp z=>⟨_,rfl⟩)
  refine PG.seq (ae3 [41] 4 (by decide) t d k m q).pg (λ_ l o _ M=>?_) (λp z=>⟨_,rfl⟩)
  exact .ok (false,s) l o trivial rfl rfl
theorem bmc (po:aev) (M:TNm t) (X:t.length<=100000) (i:Nat) (Y:i<=t.length) (q:QF):
 PG t Sum.inl Sum.inr (λv _=>apm v) (λv j=>(v,(t,j,q))) (rpcS parV aac (ts t i)) (F210 0 () (t,(i:Int),q)):=by
 have d:=M.toTOk
 unfold F210 rpcS
 refine PG.seq (ae3 [114,112,99] 1 (by decide) t d i Y q).pg (λ_ j hj _ _=>?_) (λp z=>⟨_,rfl⟩)
 refine PG.seq (amu t d j hj q).pg (λnm k hk _ _=>?_) (λp z=>⟨_,rfl⟩)
 refine PG.seq (a5b d k hk q) (λa l hl _ _=>?_) (λp z=>⟨_,rfl⟩)
 refine PG.seq (ae3 [114,101,116,117,114,110,115] 1 (by decide) t d l hl q).pg (λ_ m hm _ _=>?_) (λp z=>⟨_,rfl⟩)
 refine PG.seq (a5b d m hm q) (λb n hn _ _=>?_) (λp z=>⟨_,rfl⟩)
 obtain ⟨O,U⟩:=a
 obtain ⟨V,W⟩:=b
 simp only
 cases O<;>cases V<;>simp only [Ad,Ae]<;>refine PG.seq (aha po t M n hn q).pg (λls o ho _ H=>?_) (λp z=>⟨_,rfl⟩)<;>refine PG.seq (ae3 [59] 4 (by decide) t d o ho q).pg (λ_ u hu _ _=>?_) (λp z=>⟨_,rfl⟩)<;>exact .ok (PV.agg [PV.str nm,PV.str U,PV.str W,PV.int _,PV.slice ls]) u hu (af9 X H) rfl rfl
end
end Go.Ab
namespace Go.Ab
open Go
set_option maxRecDepth 100000
section
variable {t:List PV}
theorem bg3 (H:TOk t) (s:Bo) (k:Int) (z:kOf s=k) (i:Nat) (o:i<=t.length) (q:QF):
 ∃ (d:Bool) (j:Nat),i<=j/\j<=t.length/\isS k s (ts t i)=d/\(bif d then (ts t i).tail else ts t i)=ts t j/\F91 0 () s (t,(i:Int),q)=some (d,(t,(j:Int),q)):=by
 have h:=anu s k z t H i o q
 cases m:isS k s (ts t i) with
 | true=>
  rw [m] at h
  exact ⟨true,i+1,by omega,aeb m,rfl,by rw [Ad,aa5],h⟩
 | false=>grind
theorem bbz (l:List Tk) (d rs:List PV):adq parV aac l d rs=
 bif isS 4 [125] l then .ok (d,rs) l.tail
 else bif isS 1 [114,101,115,101,114,118,101,100] l then (ada 2147483647 l.tail []).bind λx r=>adq parV aac r d (rs++x)
 else (aph l).bind λm o=>(eatS 4 [61] o).bind λ_ z=>(numS 2147483647 z).bind λn H=>(ac9 parV aac H).bind λx M=>(eatS 4 [59] M).bind λ_ O=>adq parV aac O (d++[PV.agg [PV.str m,PV.int n,PV.slice x]]) rs:=by
 rw [ah4]
 unfold a07
 simp only [Rs.bind_assoc,Rs.bind_ok]
theorem apt (po:aev) (ht:TNum t) (h5:t.length<=100000) (d:Bo) (ho:d.length<=120) (i:Nat) (hi:i<=t.length) (M O:Bo) (U H ms es:List PV) (aj:es.length<=1000000):
 PG t Sum.inl Sum.inr (λv _=>aho v) (λv j=>((t,j,M,O,(),(),(),U,H,ms,es++[v]):Q0)) (aq0 parV aac d (ts t i)) (F98 0 () d (t,(i:Int),M,O,(),(),(),U,H,ms,es)):=by
 have V:=ht.toTOk
 have hl:=ht.len
 obtain ⟨op,j0,ak,ae,e1,e2,e3⟩:=bg3 V [111,112,101,110] 1 (by decide) i hi (M,O,(),(),(),U,H,ms,es)
 unfold F98 aq0
 rw [e1,e2,e3,Aa]
 refine PG.seq (ae3 [101,110,117,109] 1 (by decide) t V j0 ae (M,O,(),(),(),U,H,ms,es)).pg (λ_ j Z _ _=>?_) (λp z=>⟨_,rfl⟩)
 have ea:∀ x:PV,decide (es.length+[x].length<=aak)=true:=λx=>accL (by simp;omega)
 simp only [ea,Ad]
 refine PG.seq (aro d ho t V j Z M O U H ms _) (λW k hk ag _=>?_) (λp z=>⟨_,rfl⟩)
 refine PG.seq (aha po t ht.toTNm k hk (M,O,(),(),(),U,H,ms,_)).pg (λab l af _ ai=>?_) (λp z=>⟨_,rfl⟩)
 refine PG.seq (ae3 [123] 4 (by decide) t V l af (M,O,(),(),(),U,H,ms,_)).pg (λ_ m hm _ _=>?_) (λp z=>⟨_,rfl⟩)
 have lp:=PL.loop (t:=t) (st:=λ(b:List PV×List PV) (j:Int)=>((),(),(es.length:Int),t,j,M,O,(),(),(),U,H,ms,es++[PV.agg [PV.str [],PV.bool op,PV.slice [],PV.slice [],PV.slice []]],W,op,b.1,b.2,ab))
  (spec:=λl b=>adq parV aac l b.1 b.2) (J:=λb j=>b.1.length+b.2.length<=j/\∀ x,x∈b.1->azw x) (ok:=Sum.inr) (er:=Sum.inl) (I:=λv j=>v.1.length+v.2.length<=j/\∀ x,x∈v.1->azw x)
  (mk:=λv (j:Int)=>((),(),(es.length:Int),t,j,M,O,(),(),(),U,H,ms,es++[PV.agg [PV.str [],PV.bool op,PV.slice [],PV.slice [],PV.slice []]],W,op,v.1,v.2,ab)) (step:=S98_8step 0) (λi b hi ad=>by
  obtain ⟨hJ,aa⟩:=ad
  have eb:∀ x:PV,decide (b.1.length+[x].length<=aak)=true:=λx=>accL (by simp;omega)
  show PL t _ _ _ _ _ _ _ i (adq parV aac (ts t i) b.1 b.2) _
  rw [bbz]
  simp only [S98_8step,S98_8]
  refine PL.may V [125] 4 (by decide) i hi (M,O,(),(),(),U,H,ms,_) (λ_ Y=>?_) (λ_=>?_)
  ·simp only [Aq,Ae,aa5];exact .done (b.1,b.2) (i+1) Y ⟨by simp;omega,aa⟩ rfl rfl
  ·simp only [Ao,Ad];refine PL.may V [114,101,115,101,114,118,101,100] 1 (by decide) i hi (M,O,(),(),(),U,H,ms,_) (λ_ Y=>?_) (λ_=>?_)
   ·simp only [Ad,aa5];refine PL.seq (azf V ht.num h5 2147483647 (by decide) (i+1) Y (M,O,(),(),(),U,H,ms,_)) (λv j Z hv _=>?_) (λp z=>⟨_,rfl⟩);have al:v.length+(i+1)<=j:=hv;have ec:decide (b.2.length+v.length<=aak)=true:=accL (by omega);simp only [ec,Ad];exact .go (b.1,b.2++v) j (by omega) Z ⟨by simp;omega,aa⟩ rfl rfl
   ·simp only [Ae];refine PL.seq (amu t V i hi (M,O,(),(),(),U,H,ms,_)).pg (λpn j Z _ X=>?_) (λp z=>⟨_,rfl⟩);have q1:=ad9 hi Z (alj _) X;refine PL.seq (ae3 [61] 4 (by decide) t V j Z (M,O,(),(),(),U,H,ms,_)).pg (λ_ k hk _ X=>?_) (λp z=>⟨_,rfl⟩);have q2:=ad9 Z hk (abo _ _ _) X;refine PL.seq (av1 t V k hk 2147483647 (by decide) ht.num (M,O,(),(),(),U,H,ms,_)).pg (λn l hl _ X=>?_) (λp z=>⟨_,rfl⟩);have q3:=ad9 hk hl (arv _ _) X;refine PL.seq (aha po t ht.toTNm l hl (M,O,(),(),(),U,H,ms,_)).pg (λns m hm _ X=>?_) (λp z=>⟨_,rfl⟩);have q4:=bjv hl hm (ago parV aac _) X;have ah:ak5 ns:=af9 h5 X;refine PL.seq (ae3 [59] 4 (by decide) t V m hm (M,O,(),(),(),U,H,ms,_)).pg (λ_ o ho _ X=>?_) (λp z=>⟨_,rfl⟩);have q5:=ad9 hm ho (abo _ _ _) X;simp only [eb,Ad];exact .go (b.1++[PV.agg [PV.str pn,PV.int n,PV.slice ns]],b.2) o (by omega) ho ⟨by simp;omega,ae9 aa ah⟩ rfl rfl)
  t.length m ([],[]) (by omega) hm ⟨by simp,all_nil⟩
 simp only [aaq]
 refine PG.swap lp (λv n hn hv _=>?_) (λp z=>⟨_,rfl⟩)
 have r0:aaa (es.length:Int) (es++[PV.agg [PV.str [],PV.bool op,PV.slice [],PV.slice [],PV.slice []]]).length=true:=by rw [aab];simp
 simp only [r0,Ad,Ah]
 refine .ok (PV.agg [PV.str W,PV.bool op,PV.slice v.1,PV.slice v.2,PV.slice ab]) n hn ⟨show v.1.length<=100000 by omega,hv.2,show v.2.length<=100000 by omega,af9 h5 ai⟩ rfl ?_
 grind
theorem bmp (po:aev) (Z:TNum t) (h5:t.length<=100000) (i:Nat) (V:i<=t.length) (M O:Bo) (d H ms es:List PV) (ah:d.length<=1000000):
 PG t Sum.inl Sum.inr (λv _=>bjd v) (λv j=>((t,j,M,O,(),(),(),d++[v],H,ms,es):Q0)) (svcS parV aac (ts t i)) (F99 0 () (t,(i:Int),M,O,(),(),(),d,H,ms,es)):=by
 have X:=Z.toTOk
 have hl:=Z.len
 unfold F99 svcS
 refine PG.seq (ae3 [115,101,114,118,105,99,101] 1 (by decide) t X i V (M,O,(),(),(),d,H,ms,es)).pg (λ_ j Y _ _=>?_) (λp z=>⟨_,rfl⟩)
 refine PG.seq (aro [] (by simp) t X j Y M O d H ms es) (λo k hk ae _=>?_) (λp z=>⟨_,rfl⟩)
 refine PG.seq (aha po t Z.toTNm k hk (M,O,(),(),(),d,H,ms,es)).pg (λU l ad _ ag=>?_) (λp z=>⟨_,rfl⟩)
 refine PG.seq (ae3 [123] 4 (by decide) t X l ad (M,O,(),(),(),d,H,ms,es)).pg (λ_ m hm _ _=>?_) (λp z=>⟨_,rfl⟩)
 have lp:=PL.loop (t:=t) (st:=λ(b:List PV) (j:Int)=>((),(),t,j,M,O,(),(),(),d,H,ms,es,o,b,U))
  (spec:=λl b=>apl parV aac l b) (J:=λb j=>b.length<=j/\∀ x,x∈b->apm x) (ok:=Sum.inr) (er:=Sum.inl) (I:=λv j=>v.length<=j/\∀ x,x∈v->apm x)
  (mk:=λv (j:Int)=>((),(),t,j,M,O,(),(),(),d,H,ms,es,o,v,U)) (step:=S99_5step 0) (λi b V aa=>by
  obtain ⟨hJ,W⟩:=aa
  have eb:∀ x:PV,decide (b.length+[x].length<=aak)=true:=λx=>accL (by simp;omega)
  show PL t _ _ _ _ _ _ _ i (apl parV aac (ts t i) b) _
  rw [an6]
  simp only [S99_5step,S99_5]
  refine PL.may X [125] 4 (by decide) i V (M,O,(),(),(),d,H,ms,es) (λ_ ab=>?_) (λ_=>?_)
  ·simp only [Aq,Ae,aa5];exact .done b (i+1) ab ⟨by omega,W⟩ rfl rfl
  ·simp only [Ao,Ad];refine PL.seq (bmc po Z.toTNm h5 i V (M,O,(),(),(),d,H,ms,es)) (λx j Y af hx=>?_) (λp z=>⟨_,rfl⟩);have q1:=ad9 V Y (a4x parV aac _) hx;simp only [eb,Ad];exact .go (b++[x]) j (by omega) Y ⟨by simp;omega,ae9 W af⟩ rfl rfl)
  t.length m [] (by omega) hm ⟨by simp,all_nil⟩
 simp only [aaq]
 refine PG.swap lp (λv n hn hv _=>?_) (λp z=>⟨_,rfl⟩)
 have ea:∀ x:PV,decide (d.length+[x].length<=aak)=true:=λx=>accL (by simp;omega)
 simp only [ea,Ad]
 exact .ok (PV.agg [PV.str o,PV.slice v,PV.slice U]) n hn ⟨show v.length<=100000 by omega,hv.2,af9 h5 ag⟩ rfl rfl
end
end Go.Ab
namespace Go.Ab
open Go
set_option maxRecDepth 100000
inductive PN {α R S Z:Type} (N:Nat) (t:List PV) (ok:R->S) (er:PV×Z->S) (I:α->Nat->Prop) (mk:α->Int->R) (x:Rs α) (y:Nat->Option S):Prop
 | ok (v:α) (j:Nat):j<=t.length->I v j->x=.ok v (ts t j)->(∀ n,N<=n->y n=some (ok (mk v ((j:Nat):Int))))->PN N t ok er I mk x y
 | er (j:Nat) (e:Int) (z:Z):j<=t.length->e≠0->x=.er (ts t j) e->(∀ n,N<=n->y n=some (er (PV.agg [PV.int ((j:Nat):Int),PV.int e],z)))->PN N t ok er I mk x y
theorem PG.pn {α R S Z:Type}{N:Nat}{t:List PV}{ok:R->S}{er:PV×Z->S}{I:α->Nat->Prop}{mk:α->Int->R}{x:Rs α}{y:Option S} (h:PG t ok er I mk x y):PN N t ok er I mk x (λ_=>y):=by
 rcases h with ⟨v,j,d,m,o,H⟩ | ⟨j,e,z,d,m,o,H⟩
 ·exact .ok v j d m o λ_ _=>H
 ·exact .er j e z d m o λ_ _=>H
theorem PN.pg {α R S Z:Type}{N:Nat}{t:List PV}{ok:R->S}{er:PV×Z->S}{I:α->Nat->Prop}{mk:α->Int->R}{x:Rs α}{y:Nat->Option S}{Y:Option S} (h:PN N t ok er I mk x y) (M:∀ z,(∀ n,N<=n->y n=some z)->Y=some z):PG t ok er I mk x Y:=by
 rcases h with ⟨v,j,d,m,o,H⟩ | ⟨j,e,z,d,m,o,H⟩
 ·exact .ok v j d m o (M _ H)
 ·exact .er j e z d m o (M _ H)
theorem PN.shift {α R S Z:Type}{N:Nat}{t:List PV}{ok:R->S}{er:PV×Z->S}{I:α->Nat->Prop}{mk:α->Int->R}{x:Rs α}{y H:Nat->Option S} (h:PN N t ok er I mk x y) (V:∀ n,H (n+1)=y n):PN (N+1) t ok er I mk x H:=by
 have U:∀ n,N+1<=n->H n=y (n-1):=λn M=>by grind
 rcases h with ⟨v,j,d,m,o,O⟩ | ⟨j,e,z,d,m,o,O⟩
 ·exact .ok v j d m o λn M=>by grind
 ·exact .er j e z d m o λn M=>by grind
theorem PN.seq {α β R X H Z Y:Type}{N:Nat}{t:List PV}{I:α->Nat->Prop}{W:β->Nat->Prop}{mk:α->Int->R}{o:X->H}{d:PV×Y->H}{m:β->Int->X}{x:Rs α}{y:Option (R⊕(PV×Z))}{f:α->List Tk->Rs β}{g:Nat->R->Option H}{E:PV×Z->Option H}
 (h:PG t Sum.inl Sum.inr I mk x y) (hc:∀ v j,j<=t.length->I v j->x=.ok v (ts t j)->PN N t o d W m (f v (ts t j)) (λn=>g n (mk v ((j:Nat):Int)))) (hE:∀ p z,∃ V,E (p,z)=some (d (p,V))):
 PN N t o d W m (x.bind f) (λn=>y.bind λz=>sumE (g n) E z):=by
 rcases h with ⟨v,j,O,hi,M,U⟩ | ⟨j,e,z,O,he,M,U⟩
 ·have:=hc v j O hi M;rw [M,U];exact this
 ·obtain ⟨V,hz⟩:=hE (PV.agg [PV.int ((j:Nat):Int),PV.int e]) z;rw [M,U];exact .er j e V O he rfl λ_ _=>hz
theorem PN.swap {α β R R' M Z Z':Type}{N:Nat}{t:List PV}{I:α->Nat->Prop}{I':β->Nat->Prop}{mk:α->Int->R}{H:R'->M}{d:PV×Z'->M}{o:β->Int->R'}{x:Rs α}{y:Nat->Option ((PV×Z)⊕R)}{f:α->List Tk->Rs β}{g:R->Option M}{E:PV×Z->Option M}
 (h:PN N t Sum.inr Sum.inl I mk x y) (hc:∀ v j,j<=t.length->I v j->x=.ok v (ts t j)->PG t H d I' o (f v (ts t j)) (g (mk v ((j:Nat):Int)))) (hE:∀ p z,∃ z',E (p,z)=some (d (p,z'))):
 PN N t H d I' o (x.bind f) (λn=>(y n).bind λz=>sumE E g z):=by
 rcases h with ⟨v,j,hj,hi,O,U⟩ | ⟨j,e,z,hj,he,O,U⟩
 ·have:=hc v j hj hi O;rw [O];rcases this with ⟨w,k,V,W,X,Y⟩ | ⟨k,e,z,V,W,X,Y⟩
  ·exact .ok w k V W X λn m=>by rw [U n m];exact Y
  ·exact .er k e z V W X λn m=>by rw [U n m];exact Y
 ·obtain ⟨z',hz⟩:=hE (PV.agg [PV.int ((j:Nat):Int),PV.int e]) z;rw [O];exact .er j e z' hj he rfl λn m=>by rw [U n m];exact hz
inductive PM {α β R S Z σ:Type} (N:Nat) (t:List PV) (st:β->Int->σ) (spec:List Tk->β->Rs α) (J:β->Nat->Prop) (ok:R->S) (er:PV×Z->S) (I:α->Nat->Prop) (mk:α->Int->R) (i:Nat) (x:Rs α) (y:Nat->Option (σ⊕S)):Prop
 | go (b:β) (j:Nat):i<j->j<=t.length->J b j->x=spec (ts t j) b->(∀ n,N<=n->y n=some (.inl (st b ((j:Nat):Int))))->PM N t st spec J ok er I mk i x y
 | done (v:α) (j:Nat):j<=t.length->I v j->x=.ok v (ts t j)->(∀ n,N<=n->y n=some (.inr (ok (mk v ((j:Nat):Int)))))->PM N t st spec J ok er I mk i x y
 | er (j:Nat) (e:Int) (z:Z):j<=t.length->e≠0->x=.er (ts t j) e->(∀ n,N<=n->y n=some (.inr (er (PV.agg [PV.int ((j:Nat):Int),PV.int e],z))))->PM N t st spec J ok er I mk i x y
section
variable {α β R S Z σ:Type}{N:Nat}{t:List PV}{st:β->Int->σ}{spec:List Tk->β->Rs α}{J:β->Nat->Prop}{ok:R->S}{er:PV×Z->S}{I:α->Nat->Prop}{mk:α->Int->R}{i:Nat}
theorem PM.loop {step:Nat->σ->Option (σ⊕S)} (h:∀ i b,i<=t.length->J b i->PM N t st spec J ok er I mk i (spec (ts t i) b) (λn=>step n (st b (i:Int)))):∀ (m i:Nat) (b:β),t.length-i<=m->i<=t.length->J b i->PN N t ok er I mk (spec (ts t i) b) (λn=>aa9 (step n) (st b (i:Int))):=by
 intro m;induction m with
 | zero=>
  intro i b hm X Y;rcases h i b X Y with ⟨b',j,o,d,_⟩ | ⟨v,j,o,d,H,M⟩ | ⟨j,e,z,o,d,H,M⟩
  ·omega
  ·exact .ok v j o d H λn O=>aae (M n O)
  ·exact .er j e z o d H λn O=>aae (M n O)
 | succ m ih=>
  intro i b hm X Y;rcases h i b X Y with ⟨b',j,o,d,H,M,h5⟩ | ⟨v,j,o,d,H,M⟩ | ⟨j,e,z,o,d,H,M⟩
  ·rw [M];rcases ih j b' (by omega) d H with ⟨v,k,U,V,W,g4⟩ | ⟨k,e,z,U,V,W,g4⟩
   ·exact .ok v k U V W λn O=>by grind [aba]
   ·exact .er k e z U V W λn O=>by grind [aba]
  ·exact .ok v j o d H λn O=>aae (M n O)
  ·exact .er j e z o d H λn O=>aae (M n O)
theorem PM.seq {d X Z0:Type}{I0:d->Nat->Prop}{V:d->Int->X}{x0:Rs d}{y0:Nat->Option (X⊕(PV×Z0))}{f:d->List Tk->Rs α}{g:X->Option (σ⊕S)}{E:PV×Z0->Option (σ⊕S)}
 (h:PN N t Sum.inl Sum.inr I0 V x0 y0) (hc:∀ v j,j<=t.length->I0 v j->x0=.ok v (ts t j)->PL t st spec J ok er I mk i (f v (ts t j)) (g (V v ((j:Nat):Int)))) (hE:∀ p z,∃ z',E (p,z)=some (.inr (er (p,z')))):
 PM N t st spec J ok er I mk i (x0.bind f) (λn=>(y0 n).bind λz=>sumE g E z):=by
 rcases h with ⟨v,j,Y,hi,W,U⟩ | ⟨j,e,z,Y,he,W,U⟩
 ·have:=hc v j Y hi W;rw [W];rcases this with ⟨w,k,o,H,M,O,h5⟩ | ⟨w,k,o,H,M,O⟩ | ⟨k,e,z,o,H,M,O⟩
  ·exact .go w k o H M O λn m=>by rw [U n m];exact h5
  ·exact .done w k o H M λn m=>by rw [U n m];exact O
  ·exact .er k e z o H M λn m=>by rw [U n m];exact O
 ·obtain ⟨z',hz⟩:=hE (PV.agg [PV.int ((j:Nat):Int),PV.int e]) z;rw [W];exact .er j e z' Y he rfl λn m=>by rw [U n m];exact hz
theorem PM.may (M:TOk t) (s:Bo) (k:Int) (H:kOf s=k) (j:Nat) (z:j<=t.length) (q:QF) {K:Nat->Bool×Q0->Option (σ⊕S)}{x1 d:Rs α}
 (m:isS k s (ts t j)=true->j+1<=t.length->PM N t st spec J ok er I mk i x1 (λn=>K n (true,(t,((j+1:Nat):Int),q)))) (o:isS k s (ts t j)=false->PM N t st spec J ok er I mk i d (λn=>K n (false,(t,(j:Int),q)))):
 PM N t st spec J ok er I mk i (bif isS k s (ts t j) then x1 else d) (λn=>(F91 0 () s (t,(j:Int),q)).bind (K n)):=by
 grind [anu,isS,ts,aeb]
theorem PM.sign (M:TOk t) (s:Bo) (k:Int) (H:kOf s=k) (j:Nat) (z:j<=t.length) (q:QF) {K:Nat->Bool×Q0->Option (σ⊕S)}{x1 d:Rs α}
 (m:isS k s (ts t j)=true->PM N t st spec J ok er I mk i x1 (λn=>K n (true,(t,(j:Int),q)))) (o:isS k s (ts t j)=false->PM N t st spec J ok er I mk i d (λn=>K n (false,(t,(j:Int),q)))):
 PM N t st spec J ok er I mk i (bif isS k s (ts t j) then x1 else d) (λn=>(F96 0 () s (t,(j:Int),q)).bind (K n)):=by
 grind [at6,isS,ts]
end
section
variable {t:List PV}
theorem a3i {α:Type} (a b:Bool) (x y:Rs α):(bif a||b then x else y)=bif a then x else (bif b then x else y):=by cases a<;>cases b<;>rfl
def MBok (L:Nat) (b:MB) (j:Nat):Prop:=b.fs.length<=j/\b.rs.length<=j/\b.gs.length<=j/\b.ms.length<=j/\b.es.length<=j/\L<=b.ms.length/\(∀ x,x∈b.fs->ak3 x)/\(∀ x,x∈b.ms->alv x)/\(∀ x,x∈b.es->aho x)
theorem a6a (po:aev) (ht:TNum t) (h5:t.length<=100000) (N d:Nat) (a2:Nat) (ha:a2<=15) (k0:Int) (m:Bo) (Y:m.length<=120) (M O:Bo) (U H:List PV) (ad:List PV)
 (ih:∀ (i:Nat) (ms es:List PV),i<=t.length->ms.length<=i->es.length<=i->(∀ x,x∈ms->alv x)->(∀ x,x∈es->aho x)->PN N t Sum.inl Sum.inr (λv j=>v.1.length<=j/\v.2.length<=j/\ms.length<=v.1.length/\(∀ x,x∈v.1->alv x)/\(∀ x,x∈v.2->aho x)) (λv j=>((t,j,M,O,(),(),(),U,H,v.1,v.2):Q0)) (msgS parV aac d m ms es (ts t i)) (λn=>G97 0 n ((),m,(((a2+1:Nat)):Int),(t,(i:Int),M,O,(),(),(),U,H,ms,es))))
 (i:Nat) (b:MB) (V:i<=t.length) (L:Nat) (hJ:MBok L b i):
 PM N t (λ(b:MB) (j:Int)=>((),(a2:Int),k0,(),t,j,M,O,(),(),(),U,H,b.ms,b.es,m,b.fs,b.rs,b.gs,ad)) (λl b=>ads parV aac (msgS parV aac d) m l b) (MBok L) Sum.inr Sum.inl (MBok L)
  (λ(v:MB) (j:Int)=>((),k0,(),t,j,M,O,(),(),(),U,H,v.ms,v.es,m,v.fs,v.rs,v.gs,ad)) i (ads parV aac (msgS parV aac d) m (ts t i) b) (λn=>B97_9step 0 (G97 0 n) ((),(a2:Int),k0,(),t,(i:Int),M,O,(),(),(),U,H,b.ms,b.es,m,b.fs,b.rs,b.gs,ad)):=by
 have h0:=ht.toTOk
 obtain ⟨j1,j2,j3,j4,j5,j6,o1,o2,o3⟩:=hJ
 rw [aml parV aac _ (arm parV aac d),a3i]
 simp only [B97_9step,B97_9]
 refine PM.may h0 [125] 4 (by decide) i V (M,O,(),(),(),U,H,b.ms,b.es) (λ_ aa=>?_) (λ_=>?_)
 ·simp only [Aq,Ae,aa5];exact .done b (i+1) aa ⟨by omega,by omega,by omega,by omega,by omega,j6,o1,o2,o3⟩ rfl λ_ _=>rfl
 simp only [Ao,Ad]
 refine PM.sign h0 [117,110,105,111,110] 1 (by decide) i V (M,O,(),(),(),U,H,b.ms,b.es) (λ_=>?_) (λ_=>?_)
 ·simp only [Ad];refine PM.seq (bev po ht h5 i V (M,O,(),(),(),U,H,b.ms,b.es)).pn (λv j o X W=>?_) (λp z=>⟨_,rfl⟩);have ae:v.length+i<=j:=X.1;have q1:=ad9 V o (ap7 parV aac _) W;have ec:decide (b.fs.length+v.length<=aak)=true:=accL (by omega);simp only [ec,Ad];exact .go { b with fs:=b.fs++v } j q1 o ⟨by simp;omega,by simp;omega,by simp;omega,by simp;omega,by simp;omega,j6,be5 o1 X.2,o2,o3⟩ rfl rfl
 simp only [Ae]
 refine PM.sign h0 [109,101,115,115,97,103,101] 1 (by decide) i V (M,O,(),(),(),U,H,b.ms,b.es) (λ_=>?_) (λ_=>?_)
 ·simp only [Ad];have w:IntKind.wrap .i64 ((a2:Int)+1)=((a2+1:Nat):Int):=abv (by omega);simp only [w];refine PM.seq (ih i b.ms b.es V j4 j5 o2 o3) (λv j o X W=>?_) (λp z=>⟨_,rfl⟩);have q1:=ad9 V o (arm parV aac d _ _ _ _) W;exact .go { b with ms:=v.1,es:=v.2 } j q1 o ⟨by simp;omega,by simp;omega,by simp;omega,X.1,X.2.1,Nat.le_trans j6 X.2.2.1,o1,X.2.2.2.1,X.2.2.2.2⟩ rfl rfl
 simp only [Ae]
 refine PM.sign h0 [101,110,117,109] 1 (by decide) i V (M,O,(),(),(),U,H,b.ms,b.es) (λ_=>?_) (λ_=>?_)
 ·simp only [Aq,Ae,Ad];refine PM.seq (apt po ht h5 m Y i V M O U H b.ms b.es (by omega)).pn (λv j o ab W=>?_) (λp z=>⟨_,rfl⟩);have q1:=ad9 V o (ah0 parV aac _ _) W;exact .go { b with es:=b.es++[v] } j q1 o ⟨by simp;omega,by simp;omega,by simp;omega,by simp;omega,by simp;omega,j6,o1,o2,ae9 o3 ab⟩ rfl rfl
 simp only [Ao,Ad,Ae]
 refine PM.sign h0 [111,112,101,110] 1 (by decide) i V (M,O,(),(),(),U,H,b.ms,b.es) (λ_=>?_) (λ_=>?_)
 ·simp only [Ad];refine PM.seq (apt po ht h5 m Y i V M O U H b.ms b.es (by omega)).pn (λv j o ab W=>?_) (λp z=>⟨_,rfl⟩);have q1:=ad9 V o (ah0 parV aac _ _) W;exact .go { b with es:=b.es++[v] } j q1 o ⟨by simp;omega,by simp;omega,by simp;omega,by simp;omega,by simp;omega,j6,o1,o2,ae9 o3 ab⟩ rfl rfl
 simp only [Ae]
 refine PM.may h0 [114,101,115,101,114,118,101,100] 1 (by decide) i V (M,O,(),(),(),U,H,b.ms,b.es) (λ_ aa=>?_) (λ_=>?_)
 ·simp only [Ad,aa5,afk t (i+1) (M,O,(),(),(),U,H,b.ms,b.es),Aa];cases h3:(aav (ts t (i+1))==3) with
  | true=>simp only [Ad];refine PM.seq (bgb t h0 h5 (i+1) aa (M,O,(),(),(),U,H,b.ms,b.es)).pn (λv j o X W=>?_) (λp z=>⟨_,rfl⟩);have ae:v.length+(i+1)<=j:=X;have ec:decide (b.gs.length+v.length<=aak)=true:=accL (by omega);simp only [ec,Ad];exact .go { b with gs:=b.gs++v } j (by omega) o ⟨by simp;omega,by simp;omega,by simp;omega,by simp;omega,by simp;omega,j6,o1,o2,o3⟩ rfl rfl
  | false=>simp only [Ae];refine PM.seq (azf h0 ht.num h5 65535 (by decide) (i+1) aa (M,O,(),(),(),U,H,b.ms,b.es)).pn (λv j o X W=>?_) (λp z=>⟨_,rfl⟩);have ae:v.length+(i+1)<=j:=X;have ec:decide (b.rs.length+v.length<=aak)=true:=accL (by omega);simp only [ec,Ad];exact .go { b with rs:=b.rs++v } j (by omega) o ⟨by simp;omega,by simp;omega,by simp;omega,by simp;omega,by simp;omega,j6,o1,o2,o3⟩ rfl rfl
 ·simp only [Ae];refine PM.seq (bba po t ht i V (M,O,(),(),(),U,H,b.ms,b.es)).pg.pn (λv j o _ W=>?_) (λp z=>⟨_,rfl⟩);have q1:=ad9 V o (apu parV aac _) W;have ec:decide (b.fs.length+[v].length<=aak)=true:=accL (by simp;omega);simp only [ec,Ad];have af:ak3 v:=⟨bf3 (bjx ht i) W,by have:=ba9 W;rw [aeq] at this;omega⟩;exact .go { b with fs:=b.fs++[v] } j q1 o ⟨by simp;omega,by simp;omega,by simp;omega,by simp;omega,by simp;omega,j6,ae9 o1 af,o2,o3⟩ rfl rfl
theorem bok (po:aev) (ht:TNum t) (h5:t.length<=100000) (V W:Bo) (X U:List PV):∀ (d O:Nat),O+d=16->∀ (o:Bo),o.length<=120->∀ (i:Nat) (ms es:List PV),i<=t.length->ms.length<=i->es.length<=i->(∀ x,x∈ms->alv x)->(∀ x,x∈es->aho x)->
 PN (d+1) t Sum.inl Sum.inr (λv j=>v.1.length<=j/\v.2.length<=j/\ms.length<=v.1.length/\(∀ x,x∈v.1->alv x)/\(∀ x,x∈v.2->aho x)) (λv j=>((t,j,V,W,(),(),(),X,U,v.1,v.2):Q0)) (msgS parV aac d o ms es (ts t i)) (λn=>G97 0 n ((),o,((O:Nat):Int),(t,(i:Int),V,W,(),(),(),X,U,ms,es))):=by
 have h0:=ht.toTOk
 intro d
 induction d with
 | zero=>
  intro O ha o ho i ms es hi hm he om oe
  have hd:decide (((O:Nat):Int)>=16)=true:=Aj (by omega)
  refine .er i 17 (t,(i:Int),V,W,(),(),(),X,U,ms,es) hi (by decide) rfl λn hn=>?_
  obtain ⟨m,rfl⟩:∃ m,n=m+1:=⟨n-1,by omega⟩
  simp only [G97,B97,hd,Ad]
 | succ d ih=>
  intro O ha o ho i ms es hi hm he om oe
  have hd:decide (((O:Nat):Int)>=16)=false:=Al (by omega)
  refine PN.shift (y:=λn=>B97 0 (G97 0 n) () o ((O:Nat):Int) (t,(i:Int),V,W,(),(),(),X,U,ms,es)) ?_ λn=>rfl
  simp only [B97,hd,Ae]
  unfold msgS
  refine PN.seq (ae3 [109,101,115,115,97,103,101] 1 (by decide) t h0 i hi (V,W,(),(),(),X,U,ms,es)).pg (λ_ j hj _ hx=>?_) (λp z=>⟨_,rfl⟩)
  have q1:=ad9 hi hj (abo _ _ _) hx
  refine PN.seq (aro o ho t h0 j hj V W X U ms es) (λH k hk M ah=>?_) (λp z=>⟨_,rfl⟩)
  have q2:=ad9 hj hk (ap0 _ _) ah
  have ec:∀ x:PV,decide (ms.length+[x].length<=aak)=true:=λx=>accL (by simp;omega)
  simp only [ec,Ad]
  refine PN.seq (aha po t ht.toTNm k hk (V,W,(),(),(),X,U,ms++[akq H [] [] [] []],es)).pg (λaa l hl _ ad=>?_) (λp z=>⟨_,rfl⟩)
  have ag:=af9 h5 ad
  have q3:=bjv hk hl (ago parV aac _) ad
  refine PN.seq (ae3 [123] 4 (by decide) t h0 l hl (V,W,(),(),(),X,U,ms++[akq H [] [] [] []],es)).pg (λ_ m ab _ ai=>?_) (λp z=>⟨_,rfl⟩)
  have q4:=ad9 hl ab (abo _ _ _) ai
  simp only [aaq]
  have lp:=PM.loop (step:=λn=>B97_9step 0 (G97 0 n)) (λi' b af hJ=>a6a po ht h5 (d+1) d O (by omega) (ms.length:Int) H M V W X U aa (λi2 aj ae h1 h2 h3 h4 h6=>ih (O+1) (by omega) H M i2 aj ae h1 h2 h3 h4 h6) i' b af (ms.length+1) hJ) t.length m ⟨[],[],[],ms++[akq H [] [] [] []],es⟩ (by omega) ab ⟨by simp,by simp,by simp,by simp;omega,show es.length<=m by omega,by simp,all_nil,ae9 om ⟨Nat.zero_le _,all_nil,Nat.zero_le _,Nat.zero_le _,Nat.zero_le _,all_nil⟩,oe⟩
  refine PN.swap lp (λv n hn hv al=>?_) (λp z=>⟨_,rfl⟩)
  obtain ⟨g1,g2,g3,g4,g5,Y,p1,p2,p3⟩:=hv
  have Y:ms.length<v.ms.length:=Y
  have ak:alv (akq H v.fs v.rs v.gs aa):=⟨show v.fs.length<=100000 by omega,p1,show v.rs.length<=100000 by omega,show v.gs.length<=100000 by omega,ag⟩
  have r0:aaa (ms.length:Int) v.ms.length=true:=by rw [aab];grind
  simp only [r0,Ad,Ah]
  exact .ok (v.ms.set ms.length (akq H v.fs v.rs v.gs aa),v.es) n hn ⟨by simp;exact g4,g5,by simp;omega,λx hx=>by rcases List.mem_or_eq_of_mem_set hx with hx | rfl;all_goals simp_all,p3⟩ rfl rfl
end
end Go.Ab
namespace Go.Ab
open Go
set_option maxRecDepth 100000
noncomputable section
section
variable {t:List PV}
theorem bly (Z:aev) (W:TNum t) (M:t.length<=100000) (m o:Bo) (H d:List PV) (i:Nat) (ms es:List PV) (U:i<=t.length) (V:ms.length<=i) (O:es.length<=i) (Y:∀ x,x∈ms->alv x) (X:∀ x,x∈es->aho x):
 PG t Sum.inl Sum.inr (λv j=>v.1.length<=j/\v.2.length<=j/\ms.length<=v.1.length/\(∀ x,x∈v.1->alv x)/\(∀ x,x∈v.2->aho x)) (λv j=>((t,j,m,o,(),(),(),H,d,v.1,v.2):Q0)) (msgS parV aac 16 [] ms es (ts t i)) (F97 0 () [] (0:Int) (t,(i:Int),m,o,(),(),(),H,d,ms,es)):=
 (bok Z W M m o H d 16 0 (by omega) [] (by simp) i ms es U V O Y X).pg λz h=>a7s 17 h
theorem a02 (U:TOk t) (h5:t.length<=100000) (d m:Bo) (o ms es:List PV) (i:Nat) (M:i<=t.length):
 PG t Sum.inr Sum.inl (λv j=>v.length<=j) (λv (j:Int)=>((),((t,j,d,m,(),(),(),o,v,ms,es):Q0))) (adm (ts t i) []) (aa9 (S44_4step 0) ((),(t,(i:Int),d,m,(),(),(),o,[],ms,es))):=by
 refine PL.loop (t:=t) (st:=λ(b:List PV) (j:Int)=>((),((t,j,d,m,(),(),(),o,b,ms,es):Q0))) (spec:=λl b=>adm l b) (J:=λb j=>b.length<=j) (step:=S44_4step 0) (λi b M Y=>?_) t.length i [] (by omega) M (by simp)
 have X:∀ x:PV,decide (b.length+[x].length<=aak)=true:=λx=>accL (by simp;omega)
 show PL t _ _ _ _ _ _ _ i (adm (ts t i) b) _
 rw [afw]
 simp only [S44_4step,S44_4]
 refine PL.may U [105,109,112,111,114,116] 1 (by decide) i M (d,m,(),(),(),o,b,ms,es) (λ_ H=>?_) (λ_=>?_)
 ·simp only [Ad,aa5];refine PL.seq (ahs t U (i+1) H (d,m,(),(),(),o,b,ms,es)).pg (λs j O _ Z=>?_) (λp z=>⟨_,rfl⟩);have q1:=ad9 H O (acz _) Z;simp only [X,Ad];refine PL.seq (ae3 [59] 4 (by decide) t U j O (d,m,(),(),(),o,b++[PV.str s],ms,es)).pg (λ_ k W _ V=>?_) (λp z=>⟨_,rfl⟩);have q2:=ad9 O W (abo _ _ _) V;exact .go (b++[PV.str s]) k (by omega) W (by simp;omega) rfl rfl
 ·simp only [Ae];exact .done b i M Y rfl rfl
def FBok (b:FB) (j:Nat):Prop:=b.ms.length<=j/\b.es.length<=j/\b.ss.length<=j/\(∀ x,x∈b.ms->alv x)/\(∀ x,x∈b.es->aho x)/\(∀ x,x∈b.ss->bjd x)
theorem bfu (po:aev) (Y:TNum t) (h5:t.length<=100000) (O U:Bo) (M:List PV) (i:Nat) (m:i<=t.length):
 PG t Sum.inr Sum.inl FBok (λ(v:FB) (j:Int)=>((t,j,O,U,(),(),(),v.ss,M,v.ms,v.es):Q0)) (af1 parV aac (ts t i) ⟨[],[],[]⟩) (aa9 (S44_7step 0) ((),(t,(i:Int),O,U,(),(),(),[],M,[],[]))):=by
 have h0:=Y.toTOk
 refine PL.loop (t:=t) (st:=λ(b:FB) (j:Int)=>((),((t,j,O,U,(),(),(),b.ss,M,b.ms,b.es):Q0))) (spec:=λl b=>af1 parV aac l b) (J:=FBok) (step:=S44_7step 0) (λi b m hJ=>?_) t.length i ⟨[],[],[]⟩ (by omega) m ⟨by simp,by simp,by simp,all_nil,all_nil,all_nil⟩
 obtain ⟨j1,j2,j3,Z,o2,o3⟩:=hJ
 show PL t _ _ _ _ _ _ _ i (af1 parV aac (ts t i) b) _
 rw [aiy,a3i]
 simp only [S44_7step,S44_7]
 by_cases aa:i<t.length
 ·have d:decide ((i:Int)<(t.length:Int))=true:=Aj (by omega);have V:(ts t i).isEmpty=false:=by grind [afg]
  rw [d,V];simp only [Ad,Ae];refine PL.sign h0 [109,101,115,115,97,103,101] 1 (by decide) i m (O,U,(),(),(),b.ss,M,b.ms,b.es) (λ_=>?_) (λ_=>?_)
  ·simp only [Ad];refine PL.seq (bly po Y h5 O U b.ss M i b.ms b.es m j1 j2 Z o2) (λv j o hv W=>?_) (λp z=>⟨_,rfl⟩);have X:=ad9 m o (arm parV aac 16 _ _ _ _) W;exact .go { b with ms:=v.1,es:=v.2 } j X o ⟨hv.1,hv.2.1,by simp;omega,hv.2.2.2.1,hv.2.2.2.2,o3⟩ rfl rfl
  simp only [Ae];refine PL.sign h0 [101,110,117,109] 1 (by decide) i m (O,U,(),(),(),b.ss,M,b.ms,b.es) (λ_=>?_) (λ_=>?_)
  ·simp only [Aq,Ae,Ad];refine PL.seq (apt po Y h5 [] (by simp) i m O U b.ss M b.ms b.es (by omega)) (λv j o H W=>?_) (λp z=>⟨_,rfl⟩);have X:=ad9 m o (ah0 parV aac _ _) W;exact .go { b with es:=b.es++[v] } j X o ⟨by simp;omega,by simp;omega,by simp;omega,Z,ae9 o2 H,o3⟩ rfl rfl
  simp only [Ao,Ad,Ae];refine PL.sign h0 [111,112,101,110] 1 (by decide) i m (O,U,(),(),(),b.ss,M,b.ms,b.es) (λ_=>?_) (λ_=>?_)
  ·simp only [Ad];refine PL.seq (apt po Y h5 [] (by simp) i m O U b.ss M b.ms b.es (by omega)) (λv j o H W=>?_) (λp z=>⟨_,rfl⟩);have X:=ad9 m o (ah0 parV aac _ _) W;exact .go { b with es:=b.es++[v] } j X o ⟨by simp;omega,by simp;omega,by simp;omega,Z,ae9 o2 H,o3⟩ rfl rfl
  ·simp only [Ae];refine PL.seq (bmp po Y h5 i m O U b.ss M b.ms b.es (by omega)) (λv j o H W=>?_) (λp z=>⟨_,rfl⟩);have X:=ad9 m o (beb parV aac _) W;exact .go { b with ss:=b.ss++[v] } j X o ⟨by simp;omega,by simp;omega,by simp;omega,Z,o2,ae9 o3 H⟩ rfl rfl
 ·have d:decide ((i:Int)<(t.length:Int))=false:=Al (by omega);have V:(ts t i).isEmpty=true:=by grind [aik]
  rw [d,V];simp only [Ad,Ae];exact .done b i m ⟨j1,j2,j3,Z,o2,o3⟩ rfl rfl
def ary (l:List Tk):Rs (Bo×List PV×FB):=(ar8 l).bind λz r=>(adm r []).bind λd m=>(af1 parV aac m ⟨[],[],[]⟩).bind λb o=>.ok (z,d,b) o
theorem atn (d:Bo) (l:List Tk):ax1 parV aac d l=(ary l).bind λv r=>.ok (PV.agg [PV.str d,PV.str v.1,PV.slice v.2.1,PV.slice v.2.2.ms,PV.slice v.2.2.es,PV.slice v.2.2.ss]) r:=by unfold ax1 ary;simp only [Rs.bind_assoc,Rs.bind_ok]
def a9t (n:Nat) (v:Bo×List PV×FB) (j:Nat):Prop:=v.2.1.length<=n/\FBok v.2.2 n
theorem fb_le {b:FB}{j n:Nat} (h:FBok b j) (d:j<=n):FBok b n:=⟨Nat.le_trans h.1 d,Nat.le_trans h.2.1 d,Nat.le_trans h.2.2.1 d,h.2.2.2⟩
theorem ax3 (po:aev) (ht:TNum t) (X:t.length<=100000) (o d:Bo) (i:Nat) (hi:i<=t.length):
 PG t Sum.inl Sum.inr (a9t t.length) (λ(v:Bo×List PV×FB) (j:Int)=>((t,j,o,v.1,(),(),(),v.2.2.ss,v.2.1,v.2.2.ms,v.2.2.es):Q0)) ((adm (ts t i) []).bind λm r2=>(af1 parV aac r2 ⟨[],[],[]⟩).bind λb r3=>.ok (d,m,b) r3)
  ((aa9 (S44_4step 0) ((),(t,(i:Int),o,d,(),(),(),[],[],[],[]))).bind λz=>sumE (λO=>some (.inr O)) (λU=>(aa9 (S44_7step 0) ((),U.2)).bind λz=>sumE (λV=>some (.inr V)) (λW=>some (.inl W)) z) z):=by
 refine PG.swap (a02 ht.toTOk X o d [] [] [] i hi) (λm j Y M _=>?_) (λp z=>⟨_,rfl⟩)
 refine PG.swap (bfu po ht X o d m j Y) (λb k Z H _=>?_) (λp z=>⟨_,rfl⟩)
 exact .ok (d,m,b) k Z ⟨Nat.le_trans M Y,fb_le H Z⟩ rfl rfl
theorem a3u (V:aev) (H:TNum t) (O:t.length<=100000) (d:Bo):
 PG t Sum.inl Sum.inr (a9t t.length) (λ(v:Bo×List PV×FB) (j:Int)=>((t,j,d,v.1,(),(),(),v.2.2.ss,v.2.1,v.2.2.ms,v.2.2.es):Q0)) (ary (ts t 0)) (F44 0 () (t,(0:Int),d,[],(),(),(),[],[],[],[])):=by
 have m:=H.toTOk
 unfold F44 ary ar8
 rw [show (0:Int)=((0:Nat):Int) from rfl,anu [115,112,97,99,101] 1 (by decide) t m 0 (by omega) (d,[],(),(),(),[],[],[],[]),Aa]
 simp only [aaq]
 cases h:isS 1 [115,112,97,99,101] (ts t 0) with
 | true=>
  simp only [Ad,Rs.bind_assoc,Rs.bind_ok,aa5]
  refine PG.seq (biq t m 1 (aeb h) (d,[],(),(),(),[],[],[],[])).pg (λM j o _ _=>?_) (λp z=>⟨_,rfl⟩)
  refine PG.seq (ae3 [59] 4 (by decide) t m j o (d,M,(),(),(),[],[],[],[])).pg (λ_ k U _ _=>?_) (λp z=>⟨_,rfl⟩)
  grind [ax3]
 | false=>
  simp only [Ae,Rs.bind_ok]
  grind [ax3]
end
def aqa:PV:=PV.agg [PV.str [],PV.str [],PV.slice [],PV.slice [],PV.slice [],PV.slice []]
def bjq (xs:List PV) (j:Nat):Int:=((xs.getD (if xs.length-1<j then xs.length-1 else j) .bad).fld 3).asInt
def avc (d:Bo) (xs:List PV):PV×Int×Int:=
 match ax1 parV aac d (ts xs 0) with
 | .ok v _=>(v,0,0)
 | .er r e=>(aqa,bjq xs (xs.length-r.length),e)
theorem ayx:∃ v,ary []=.ok v []:=by refine ⟨([],[],⟨[],[],[]⟩),?_⟩;unfold ary ar8;rw [show isS 1 [115,112,97,99,101] []=false from rfl,Ae,Rs.bind_ok,afw,show isS 1 [105,109,112,111,114,116] []=false from rfl,Ae,Rs.bind_ok,aiy];rfl
theorem ao0 (po:aev) (d m:Bo) (xs:List PV) (l0:Int) (hs:F28 0 m=some (xs,l0,0)) (ht:TNum xs) (Z:xs.length<=100000):F15 0 d m=some (avc d xs):=by
 unfold F15 avc;rw [hs,Aa,atn];simp only [show ((0:Int) != 0)=false from rfl,Ae];unfold F43;rcases a3u po ht Z d with ⟨v,j,hj,_,o,H⟩ | ⟨j,e,z,hj,M,o,H⟩
 ·rw [H,o,Rs.bind_ok];rfl
 ·rw [H,o,Rs.bind_er];have aa:0<xs.length:=by
   grind [Nat.eq_zero_or_pos,aik,ayx]
  have w:IntKind.wrap .i64 ((xs.length:Int)-1)=((xs.length-1:Nat):Int):=by grind [acs]
  have O:((((PV.agg [PV.int ((j:Nat):Int),PV.int e]).fld 1).asInt) != (0:Int))=true:=bneI M;have U:((PV.agg [PV.int ((j:Nat):Int),PV.int e]).fld 0).asInt=(j:Int):=rfl;have V:((PV.agg [PV.int ((j:Nat):Int),PV.int e]).fld 1).asInt=e:=rfl;have W:(if ((xs.length-1:Nat):Int)<(j:Int) then ((xs.length-1:Nat):Int) else (j:Int))=((if xs.length-1<j then xs.length-1 else j:Nat):Int):=by grind
  have X:aaa ((if xs.length-1<j then xs.length-1 else j:Nat):Int) xs.length=true:=by grind [aab,decide_eq_true]
  have Y:xs.length-(ts xs j).length=j:=by rw [aeq];omega
  simp only [Aa,abg,O,U,V,w,W,X,Ad,Ah,Y,bneI M];rfl
end
end Go.Ab
namespace Go.Ab
open Go
set_option maxRecDepth 100000
noncomputable section
def nm1 (s:Bo):Tk:=⟨1,s,0⟩
def sg1 (c:UInt8):Tk:=⟨4,[c],0⟩
def nu1 (n:Int):Tk:=⟨2,[],IntKind.wrap .i64 (n.toNat:Int)⟩
def tx1 (s:Bo):Tk:=⟨3,s,0⟩
theorem amf {s:Bo}{l:List Tk} (h:TksT s l):TksT (10::s) l:=.sp (Or.inr rfl) h
theorem af3 (c:UInt8) (d:aia c=true) {s:Bo}{l:List Tk} (h:TksT s l):TksT (c::s) (sg1 c::l):=.tok (t:=[c]) (.sign d) h
theorem anr {t s:Bo}{l:List Tk} (h:ack t=true) (d:endN s) (m:TksT s l):TksT (t++s) (nm1 t::l):=.tok (.name h d) m
theorem ayd {n:Int} (o:0<=n) (z:n<=2147483647) {s:Bo}{l:List Tk} (d:endI s) (m:TksT s l):TksT (numT n++s) (nu1 n::l):=.tok (.int (u:=n.toNat) (by omega) d) m
theorem apz {t s:Bo}{l:List Tk} (h:t.length<=1048576) (d:TksT s l):TksT (abd t++s) (tx1 t::l):=.tok (.text h) d
theorem ac3 (w:Bo) (m:ack w=true) {s:Bo}{l:List Tk} (d:TksT s l):TksT (w++32::s) (nm1 w::l):=anr m (abp (by decide) (by decide)) (acb d)
def af4 (k:Int) (v:PV):List Tk:=
 bif k==0 then [nm1 (abl v)]
 else bif k==1 then [nm1 (bif aan v==1 then [116,114,117,101] else [102,97,108,115,101])]
 else bif k==7 then [tx1 (abl v)]
 else bif k==6||k==8 then [tx1 (agb v)]
 else bif k==2||k==3 then aky (IntKind.wrap .i64 (aan v))
 else [nu1 (aan v)]
theorem bei {k:Int} (z:k=1\/k=2\/k=3\/k=4\/k=5\/k=7) {v:PV} (O:aee v) (M:adc k v=true) {s:Bo}{l:List Tk} (m:endN s) (d:TksT s l):TksT (am6 v++s) (af4 k v++l):=by
 rw [a5g M];obtain ⟨_,H,U,V⟩:=O;have o:-9223372036854775808<=IntKind.wrap .i64 (aan v)/\IntKind.wrap .i64 (aan v)<=9223372036854775807:=by rw [IntKind.wrap_i64];omega
 rcases z with rfl | rfl | rfl | rfl | rfl | rfl
 ·show TksT ((bif aan v==1 then [116,114,117,101] else [102,97,108,115,101])++s) (nm1 (bif aan v==1 then [116,114,117,101] else [102,97,108,115,101])::l);cases (aan v==1) with
  | true=>exact anr (t:=[116,114,117,101]) (by decide) m d
  | false=>exact anr (t:=[102,97,108,115,101]) (by decide) m d
 ·exact avl o.1 o.2 (aoq m) d
 ·exact avl o.1 o.2 (aoq m) d
 ·exact .tok (.int (u:=(aan v).toNat) (by omega) (aoq m)) d
 ·exact .tok (.int (u:=(aan v).toNat) (by omega) (aoq m)) d
 ·exact apz H d
theorem blr {k:Int} (z:1<=k) (H:k<=8) {v:PV} (V:aee v) (m:adc k v=true) {s:Bo}{l:List Tk} (M:endN s) (U:TksT s l):TksT (litT v++s) (af4 k v++l):=by
 rw [blp m (by omega)];by_cases d:k=6\/k=8
 ·have e:((k==6)||(k==8))=true:=by grind
  have o:af4 k v=[tx1 (agb v)]:=by rcases d with rfl | rfl<;>rfl
  rw [e,o];have O:=(aea m).1;grind [apz,a2s]
 ·have e:((k==6)||(k==8))=false:=by
   grind
  rw [e,a5h m,beqI (show k≠6 by omega),beqI (show k≠8 by omega)];grind [bei]
def ae5:List PV->List Tk
 | []=>[]
 | a::l=>sg1 91::(nTks a++ajo l)
theorem bl9:∀ l:List PV,l.all abt=true->(∀ n,n∈l->acq n)->∀ {s:Bo}{r:List Tk},TksT s r->TksT (ahg l++93::s) (ajo l++r):=by
 intro l;induction l with
 | nil=>intro _ _ s r m;exact af3 93 (by decide) m
 | cons a l M=>
  intro d o s r m;simp only [A9,Ag] at d;simp only [ahg,ajo,An,As,Au];have z:endN (ahg l++93::s):=by
   cases l with
   | nil=>exact abp (by decide) (by decide)
   | cons y q=>exact abp (by decide) (by decide)
  exact af3 44 (by decide) (acb (a4n d.1 (o a (by simp)) z (M d.2 (λn H=>o n (by simp [H])) m)))
theorem ap4 {l:List PV} (d:l.all abt=true) (o:∀ n,n∈l->acq n) {s:Bo}{r:List Tk} (m:TksT s r):TksT (aca l++s) (ae5 l++r):=by
 cases l with
 | nil=>exact m
 | cons a l=>
  have z:(((a::l).length:Int)==(0:Int))=false:=by grind
  have e:aca (a::l)++s=32::91::(afq a++(ahg l++93::s)):=by unfold aca;rw [z,show a2r (a::l)=bif (a::l).all abt then [91]++(afq a++ahg l)++[93] else [] from rfl,d];simp
  simp only [A9,Ag] at d;have H:endN (ahg l++93::s):=by
   cases l with
   | nil=>exact abp (by decide) (by decide)
   | cons y q=>exact abp (by decide) (by decide)
  rw [e];simp only [ae5,An,As];exact acb (af3 91 (by decide) (a4n d.1 (o a (by simp)) H (bl9 l d.2 (λn M=>o n (by simp [M])) m)))
def aqq (c:Int):Bo:=bif c==1 then [114,101,113,117,105,114,101,100] else bif c==2 then [111,112,116,105,111,110,97,108] else bif c==3 then [112,108,97,105,110] else [108,105,115,116]
theorem bkc (c:Int) {s:Bo}{l:List Tk} (d:TksT s l):TksT (a0e c++s) (nm1 (aqq c)::l):=by
 unfold a0e aqq;cases (c==1)<;>cases (c==2)<;>cases (c==3)<;>simp only [Ad,Ae];all_goals first
  | exact ac3 [114,101,113,117,105,114,101,100] (by decide) d
  | exact ac3 [111,112,116,105,111,110,97,108] (by decide) d
  | exact ac3 [112,108,97,105,110] (by decide) d
  | exact ac3 [108,105,115,116] (by decide) d
def a0y (x:PV):List Tk:=
 bif (x.fld 2).asInt==5 then [nm1 [109,97,112],sg1 60,nm1 (kw (x.fld 3).asInt),sg1 44,nm1 (afh (x.fld 4)),sg1 62]
 else bif (x.fld 5).asStr==[] then [nm1 (aqq (x.fld 2).asInt),nm1 (afh (x.fld 4))] else [nm1 (afh (x.fld 4))]
theorem bk7 {x:PV} (g:RowGood x) {s:Bo}{l:List Tk} (o:TksT s l):TksT (bbl x++32::s) (a0y x++l):=by
 have z:=azt g.type;have m:TksT (afh (x.fld 4)++32::s) (nm1 (afh (x.fld 4))::l):=ac3 _ z o;unfold bbl a0y;by_cases d:(x.fld 2).asInt=5
 ·have H:=key5 (by have:=g.key;rw [d] at this;exact this);rw [d];show TksT (([109,97,112,60]++(kw (x.fld 3).asInt++([44,32]++(afh (x.fld 4)++[62]))))++32::s) _;simp only [An,As,Au];exact anr (t:=[109,97,112]) (by decide) (abp (by decide) (by decide)) (af3 60 (by decide) (anr (bb8 H) (abp (by decide) (by decide)) (af3 44 (by decide) (acb (anr z (abp (by decide) (by decide)) (af3 62 (by decide) (acb o)))))))
 ·rw [beqI d];cases ((x.fld 5).asStr==([]:Bo)) with
  | true=>simp only [Ae,Ad,An];exact bkc _ m
  | false=>grind
def dfK (x:PV):List Tk:=bif (x.fld 6).asBool then nm1 [100,101,102,97,117,108,116]::af4 ((x.fld 4).fld 0).asInt (x.fld 7) else []
theorem bki {x:PV} (g:RowGood x) (H:(x.fld 6).asBool=true) {s:Bo}{l:List Tk} (M:endN s) (O:TksT s l):TksT (litT (x.fld 7)++s) (af4 ((x.fld 4).fld 0).asInt (x.fld 7)++l):=by
 have d:=g.right;unfold am1 at d;rw [H] at d;simp only [Aq,Ae] at d;cases z:((x.fld 2).asInt==5) with
 | true=>grind
 | false=>
  rw [z] at d;simp only [Ae] at d;cases m:(((x.fld 4).fld 0).asInt==0) with
  | true=>
   rw [m] at d;have d:apd (x.fld 7)=true:=d;have e:litT (x.fld 7)=abl (x.fld 7):=by grind [litT]
   have V:af4 ((x.fld 4).fld 0).asInt (x.fld 7)=[nm1 (abl (x.fld 7))]:=by grind [af4]
   unfold apd at d;simp only [Ag] at d;grind [anr,ajs]
  | false=>
   rw [m] at d;simp only [Ae,Ag] at d;have o:=g.type;have U:((x.fld 4).fld 0).asInt≠0:=by grind
   exact blr (by have:=o.2.1;omega) o.2.2 g.ok.ok.dflt d.1 M O
def awm (x:PV):List Tk:=nm1 (x.fld 1).asStr::sg1 61::nu1 (x.fld 0).asInt::(dfK x++(ae5 (x.fld 8).asList++[sg1 59]))
def rowK (x:PV):List Tk:=a0y x++awm x
theorem bo2 {x:PV} (g:RowGood x) {s:Bo}{l:List Tk} (M:TksT s l):TksT (rowT x++s) (rowK x++l):=by
 have ok:=g.ok;have m:TksT (aca (x.fld 8).asList++59::s) (ae5 (x.fld 8).asList++sg1 59::l):=ap4 g.nt ok.ok.note (af3 59 (by decide) M);have d:endN (aca (x.fld 8).asList++59::s):=an0 _ (by decide) (by decide) _;have z:TksT ((bif (x.fld 6).asBool then [32,100,101,102,97,117,108,116,32]++litT (x.fld 7) else [])++(aca (x.fld 8).asList++59::s)) (dfK x++(ae5 (x.fld 8).asList++sg1 59::l)):=by
  unfold dfK;cases o:(x.fld 6).asBool with
  | true=>simp only [Ad,An,As,Au];exact acb (ac3 [100,101,102,97,117,108,116] (by decide) (bki g o d m))
  | false=>exact m
 have H:endI ((bif (x.fld 6).asBool then [32,100,101,102,97,117,108,116,32]++litT (x.fld 7) else [])++(aca (x.fld 8).asList++59::s)):=by
  cases (x.fld 6).asBool with
  | true=>exact axu (by decide)
  | false=>exact aoq d
 unfold rowT rowK awm;simp only [An,As,Au];exact bk7 g (anr (ajs g.name) (abp (by decide) (by decide)) (acb (af3 61 (by decide) (acb (ayd ok.num0 (by have:=ok.num1;omega) H z)))))
def asz (u v:Bo):List Tk:=(bif !(u==[])&&!(v==u) then [sg1 125] else [])++(bif !(v==[])&&!(v==u) then [nm1 [117,110,105,111,110],nm1 v,sg1 123] else [])
theorem bmn (u:Bo) {x:PV} (g:RowGood x) {s:Bo}{l:List Tk} (z:TksT s l):TksT (azh u x++s) (asz u (uT x)++(rowK x++l)):=by
 have M:TksT (rowT x++(10::s)) (rowK x++l):=bo2 g (amf z);unfold azh bhi asz;simp only [An,As,Au];have d:TksT ((bif (uT x==[]) then [32,32] else [32,32,32,32])++(rowT x++10::s)) (rowK x++l):=by grind [uT,acb]
 have m:TksT ((bif !(uT x==[])&&!(uT x==u) then [32,32,117,110,105,111,110,32]++(uT x++[32,123,10]) else [])++((bif (uT x==[]) then [32,32] else [32,32,32,32])++(rowT x++10::s))) ((bif !(uT x==[])&&!(uT x==u) then [nm1 [117,110,105,111,110],nm1 (uT x),sg1 123] else [])++(rowK x++l)):=by
  cases o:(uT x==([]:Bo)) with
  | true=>grind
  | false=>
   rw [o] at d;have H:uT x≠[]:=by simpa using o
   cases (uT x==u) with
   | true=>exact d
   | false=>simp only [Ao,Bool.and_self,Ad,An,As,Au];exact acb (acb (ac3 [117,110,105,111,110] (by decide) (ac3 _ (ajs (g.union H)) (af3 123 (by decide) (amf d)))))
 simp only [An,As,Au] at m;cases (!(u==[])&&!(uT x==u)) with
 | true=>exact acb (acb (af3 125 (by decide) (amf m)))
 | false=>exact m
def ab0:Bo->List PV->List Tk
 | _,[]=>[]
 | u,x::r=>asz u (uT x)++(rowK x++ab0 (uT x) r)
theorem bbc:∀ (m:List PV) (u:Bo),(∀ x,x∈m->RowGood x)->∀ {s:Bo}{l:List Tk},TksT s l->TksT (aey u m++s) (ab0 u m++l):=by
 intro m;induction m with
 | nil=>intro u _ s l d;exact d
 | cons x m o=>grind [aey,ab0,List.append_assoc,bmn]
def cloK (u:Bo):List Tk:=bif u==[] then [] else [sg1 125]
theorem bno (u:Bo) {s:Bo}{l:List Tk} (d:TksT s l):TksT (clo u++s) (cloK u++l):=by
 unfold clo cloK;cases (u==([]:Bo)) with
 | true=>exact d
 | false=>exact acb (acb (af3 125 (by decide) (amf d)))
def apk (g:PV->List Tk):List PV->List Tk
 | []=>[sg1 59]
 | x::r=>sg1 44::(g x++apk g r)
def resK (g:PV->List Tk):List PV->List Tk
 | []=>[]
 | x::r=>nm1 [114,101,115,101,114,118,101,100]::(g x++apk g r)
theorem bht {g:PV->Bo}{h:PV->List Tk}{P:PV->Prop} (M:∀ x,P x->∀ {s:Bo}{l:List Tk},endN s->TksT s l->TksT (g x++s) (h x++l)):∀ m:List PV,(∀ x,x∈m->P x)->∀ {s:Bo}{l:List Tk},TksT s l->TksT (apj g m++59::s) (apk h m++l):=by
 intro m;induction m with
 | nil=>intro _ s l d;exact af3 59 (by decide) d
 | cons x m U=>
  intro o s l d;simp only [apj,apk,An,As,Au];have H:endN (apj g m++59::s):=by
   cases m with
   | nil=>exact abp (by decide) (by decide)
   | cons y q=>exact abp (by decide) (by decide)
  exact af3 44 (by decide) (acb (M x (o x (by simp)) H (U (λz O=>o z (by simp [O])) d)))
theorem bdm {g:PV->Bo}{h:PV->List Tk}{P:PV->Prop} (d:∀ x,P x->∀ {s:Bo}{l:List Tk},endN s->TksT s l->TksT (g x++s) (h x++l)) (m:List PV) (o:∀ x,x∈m->P x) {s:Bo}{l:List Tk} (H:TksT s l):TksT (resT g m++s) (resK h m++l):=by
 cases m with
 | nil=>exact H
 | cons x m=>
  rw [bdl];have M:endN (apj g m++59::10::s):=by
   cases m with
   | nil=>exact abp (by decide) (by decide)
   | cons y q=>exact abp (by decide) (by decide)
  simp only [resK,As,An];exact acb (acb (ac3 resN (by decide) (d x (o x (by simp)) M (bht d m (λz O=>o z (by simp [O])) (amf H)))))
def spK (x:PV):List Tk:=nu1 (x.fld 0).asInt::(bif (x.fld 0).asInt==(x.fld 1).asInt then [] else [sg1 45,nu1 (x.fld 1).asInt])
theorem bo9 (x:PV) (o:SpP x) {s:Bo}{l:List Tk} (d:endN s) (m:TksT s l):TksT (spT x++s) (spK x++l):=by
 obtain ⟨z,x1,H,M⟩:=o.nums;unfold spT spK;rw [An];cases ((x.fld 0).asInt==(x.fld 1).asInt) with
 | true=>grind [ayd,aoq]
 | false=>simp only [Ae,An,As,Au];exact ayd z x1 (axu (by decide)) (acb (af3 45 (by decide) (acb (ayd H M (aoq d) m))))
def goK (x:PV):List Tk:=[tx1 x.asStr]
theorem a1s {d:Bo} (z:ack d=true) {m:List PV} (o:m.all abt=true) (M:∀ n,n∈m->acq n) {s:Bo}{l:List Tk} (H:TksT s l):TksT (d++(aca m++32::123::10::s)) (nm1 d::(ae5 m++sg1 123::l)):=
 anr z (an0 m (by decide) (by decide) _) (ap4 o M (acb (af3 123 (by decide) (amf H))))
theorem auz {s:Bo}{l:List Tk} (d:TksT s l):TksT (125::10::s) (sg1 125::l):=af3 125 (by decide) (amf d)
def msgK (m:PV) (l:List Tk):List Tk:=nm1 [109,101,115,115,97,103,101]::nm1 (m.fld 0).asStr::(ae5 (m.fld 4).asList++sg1 123::(ab0 [] (m.fld 1).asList++(cloK (ad6 [] (m.fld 1).asList)++(resK spK (m.fld 2).asList++(resK goK (m.fld 3).asList++sg1 125::l)))))
theorem boj {m:PV} (g:MsgGood m) {s:Bo}{l:List Tk} (d:TksT s l):TksT (msgT m++s) (msgK m l):=by rw [bco];exact ac3 [109,101,115,115,97,103,101] (by decide) (a1s (apq g.nm) g.nt g.ok.ok.note (bbc _ _ g.rows (bno _ (bdm bo9 _ g.ok.span (bdm (h:=goK) (P:=λx=>x.asStr.length<=1048576) (λx o _ _ _ d=>apz o d) _ g.ok.ok.goneS (auz d))))))
theorem anj {g:PV->Bo}{h:PV->List Tk->List Tk}{P:PV->Prop} (d:∀ x,P x->∀ {s:Bo}{l:List Tk},TksT s l->TksT (g x++s) (h x l)):∀ m:List PV,(∀ x,x∈m->P x)->∀ {s:Bo}{l:List Tk},TksT s l->TksT (m.flatMap g++s) (m.foldr h l):=by
 intro m;induction m with
 | nil=>grind
 | cons x m o=>grind
def ann (x:PV) (l:List Tk):List Tk:=nm1 (x.fld 0).asStr::sg1 61::nu1 (x.fld 1).asInt::(ae5 (x.fld 2).asList++sg1 59::l)
theorem blb (x:PV) (g:ItemGood x) {s:Bo}{l:List Tk} (d:TksT s l):TksT (ano x++s) (ann x l):=by rw [a7n];exact acb (acb (anr (ajs g.nm) (abp (by decide) (by decide)) (acb (af3 61 (by decide) (acb (ayd g.num0 g.num1 (aoq (an0 _ (by decide) (by decide) _)) (ap4 g.nt g.ok.note (af3 59 (by decide) (amf d)))))))))
def ahz (m:PV) (l:List Tk):List Tk:=(bif (m.fld 1).asBool then [nm1 [111,112,101,110]] else [])++nm1 [101,110,117,109]::nm1 (m.fld 0).asStr::(ae5 (m.fld 4).asList++sg1 123::((m.fld 2).asList.foldr ann (resK spK (m.fld 3).asList++sg1 125::l)))
theorem bkq {m:PV} (g:EnumGood m) {s:Bo}{l:List Tk} (d:TksT s l):TksT (agz m++s) (ahz m l):=by
 rw [a6u];have h:TksT ([101,110,117,109,32]++((m.fld 0).asStr++(aca (m.fld 4).asList++32::123::10::((m.fld 2).asList.flatMap ano++(resT spT (m.fld 3).asList++125::10::s))))) (nm1 [101,110,117,109]::nm1 (m.fld 0).asStr::(ae5 (m.fld 4).asList++sg1 123::((m.fld 2).asList.foldr ann (resK spK (m.fld 3).asList++sg1 125::l)))):=
  ac3 [101,110,117,109] (by decide) (a1s (apq g.nm) g.nt g.ok.ok.note (anj blb _ g.items (bdm bo9 _ g.ok.span (auz d))))
 unfold ahz;cases (m.fld 1).asBool with
 | true=>exact ac3 [111,112,101,110] (by decide) h
 | false=>exact h
def a89 (b:Bool) (t:Bo) (l:List Tk):List Tk:=sg1 40::((bif b then [nm1 [115,116,114,101,97,109]] else [])++nm1 t::sg1 41::l)
theorem bdy (b:Bool) {t:Bo} (m:ack t=true) {s:Bo}{l:List Tk} (d:TksT s l):TksT (40::(azb b t++41::s)) (a89 b t l):=by
 have h:TksT (t++41::s) (nm1 t::sg1 41::l):=anr m (abp (by decide) (by decide)) (af3 41 (by decide) d);unfold azb a89;refine af3 40 (by decide) ?_;cases b with
 | true=>exact ac3 [115,116,114,101,97,109] (by decide) h
 | false=>exact h
def ayk (x:PV) (l:List Tk):List Tk:=nm1 [114,112,99]::nm1 (x.fld 0).asStr::a89 (((x.fld 3).asInt==3)||((x.fld 3).asInt==4)) (x.fld 1).asStr (nm1 [114,101,116,117,114,110,115]::a89 (((x.fld 3).asInt==2)||((x.fld 3).asInt==4)) (x.fld 2).asStr (ae5 (x.fld 4).asList++sg1 59::l))
theorem blv (x:PV) (g:MethGood x) {s:Bo}{l:List Tk} (z:TksT s l):TksT (apf x++s) (ayk x l):=by obtain ⟨d,m,o,_,_⟩:=g.parts;rw [a7y];simp only [As,Au];exact acb (acb (ac3 [114,112,99] (by decide) (anr (ajs d) (abp (by decide) (by decide)) (bdy _ m (acb (ac3 [114,101,116,117,114,110,115] (by decide) (bdy _ o (ap4 g.nt g.ok.note (af3 59 (by decide) (amf z))))))))))
def svcK (m:PV) (l:List Tk):List Tk:=nm1 [115,101,114,118,105,99,101]::nm1 (m.fld 0).asStr::(ae5 (m.fld 2).asList++sg1 123::((m.fld 1).asList.foldr ayk (sg1 125::l)))
theorem bpe {m:PV} (g:SvcGood m) {s:Bo}{l:List Tk} (d:TksT s l):TksT (svcT m++s) (svcK m l):=by rw [bea];exact ac3 [115,101,114,118,105,99,101] (by decide) (a1s (apq g.nm) g.nt g.ok.ok.note (anj blv _ g.meths (auz d)))
def ahk (f:PV):List Tk:=(f.fld 3).asList.foldr msgK ((f.fld 4).asList.foldr ahz ((f.fld 5).asList.foldr svcK []))
theorem bed {f:PV} (g:FileGood f):TksT (a9k f) (ahk f):=by unfold a9k;rw [<-List.append_nil ((f.fld 5).asList.flatMap (nl svcT))];exact anj (g:=nl msgT) (h:=msgK) (P:=MsgGood) (λx m _ _ d=>amf (boj m d)) _ g.msg (anj (g:=nl agz) (h:=ahz) (P:=EnumGood) (λx m _ _ d=>amf (bkq m d)) _ g.enum (anj (g:=nl svcT) (h:=svcK) (P:=SvcGood) (λx m _ _ d=>amf (bpe m d)) _ g.svc .nil))
def impK (x:PV) (l:List Tk):List Tk:=nm1 [105,109,112,111,114,116]::tx1 x.asStr::sg1 59::l
def a0q (f:PV):List Tk:=(bif (f.fld 1).asStr==[] then [] else [nm1 [115,112,97,99,101],nm1 (f.fld 1).asStr,sg1 59])++(f.fld 2).asList.foldr impK (ahk f)
theorem bph {f:PV} (g:FileGood f) {s:Bo}{l:List Tk} (d:TksT s l):TksT (topT f++s) ((bif (f.fld 1).asStr==[] then [] else [nm1 [115,112,97,99,101],nm1 (f.fld 1).asStr,sg1 59])++(f.fld 2).asList.foldr impK l):=by
 have m:TksT ((f.fld 2).asList.flatMap impT++s) ((f.fld 2).asList.foldr impK l):=anj (g:=impT) (h:=impK) (P:=λx=>x.asStr.length<=1048576) (λx z s l d=>by unfold impT;simp only [An,As,Au];exact ac3 [105,109,112,111,114,116] (by decide) (apz z (af3 59 (by decide) (amf d)))) _ g.ok.ok.importS d
 unfold topT;rw [An];cases h:((f.fld 1).asStr==([]:Bo)) with
 | true=>exact m
 | false=>
  have o:(f.fld 1).asStr≠[]:=by simpa using h
  simp only [Ae,An,As,Au];exact ac3 [115,112,97,99,101] (by decide) (anr (apq (g.nm.resolve_left o)) (abp (by decide) (by decide)) (af3 59 (by decide) (amf m)))
theorem a9l {t r:Bo} (M:Tok t r):∃ c p,t=c::p/\c≠10:=by
 cases M with
 | name m H=>
  rcases aog m with ⟨c,q,rfl,o,_⟩ | ⟨d,q,rfl,O,_⟩
  ·exact ⟨c,q,rfl,by rintro rfl;exact absurd o (by decide)⟩
  grind
 | int m H=>obtain ⟨c,q,z,o,_⟩:=anf m;exact ⟨c,q,z,by rintro rfl;exact absurd o (by decide)⟩
 | text m=>exact ⟨34,_,rfl,by decide⟩
 | sign m=>exact ⟨_,[],rfl,by rintro rfl;exact absurd m (by decide)⟩
theorem blh {s:Bo}{l:List Tk} (h:TksT (10::s) l):TksT s l:=by
 generalize e:10::s=t at h;cases h with
 | nil=>cases e
 | sp o H=>grind
 | @tok t r k q d z=>exfalso;have m:=a9l d.tok;grind
theorem bky {f:PV} (g:FileGood f):TksT (ald f) (a0q f):=by
 rcases bbd f with ⟨_,h⟩ | ⟨d,h⟩
 ·rw [h];exact bph g (bed g)
 ·have e:a0q f=ahk f:=by
   unfold topT at d;simp only [List.append_eq_nil_iff] at d;unfold a0q;cases o:((f.fld 1).asStr==([]:Bo)) with
   | false=>grind
   | true=>
    cases m:(f.fld 2).asList with
    | nil=>rfl
    | cons x r=>grind [impT]
  grind [bed,blh]
end
end Go.Ab
namespace Go.Ab
open Go
set_option maxRecDepth 100000
noncomputable section
theorem bc6 {k:Int}{s:Bo}{v:PV×Int} (h:F239 0 k s=some v):parV k s=v:=by unfold parV;rw [h];rfl
theorem boy {k:Int} (o:2<=k/\k<=5) (d:Bool) {u:Nat} (m:u<18446744073709551616):parV k ((bif d then ([45]:Bo) else [])++decB u)=numW k d u:=by rw [ar6 d m];refine bc6 ?_;unfold F239;rw [bc0 k o d u m];rcases (show k=2\/k=3\/k=4\/k=5 by omega) with rfl | rfl | rfl | rfl<;>rfl
theorem bbq {k:Int} (o:2<=k/\k<=5) (d:Bool) {u:Nat} (m:u<18446744073709551616) (R:List Tk) {b:Int} (h:numW k d u=(mkV k b,0)):intS parV k d (⟨2,[],IntKind.wrap .i64 (u:Int)⟩::R)=.ok (mkV k b) R:=by unfold intS;rw [show aav (⟨2,[],IntKind.wrap .i64 (u:Int)⟩::R:List Tk)=2 from rfl,show ali (⟨2,[],IntKind.wrap .i64 (u:Int)⟩::R:List Tk)=IntKind.wrap .i64 (u:Int) from rfl,azv m,boy o d m,h];rfl
theorem bl7 (u:Nat) (o:u<18446744073709551616) (H:ab9 u=0->u=9221120237041090560):F306 0 (ab2 u)=some (ad0 6 (u:Int) [],0):=by
 by_cases M:ab9 u<=1
 ·rcases a6s M with h | h | h
  ·have e:u=9221120237041090560:=ang o (by decide) H (λ_=>rfl) (h.trans (by decide +kernel));subst e;rw [h];rfl
  ·have e:u=9218868437227405312:=ang o (by decide) H (λq=>absurd q (by decide +kernel)) (h.trans (by decide +kernel));subst e;rw [h];rfl
  ·have e:u=18442240474082181120:=ang o (by decide) H (λq=>absurd q (by decide +kernel)) (h.trans (by decide +kernel));subst e;rw [h];rfl
 ·have m:=a0l M;have O:(ab2 u).length<=1048576:=by rw [m];have:=al6 16 u;simp only [Ak];omega
  obtain ⟨y,U,Y,z⟩:=a5k (ab2 u);have d:=a4g y (by omega);rw [z _ m,a1t u o] at d;rw [z _ m] at U;have V:ab2 u≠[110,97,110]:=by rw [m];simp
  have W:ab2 u≠[105,110,102]:=by rw [m];simp
  have X:ab2 u≠[45,105,110,102]:=by rw [m];simp
  unfold F306;rw [neLs V,neLs W,neLs X,U,Aa,d,Aa];simp only [ac4,Aq,Ao,Ae,Ad,aqy u o,Aa,Bk];rfl
theorem par7 (x:Bo) (H:x.length<=4096) (z:valid x=true):F308 0 7 (abd x)=some (ad0 7 0 x,0):=by have m:((7:Int)==8)=false:=rfl;have o:((7:Int)==7)=true:=rfl;have d:decide ((x.length:Int)>4096)=false:=Al (by omega);unfold F308;simp only [m,o,Ae,Ad,ar0 x (by omega),Aa,ap9,z,d];rfl
theorem bmw (x:Bo):uh (x.flatMap λb=>hex2 b.toNat)=some x:=by
 have h:=bgi x 0 0;obtain ⟨l,m⟩:=bet (x.flatMap λb=>hex2 b.toNat) (λc d=>by rw [show hexN 0 0=[] from rfl,Au] at h;rw [<-h] at d;exact bgf _ _ c d) (by rw [aj8];omega)
 rw [m,bgj l x (bes _ _ m).1.symm]
theorem par8 (x:Bo) (M:x.length<=4096):F308 0 8 ([120]++abd (x.flatMap λb=>hex2 b.toNat))=some (ad0 8 0 x,0):=by
 have m:((8:Int)==8)=true:=rfl;have z:((8:Int)==7)=false:=rfl;have o:=aj8 x;have d:decide ((x.length:Int)>4096)=false:=Al (by omega);have H:F356 0 (x.flatMap λb=>hex2 b.toNat)=some (x,0):=by rw [a5m _ (by omega)];unfold ajy;rw [if_pos (by omega),bmw]
 unfold F308;rw [m,Ad,bnq];simp only [As,Au,Aa,ar0 _ (show (x.flatMap λb=>hex2 b.toNat).length<=16384 by omega),m,z,Ad,Ae,Aq,H,d];rfl
theorem bow {k:Int} (Z:k=1\/k=6\/k=7\/k=8) {v:PV} (sv:aee v) (M:adc k v=true) (m:a8d v=aan v):parV k (bif k==7 then abd (abl v) else bif k==1 then (bif aan v==1 then [116,114,117,101] else [102,97,108,115,101]) else agb v)=(alh v,0):=by
 obtain ⟨H,aa,d⟩:=aea M;obtain ⟨_,_,b0,b1⟩:=sv;have W:=a5h M;have z:afp k=true->(abl v).length<=4096/\(k=8\/valid (abl v)=true):=λq=>by unfold adc at M;simp only [Ag] at M;have O:=M.2;rw [if_pos q] at O;simp only [Ag,Aw,A5,Bh] at O;exact ⟨O.1.2,O.2⟩
 unfold alh;rw [H];refine bc6 ?_;rcases Z with rfl | rfl | rfl | rfl
 ·have o:abl v=[]/\acd 1 (aan v)=true:=d;have hr:aan v<=1:=by have:=o.2;unfold acd at this;simpa using this
  rw [o.1];rcases (show aan v=0\/aan v=1 by omega) with h | h<;>rw [h]<;>rfl
 ·have o:abl v=[]:=d.1;obtain ⟨u,X⟩:∃ u:Nat,aan v=(u:Int):=⟨(aan v).toNat,by omega⟩;rw [o,W,X];show F239 0 6 (ab2 u)=_;have Y:ab9 u=0->u=9221120237041090560:=λq=>by
   unfold a8d at m;rw [H,X] at m;have m:(bif (ab9 u==0) then (9221120237041090560:Int) else (u:Int))=(u:Int):=m;rw [q] at m;have m:(9221120237041090560:Int)=(u:Int):=m;omega
  unfold F239;rw [bl7 u (by omega) Y];rfl
 ·obtain ⟨U,o⟩:=z rfl;have V:aan v=0:=d;rw [V];show F239 0 7 (abd (abl v))=_;unfold F239;rw [par7 _ U (o.resolve_left (by decide))];rfl
 ·obtain ⟨U,_⟩:=z rfl;have V:aan v=0:=d;rw [V,W];show F239 0 8 ([120]++abd ((abl v).flatMap λb=>hex2 b.toNat))=_;unfold F239;rw [par8 _ U];rfl
theorem bob {k:Int} (aa:1<=k) (ab:k<=8) {v:PV} (sv:aee v) (hv:adc k v=true) (o:a8d v=aan v) (R:List Tk):litS parV k (af4 k v++R)=.ok (alh v) R:=by
 by_cases m:k=1\/k=6\/k=7\/k=8
 ·have d:=bow m sv hv o;rcases m with rfl | rfl | rfl | rfl
  ·have e:litS parV 1 (af4 1 v++R)=valS (parV 1 (bif aan v==1 then [116,114,117,101] else [102,97,108,115,101])) (af4 1 v++R) R:=by
    show (bif isS 1 [116,114,117,101] (nm1 (bif aan v==1 then [116,114,117,101] else [102,97,108,115,101])::R)||isS 1 [102,97,108,115,101] (nm1 (bif aan v==1 then [116,114,117,101] else [102,97,108,115,101])::R) then valS (parV 1 (bif aan v==1 then [116,114,117,101] else [102,97,108,115,101])) _ R else _)=_;cases (aan v==1)<;>rfl
   have d:parV 1 (bif aan v==1 then [116,114,117,101] else [102,97,108,115,101])=(alh v,0):=d;rw [e,d];rfl
  ·have d:parV 6 (agb v)=(alh v,0):=d;show valS (parV 6 (agb v)) _ R=_;rw [d];rfl
  ·have d:parV 7 (abd (abl v))=(alh v,0):=d;show valS (parV 7 (abd (abl v))) _ R=_;rw [d];rfl
  ·have d:parV 8 (agb v)=(alh v,0):=d;show valS (parV 8 (agb v)) _ R=_;rw [d];rfl
 ·obtain ⟨X,ad,V⟩:=aea hv;obtain ⟨_,_,b0,b1⟩:=sv;have H:abl v=[]/\acd k (aan v)=true:=by
   rcases (show k=2\/k=3\/k=4\/k=5 by omega) with rfl | rfl | rfl | rfl<;>exact V
  have W:2<=k/\k<=5:=by omega
  have en:alh v=mkV k (aan v):=by unfold alh;rw [X,H.1];rfl
  rw [en];by_cases z:k=2\/k=3
  ·have M:af4 k v=aky (IntKind.wrap .i64 (aan v)):=by rcases z with rfl | rfl<;>rfl
   have O:∀ l,litS parV k l=bif isS 4 [45] l then intS parV k true l.tail else intS parV k false l:=λl=>by rcases z with rfl | rfl<;>rfl
   rw [M,O];unfold aky;by_cases o:IntKind.wrap .i64 (aan v)<0
   ·rw [Aj o];refine bbq W true (u:=(IntKind.wrap .i64 (aan v)).natAbs) (by rw [IntKind.wrap_i64] at *;omega) R ?_;have Z:IntKind.wrap .i64 (aan v)=aan v-18446744073709551616:=by rw [IntKind.wrap_i64] at *;omega
    have Y:IntKind.wrap .u64 (-(((IntKind.wrap .i64 (aan v)).natAbs:Nat):Int))=aan v:=by rw [Z,IntKind.wrap_u64];omega
    unfold numW;rw [if_neg (by omega),if_pos z,if_pos rfl,if_neg (by rw [IntKind.wrap_i64] at o;omega),Y,H.2];rfl
   ·rw [Al o];have Z:IntKind.wrap .i64 (aan v)=aan v:=by rw [IntKind.wrap_i64] at *;omega
    have ae:aan v<9223372036854775808:=by rw [IntKind.wrap_i64] at o;omega
    have U:(((IntKind.wrap .i64 (aan v)).toNat:Nat):Int)=aan v:=by rw [Z];omega
    refine bbq W false (u:=(IntKind.wrap .i64 (aan v)).toNat) (by omega) R ?_;unfold numW;rw [if_neg (by simp),if_pos z,if_neg (by simp),if_neg (by omega),U,H.2];rfl
  ·have M:af4 k v=[nu1 (aan v)]:=by rcases (show k=4\/k=5 by omega) with rfl | rfl<;>rfl
   have O:∀ l,litS parV k l=bif isS 4 [45] l then intS parV k true l.tail else intS parV k false l:=λl=>by rcases (show k=4\/k=5 by omega) with rfl | rfl<;>rfl
   rw [M,O];refine bbq W false (u:=(aan v).toNat) (by omega) R ?_;have U:(((aan v).toNat:Nat):Int)=aan v:=by omega
   unfold numW;rw [if_neg (by simp),if_neg z,if_neg (by simp),U,H.2];rfl
theorem aei (c:UInt8) (R:List Tk):eatS 4 [c] (sg1 c::R)=.ok () R:=by unfold eatS isS sg1;simp
theorem atj (w:Bo) (R:List Tk):eatS 1 w (nm1 w::R)=.ok () R:=by unfold eatS isS nm1;simp
theorem aof {p:Bo->Bool}{s:Bo} (h:p s=true) (R:List Tk):ahl 1 p (nm1 s::R)=.ok s R:=by show (bif (1:Int)==1 then (bif p s then Rs.ok s R else _) else _)=_;rw [h];rfl
theorem arx {s:Bo} (h:afc s=true) (R:List Tk):aph (nm1 s::R)=.ok s R:=aof h R
theorem a4p {n most:Int} (m:0<=n) (o:n<=most) (z:most<=2147483647) (R:List Tk):numS most (nu1 n::R)=.ok n R:=by
 have e:nu1 n=⟨2,[],n⟩:=by unfold nu1;congr 1;rw [IntKind.wrap_i64];omega
 have d:decide (0<=n/\n<=most)=true:=Aj ⟨m,o⟩;rw [e];show (bif (2:Int)==2 then (bif decide (0<=n/\n<=most) then Rs.ok n R else _) else _)=_;rw [d];rfl
theorem bby (k:Int) (s:Bo) (c:UInt8) (R:List Tk):isS k s (sg1 c::R)=(4==k&&[c]==s):=rfl
theorem aya (k:Int) (s w:Bo) (R:List Tk):isS k s (nm1 w::R)=(1==k&&w==s):=rfl
def art (t:PV):PV:=PV.agg [PV.int (t.fld 0).asInt,PV.str (t.fld 1).asStr]
theorem awv {k:Int} (h:ad1 k=true):aeg (kw k)=k:=by unfold ad1 at h;simp only [Ag,Aw] at h;rcases blg h.1 h.2 with rfl | rfl | rfl | rfl | rfl | rfl | rfl | rfl<;>(unfold kw;kernel_rfl)
theorem bn8:kw 1=[98,111,111,108]/\kw 2=[105,51,50]/\kw 3=[105,54,52]/\kw 4=[117,51,50]/\kw 5=[117,54,52]/\kw 6=[100,111,117,98,108,101]/\kw 7=[116,101,120,116]/\kw 8=[98,121,116,101,115]:=by unfold kw;refine ⟨?_,?_,?_,?_,?_,?_,?_,?_⟩<;>kernel_rfl
theorem bja {s:Bo} (h:noKw s=true):aeg s=0:=by obtain ⟨d,m,o,z,H,M,O,U⟩:=bn8;unfold aeg;rw [neLs (d▸ajk h (k:=1) rfl),neLs (m▸ajk h (k:=2) rfl),neLs (o▸ajk h (k:=3) rfl),neLs (z▸ajk h (k:=4) rfl),neLs (H▸ajk h (k:=5) rfl),neLs (M▸ajk h (k:=6) rfl),neLs (O▸ajk h (k:=7) rfl),neLs (U▸ajk h (k:=8) rfl)];rfl
theorem ty_bk {t:PV} (h:TyOk t):tyOf (afh t)=art t:=by
 unfold tyOf art;rcases aui h with ⟨d,z,m⟩ | ⟨d,_,m,H⟩
 ·have o:(t.fld 0).asInt≠0:=by intro q;rw [q] at d;exact absurd d (by decide)
  rw [m,awv d,beqI o,z];rfl
 ·rw [H,bja m,d];rfl
theorem bep {t:PV} (h:TyOk t) (R:List Tk):typS (nm1 (afh t)::R)=.ok (art t) R:=by unfold typS adk;rw [aof (azt h),Rs.bind_ok,ty_bk h]
theorem akg {l:List PV} (m:l.all abt=true) (o:∀ n,n∈l->acq n) (R:List Tk) (d:isS 4 [91] R=false):ac9 parV aac (ae5 l++R)=.ok (l.map a1p) R:=by
 cases l with
 | nil=>show ac9 parV aac R=_;unfold ac9;rw [d];rfl
 | cons a l=>exact a8g m o R
theorem bcy {k:Int}{s:Bo} (d:(4==k&&[91]==s)=false) (l:List PV) {R:List Tk} (m:isS k s R=false):isS k s (ae5 l++R)=false:=by
 cases l with
 | nil=>exact m
 | cons a l=>exact d
def ayn (x:PV):PV:=bif (x.fld 6).asBool then alh (x.fld 7) else aku
def af8 (l:List PV):List PV:=l.map a1p
def alg (x:PV):PV:=ai4 (x.fld 0).asInt (x.fld 1).asStr (x.fld 2).asInt (x.fld 3).asInt (art (x.fld 4)) (x.fld 5).asStr (x.fld 6).asBool (ayn x) (af8 (x.fld 8).asList)
theorem bkh {x:PV} (g:RowGood x) (m:Bool) (V:m=false->(x.fld 6).asBool=false) (R:List Tk) (W:isS 1 [100,101,102,97,117,108,116] R=false):apc parV m ((x.fld 4).fld 0).asInt (dfK x++R)=.ok ((x.fld 6).asBool,ayn x) R:=by
 unfold apc dfK ayn;cases O:(x.fld 6).asBool with
 | false=>show (bif m&&isS 1 [100,101,102,97,117,108,116] R then _ else Rs.ok (false,aku) R)=_;rw [W,Bool.and_false];rfl
 | true=>
  have H:m=true:=by
   cases m with
   | true=>rfl
   | false=>rw [O] at V;exact absurd (V rfl) (by decide)
  have d:=g.right;unfold am1 at d;rw [O] at d;simp only [Aq,Ae] at d;show (bif m&&isS 1 [100,101,102,97,117,108,116] (nm1 [100,101,102,97,117,108,116]::(af4 ((x.fld 4).fld 0).asInt (x.fld 7)++R)) then (litS parV ((x.fld 4).fld 0).asInt (af4 ((x.fld 4).fld 0).asInt (x.fld 7)++R)).bind λv r=>Rs.ok (true,v) r else _)=_;rw [H,aya];have key:litS parV ((x.fld 4).fld 0).asInt (af4 ((x.fld 4).fld 0).asInt (x.fld 7)++R)=.ok (alh (x.fld 7)) R:=by
   cases M:((x.fld 2).asInt==5) with
   | true=>rw [M] at d;cases d
   | false=>
    rw [M] at d;simp only [Ae] at d;cases o:(((x.fld 4).fld 0).asInt==0) with
    | true=>
     rw [o] at d;have d:apd (x.fld 7)=true:=d;have z:((x.fld 4).fld 0).asInt=0:=by simpa using o
     unfold apd at d;simp only [Ag,Bh,Aw] at d;rw [z];show (aph (nm1 (abl (x.fld 7))::R)).bind (λs r=>Rs.ok (avk s) r)=_;rw [arx d.1.1.2,Rs.bind_ok];unfold alh;rw [d.1.1.1,d.1.2];rfl
    | false=>
     rw [o] at d;simp only [Ae,Ag,Bh] at d;have U:=g.type;have X:((x.fld 4).fld 0).asInt≠0:=by intro q;rw [q] at o;cases o
     exact bob (by have:=U.2.1;omega) U.2.2 g.ok.ok.dflt d.1 d.2 R
  rw [key];rfl
theorem a2q {x:PV} (g:RowGood x) (card key:Int) (un:Bo) (d:Bool) (z:d=false->(x.fld 6).asBool=false) (R:List Tk):aju parV aac card key (art (x.fld 4)) un d (awm x++R)=.ok (ai4 (x.fld 0).asInt (x.fld 1).asStr card key (art (x.fld 4)) un (x.fld 6).asBool (ayn x) (af8 (x.fld 8).asList)) R:=by have ok:=g.ok;have m:=akg g.nt ok.ok.note (sg1 59::R) rfl;have o:=bkh g d z (ae5 (x.fld 8).asList++sg1 59::R) (bcy rfl _ rfl);unfold aju awm;simp only [As,An,Au,arx g.name,Rs.bind_ok,aei,a4p ok.num0 ok.num1 (by decide)];show (apc parV d ((x.fld 4).fld 0).asInt (dfK x++(ae5 (x.fld 8).asList++sg1 59::R))).bind _=_;rw [o,Rs.bind_ok,m,Rs.bind_ok,aei,Rs.bind_ok];rfl
theorem bag {c:Int} (h:c=1\/c=2\/c=3\/c=4):akp (aqq c)=c:=by rcases h with rfl | rfl | rfl | rfl<;>rfl
theorem bof {c:Int}:(aqq c==[109,97,112])=false:=by unfold aqq;cases (c==1)<;>cases (c==2)<;>cases (c==3)<;>rfl
theorem bo0 {x:PV} (g:RowGood x) (O:uT x=[]) (R:List Tk):aeu parV aac (rowK x++R)=.ok (alg x) R:=by
 have O:(x.fld 5).asStr=[]:=O;have W:=g.type;unfold rowK a0y alg;rw [O];by_cases m:(x.fld 2).asInt=5
 ·have d:=key5 (by have:=g.key;rw [m] at this;exact this);have z:(x.fld 3).asInt≠0:=by intro q;rw [q] at d;exact absurd d (by decide)
  have X:(x.fld 6).asBool=false:=by
   have H:=g.right;unfold am1 at H;rw [m] at H;cases h:(x.fld 6).asBool with
   | false=>rfl
   | true=>rw [h] at H;cases H
  have e:((1:Int)==1&&!(aeg (kw (x.fld 3).asInt)==0))=true:=by rw [awv d,beqI z];rfl
  rw [m];show aeu parV aac (nm1 [109,97,112]::sg1 60::nm1 (kw (x.fld 3).asInt)::sg1 44::nm1 (afh (x.fld 4))::sg1 62::(awm x++R))=_;unfold aeu;simp only [aya,Bk,Bool.and_self,Ad,List.tail_cons,aei,Rs.bind_ok];show (bif (1:Int)==1&&!(aeg (kw (x.fld 3).asInt)==0) then (eatS 4 [44] (sg1 44::nm1 (afh (x.fld 4))::sg1 62::(awm x++R))).bind (λ_ Y=>(typS Y).bind λU Z=>(eatS 4 [62] Z).bind λ_ r4=>aju parV aac 5 (aeg (kw (x.fld 3).asInt)) U [] false r4) else _)=_;rw [e,Ad,aei,Rs.bind_ok,bep W,Rs.bind_ok,aei,Rs.bind_ok,awv d,a2q g 5 _ [] false (λ_=>X)]
 ·have V:(x.fld 2).asInt=1\/(x.fld 2).asInt=2\/(x.fld 2).asInt=3\/(x.fld 2).asInt=4:=by have:=g.cards;omega
  have M:=key0 g.key m;have o:(x.fld 2).asInt≠0:=by omega
  have e:((1:Int)==1&&!(akp (aqq (x.fld 2).asInt)==0))=true:=by rw [bag V,beqI o];rfl
  rw [beqI m,M];show aeu parV aac (nm1 (aqq (x.fld 2).asInt)::nm1 (afh (x.fld 4))::(awm x++R))=_;unfold aeu;rw [aya,bof];show (bif (1:Int)==1&&!(akp (aqq (x.fld 2).asInt)==0) then (typS (nm1 (afh (x.fld 4))::(awm x++R))).bind (λU r=>aju parV aac (akp (aqq (x.fld 2).asInt)) 0 U [] true r) else _)=_;rw [e,Ad,bep W,Rs.bind_ok,bag V,a2q g _ 0 [] true (λh=>by cases h)]
theorem bcm {x:PV} (g:RowGood x) (z:uT x≠[]) (un:Bo) (M:uT x=un) (R:List Tk) (d:List PV):acv parV aac un (rowK x++R) d=bif isS 4 [125] R then .ok (d++[alg x]) R.tail else acv parV aac un R (d++[alg x]):=by
 have m:=g.un z;have o:=key0 g.key (by rw [m];decide);have H:(x.fld 6).asBool=false:=by
  have h:=g.ar;unfold agw a5n at h;simp only [Ag,A5,Bh,Bool.not_eq_true'] at h;rcases h.1.2 with q | q
  ·exact absurd q z
  ·exact q.2
 have e:rowK x=nm1 (afh (x.fld 4))::awm x:=by have O:((x.fld 5).asStr==([]:Bo))=false:=neLs z;unfold rowK a0y;rw [m,O];rfl
 have U:alg x=ai4 (x.fld 0).asInt (x.fld 1).asStr 2 0 (art (x.fld 4)) un (x.fld 6).asBool (ayn x) (af8 (x.fld 8).asList):=by unfold alg;rw [m,o,show (x.fld 5).asStr=un from M]
 rw [e,ag6,As,bep g.type,Rs.bind_ok,a2q g 2 0 un false (λ_=>H),Rs.bind_ok,U]
end
end Go.Ab
namespace Go.Ab
open Go
set_option maxRecDepth 100000
noncomputable section
def mb (d:Nat) (m:Bo) (ts:List Tk) (b:MB):Rs MB:=ads parV aac (msgS parV aac d) m ts b
theorem bcl (d:Nat) (m:Bo) (ts:List Tk) (b:MB):mb d m ts b=
 bif isS 4 [125] ts then .ok b ts.tail
 else bif isS 1 [117,110,105,111,110] ts then (ak2 parV aac ts).bind λl r=>mb d m r { b with fs:=b.fs++l }
 else bif isS 1 [109,101,115,115,97,103,101] ts then (msgS parV aac d m b.ms b.es ts).bind λx r=>mb d m r { b with ms:=x.1,es:=x.2 }
 else bif isS 1 [101,110,117,109] ts||isS 1 [111,112,101,110] ts then (aq0 parV aac m ts).bind λx r=>mb d m r { b with es:=b.es++[x] }
 else bif isS 1 [114,101,115,101,114,118,101,100] ts then
  (bif aav ts.tail==3 then (goneS ts.tail []).bind λl r=>mb d m r { b with gs:=b.gs++l }
   else (ada 65535 ts.tail []).bind λl r=>mb d m r { b with rs:=b.rs++l })
 else (aeu parV aac ts).bind λx r=>mb d m r { b with fs:=b.fs++[x] }:=aml parV aac _ (arm parV aac d) m ts b
theorem at4 {x:PV} (g:RowGood x) (d:uT x=[]):∃ w r,rowK x=nm1 w::r/\(w=[109,97,112]\/w=[114,101,113,117,105,114,101,100]\/w=[111,112,116,105,111,110,97,108]\/w=[112,108,97,105,110]\/w=[108,105,115,116]):=by
 have d:(x.fld 5).asStr=[]:=d;unfold rowK a0y;rw [d];cases ((x.fld 2).asInt==5) with
 | true=>exact ⟨_,_,rfl,Or.inl rfl⟩
 | false=>refine ⟨_,_,rfl,Or.inr ?_⟩;grind [aqq,asInt]
theorem bog (d:Nat) (m:Bo) {x:PV} (g:RowGood x) (o:uT x=[]) (R:List Tk) (b:MB):mb d m (rowK x++R) b=mb d m R { b with fs:=b.fs++[alg x] }:=by
 have t:∀ w:Bo,w≠[109,97,112]->w≠[114,101,113,117,105,114,101,100]->w≠[111,112,116,105,111,110,97,108]->w≠[112,108,97,105,110]->w≠[108,105,115,116]->isS 1 w (rowK x++R)=false:=λw H M O U V=>by obtain ⟨v,r,h,W⟩:=at4 g o;rw [h,As,aya];grind
 have z:isS 4 [125] (rowK x++R)=false:=by obtain ⟨v,r,h,_⟩:=at4 g o;rw [h];rfl
 rw [bcl,z,t [117,110,105,111,110] (by decide) (by decide) (by decide) (by decide) (by decide),t [109,101,115,115,97,103,101] (by decide) (by decide) (by decide) (by decide) (by decide),t [101,110,117,109] (by decide) (by decide) (by decide) (by decide) (by decide),t [111,112,101,110] (by decide) (by decide) (by decide) (by decide) (by decide),t [114,101,115,101,114,118,101,100] (by decide) (by decide) (by decide) (by decide) (by decide),bo0 g o R];rfl
theorem at2 (u:Bo):asz u u=[]:=by unfold asz;simp
theorem bl6 {v:Bo} (h:v≠[]):asz [] v=[nm1 [117,110,105,111,110],nm1 v,sg1 123]:=by unfold asz;grind
theorem bc2 {u v:Bo} (d:u≠[]) (h:v≠u):asz u v=sg1 125::asz [] v:=by unfold asz;grind
theorem bke {u:Bo} (d:u≠[]):cloK u=[sg1 125]:=by unfold cloK;grind
theorem bbb (d:Nat) (o:Bo) (R:List Tk):∀ m:List PV,(∀ x,x∈m->RowGood x)->
 (∀ b:MB,mb d o (ab0 [] m++(cloK (ad6 [] m)++R)) b=mb d o R { b with fs:=b.fs++m.map alg })/\
 (∀ (u:Bo) (H:List PV) (b:MB),u≠[]->((bif isS 4 [125] (ab0 u m++(cloK (ad6 u m)++R)) then Rs.ok H (ab0 u m++(cloK (ad6 u m)++R)).tail else acv parV aac u (ab0 u m++(cloK (ad6 u m)++R)) H).bind λl r=>mb d o r { b with fs:=b.fs++l })=mb d o R { b with fs:=b.fs++(H++m.map alg) }):=by
 intro m
 induction m with
 | nil=>
  intro _
  refine ⟨λb=>?_,λu H b M=>?_⟩
  ·simp [ab0,ad6,cloK]
  grind [ab0,cloK,ad6,sg1,bke,bby,Rs.bind]
 | cons x m ih=>
  intro W
  have V:=W x (by simp)
  obtain ⟨aa,U⟩:=ih λz hz=>W z (by simp [hz])
  have A:∀ b:MB,mb d o (ab0 [] (x::m)++(cloK (ad6 [] (x::m))++R)) b=mb d o R { b with fs:=b.fs++(x::m).map alg }:=λb=>by
   by_cases M:uT x=[]
   ·grind [ab0,cloK,ad6,rowK,at2,List.append_assoc,bog]
   ·have e:ab0 [] (x::m)++(cloK (ad6 [] (x::m))++R)=nm1 [117,110,105,111,110]::nm1 (uT x)::sg1 123::(rowK x++(ab0 (uT x) m++(cloK (ad6 (uT x) m)++R))):=by
     simp only [ab0,ad6,bl6 M,An,As,Au]
    rw [e,bcl,aya,aya];show (ak2 parV aac (nm1 [117,110,105,111,110]::nm1 (uT x)::sg1 123::(rowK x++(ab0 (uT x) m++(cloK (ad6 (uT x) m)++R))))).bind (λl r=>mb d o r { b with fs:=b.fs++l })=_;have X:ak2 parV aac (nm1 [117,110,105,111,110]::nm1 (uT x)::sg1 123::(rowK x++(ab0 (uT x) m++(cloK (ad6 (uT x) m)++R))))=acv parV aac (uT x) (rowK x++(ab0 (uT x) m++(cloK (ad6 (uT x) m)++R))) []:=by unfold ak2;rw [atj,Rs.bind_ok,arx (V.union M),Rs.bind_ok,aei,Rs.bind_ok]
    rw [X,bcm V M _ rfl,U (uT x) _ b M];simp
  refine ⟨A,λu H b M=>?_⟩
  by_cases hx:uT x=u
  ·have O:uT x≠[]:=by grind
   have e:ab0 u (x::m)++(cloK (ad6 u (x::m))++R)=rowK x++(ab0 u m++(cloK (ad6 u m)++R)):=by grind [ab0,ad6,at2,List.append_assoc]
   have Y:isS 4 [125] (rowK x++(ab0 u m++(cloK (ad6 u m)++R)))=false:=by have Z:=V.un O;have hq:((x.fld 5).asStr==([]:Bo))=false:=neLs O;unfold rowK a0y;rw [Z,hq];rfl
   rw [e,Y,Ae,bcm V O _ hx,U u _ b M];simp
  grind [ab0,cloK,ad6,sg1,bc2,List.append_assoc,bby,bind,Rs.bind_ok]
def amq (x:PV):PV:=PV.agg [PV.int (x.fld 0).asInt,PV.int (x.fld 1).asInt]
def apg (x:PV):PV:=PV.str x.asStr
theorem bdp {k:Int}{s:Bo} (d:(4==k&&[59]==s)=false) (m:(4==k&&[44]==s)=false) (g:PV->List Tk) (l:List PV) (R:List Tk):isS k s (apk g l++R)=false:=by
 cases l with
 | nil=>exact d
 | cons x l=>exact m
theorem bd3 {most:Int} (m:most<=2147483647) {x:PV} (h:afe most x=true) {R:List Tk} (O:isS 4 [45] R=false):as3 most (spK x++R)=.ok (amq x) R:=by
 unfold afe at h;obtain ⟨o,z,H,M⟩:=of_decide_eq_true h;unfold as3 spK amq;simp only [As,a4p o z m,Rs.bind_ok];by_cases d:(x.fld 0).asInt=(x.fld 1).asInt
 ·rw [d,Bk];show (bif isS 4 [45] R then numS most R.tail else Rs.ok (x.fld 1).asInt R).bind _=_;rw [O];rfl
 ·rw [beqI d];show (numS most (nu1 (x.fld 1).asInt::R)).bind _=_;rw [a4p H M m];rfl
theorem a5d {most:Int} (o:most<=2147483647) (R:List Tk):∀ (l:List PV) (x:PV) (d:List PV),afe most x=true->(∀ y,y∈l->afe most y=true)->ada most (spK x++(apk spK l++R)) d=.ok (d++(x::l).map amq) R:=by
 intro l;induction l with
 | nil=>intro x d m _;rw [akk,bd3 o m (bdp rfl rfl _ _ _),Rs.bind_ok];rfl
 | cons y l M=>intro x d m H;rw [akk,bd3 o m (bdp rfl rfl _ _ _),Rs.bind_ok];show (eatS 4 [44] (sg1 44::(spK y++apk spK l++R))).bind (λ_ z=>ada most z (d++[amq x]))=_;grind [aei,Rs.bind_ok,List.append_assoc]
theorem bk3 (R:List Tk):∀ (l:List PV) (x:PV) (d:List PV),goneS (goK x++(apk goK l++R)) d=.ok (d++(x::l).map apg) R:=by
 intro l;induction l with
 | nil=>intro x d;rw [ah2];rfl
 | cons y l o=>intro x d;rw [ah2];show (eatS 4 [44] (sg1 44::(goK y++apk goK l++R))).bind (λ_ m=>goneS m (d++[PV.str x.asStr]))=_;grind [aei,Rs.bind_ok,List.append_assoc,apg]
theorem bg4 (d:Nat) (m:Bo) (R:List Tk) (l:List PV) (h:∀ x,x∈l->afe 65535 x=true) (b:MB):mb d m (resK spK l++R) b=mb d m R { b with rs:=b.rs++l.map amq }:=by
 cases l with
 | nil=>simp [resK]
 | cons x l=>have e:=a5d (most:=65535) (by decide) R l x [] (h x (by simp)) λy o=>h y (by simp [o]);rw [bcl];show (ada 65535 (spK x++apk spK l++R) []).bind (λl r=>mb d m r { b with rs:=b.rs++l })=_;grind [List.append_assoc,Rs.bind_ok]
theorem bls (d:Nat) (m:Bo) (R:List Tk) (l:List PV) (b:MB):mb d m (resK goK l++R) b=mb d m R { b with gs:=b.gs++l.map apg }:=by
 cases l with
 | nil=>simp [resK]
 | cons x l=>have e:=bk3 R l x [];rw [bcl];show (goneS (goK x++apk goK l++R) []).bind (λl r=>mb d m r { b with gs:=b.gs++l })=_;grind [List.append_assoc,Rs.bind_ok]
theorem avs {s:Bo} (h:defP s=true) (R:List Tk):ak1 [] (nm1 s::R)=.ok s R:=by
 have d:amn [] s=true:=by grind [amn]
 unfold ak1;rw [aof d,Rs.bind_ok];rfl
def ayo (m:PV):PV:=akq (m.fld 0).asStr ((m.fld 1).asList.map alg) ((m.fld 2).asList.map amq) ((m.fld 3).asList.map apg) (af8 (m.fld 4).asList)
theorem boh (d:Nat) {m:PV} (g:MsgGood m) (H:∀ x,x∈(m.fld 2).asList->afe 65535 x=true) (R:List Tk) (ms es:List PV):msgS parV aac (d+1) [] ms es (msgK m R)=.ok (ms++[ayo m],es) R:=by
 have z:=akg g.nt g.ok.ok.note (sg1 123::(ab0 [] (m.fld 1).asList++(cloK (ad6 [] (m.fld 1).asList)++(resK spK (m.fld 2).asList++(resK goK (m.fld 3).asList++sg1 125::R))))) rfl;have o:mb d (m.fld 0).asStr (ab0 [] (m.fld 1).asList++(cloK (ad6 [] (m.fld 1).asList)++(resK spK (m.fld 2).asList++(resK goK (m.fld 3).asList++sg1 125::R)))) ⟨[],[],[],ms++[akq (m.fld 0).asStr [] [] [] []],es⟩=.ok ⟨(m.fld 1).asList.map alg,(m.fld 2).asList.map amq,(m.fld 3).asList.map apg,ms++[akq (m.fld 0).asStr [] [] [] []],es⟩ R:=by rw [(bbb d _ _ _ g.rows).1,bg4 _ _ _ _ H,bls,bcl,bby];simp
 unfold msgS msgK;rw [atj,Rs.bind_ok,avs g.nm,Rs.bind_ok,z,Rs.bind_ok,aei,Rs.bind_ok];show (mb d (m.fld 0).asStr _ _).bind _=_;rw [o,Rs.bind_ok];show Rs.ok ((ms++[akq (m.fld 0).asStr [] [] [] []]).set ms.length (ayo m),es) R=_;simp
theorem blz {s:Bo} (h:afc s=true) {w:Bo} (m:aj1 w=true) (k:Int) (R:List Tk):isS k w (nm1 s::R)=false:=by
 have d:s≠w:=by rintro rfl;grind [afc]
 rw [aya,neLs d,Bool.and_false]
def a1o (x:PV):PV:=PV.agg [PV.str (x.fld 0).asStr,PV.int (x.fld 1).asInt,PV.slice (af8 (x.fld 2).asList)]
theorem bla {x:PV} (g:ItemGood x) (R:List Tk):a07 parV aac (ann x R)=.ok (a1o x) R:=by have d:=akg g.nt g.ok.note (sg1 59::R) rfl;unfold a07 ann;rw [arx g.nm,Rs.bind_ok,aei,Rs.bind_ok,a4p g.num0 g.num1 (by decide),Rs.bind_ok,d,Rs.bind_ok,aei,Rs.bind_ok];rfl
theorem bgr (R:List Tk):∀ (l d rs:List PV),(∀ x,x∈l->ItemGood x)->adq parV aac (l.foldr ann R) d rs=adq parV aac R (d++l.map a1o) rs:=by
 intro l;induction l with
 | nil=>grind
 | cons x l O=>intro d rs h;have m:=h x (by simp);rw [List.foldr_cons,ah4];have o:isS 4 [125] (ann x (l.foldr ann R))=false:=rfl;have H:isS 1 [114,101,115,101,114,118,101,100] (ann x (l.foldr ann R))=false:=blz m.nm bhs 1 _;rw [o,H,Ae,Ae,bla m,Rs.bind_ok,O _ _ λz M=>h z (by simp [M])];simp
def a1n (m:PV):PV:=PV.agg [PV.str (m.fld 0).asStr,PV.bool (m.fld 1).asBool,PV.slice ((m.fld 2).asList.map a1o),PV.slice ((m.fld 3).asList.map amq),PV.slice (af8 (m.fld 4).asList)]
theorem bk8 (R:List Tk) (l d rs:List PV) (h:∀ x,x∈l->SpP x):adq parV aac (resK spK l++R) d rs=adq parV aac R d (rs++l.map amq):=by
 cases l with
 | nil=>simp [resK]
 | cons x l=>have e:=a5d (most:=2147483647) (by decide) R l x [] (h x (by simp)) λy m=>h y (by simp [m]);rw [ah4];show (ada 2147483647 (spK x++apk spK l++R) []).bind (λl r=>adq parV aac r d (rs++l))=_;grind [List.append_assoc,Rs.bind_ok]
theorem bko {m:PV} (g:EnumGood m) (R:List Tk):aq0 parV aac [] (ahz m R)=.ok (a1n m) R:=by
 have z:=akg g.nt g.ok.ok.note (sg1 123::((m.fld 2).asList.foldr ann (resK spK (m.fld 3).asList++sg1 125::R))) rfl;have o:adq parV aac ((m.fld 2).asList.foldr ann (resK spK (m.fld 3).asList++sg1 125::R)) [] []=.ok ((m.fld 2).asList.map a1o,(m.fld 3).asList.map amq) R:=by rw [bgr _ _ _ _ g.items,bk8 _ _ _ _ g.ok.span,ah4,bby];simp
 have e:(bif isS 1 [111,112,101,110] (ahz m R) then (ahz m R).tail else ahz m R)=nm1 [101,110,117,109]::nm1 (m.fld 0).asStr::(ae5 (m.fld 4).asList++sg1 123::((m.fld 2).asList.foldr ann (resK spK (m.fld 3).asList++sg1 125::R))):=by unfold ahz;cases (m.fld 1).asBool<;>rfl
 have d:isS 1 [111,112,101,110] (ahz m R)=(m.fld 1).asBool:=by unfold ahz;cases (m.fld 1).asBool<;>rfl
 unfold aq0;rw [e,d,atj,Rs.bind_ok,avs g.nm,Rs.bind_ok,z,Rs.bind_ok,aei,Rs.bind_ok,o,Rs.bind_ok];rfl
theorem bdx {b:Bool}{t:Bo} (m:ack t=true) (z:t≠strm) (R:List Tk):awf (a89 b t R)=.ok (b,t) R:=by
 have d:(t==[115,116,114,101,97,109])=false:=neLs z;have o:∀ r,isS 1 [115,116,114,101,97,109] (nm1 t::r)=false:=λr=>by rw [aya,d];rfl
 unfold awf a89;rw [aei,Rs.bind_ok];cases b with
 | true=>show (adk (nm1 t::sg1 41::R)).bind _=_;unfold adk;rw [aof m,Rs.bind_ok,aei,Rs.bind_ok];rfl
 | false=>show (adk (bif isS 1 [115,116,114,101,97,109] (nm1 t::sg1 41::R) then (nm1 t::sg1 41::R).tail else nm1 t::sg1 41::R)).bind (λs H=>(eatS 4 [41] H).bind λ_ M=>Rs.ok (isS 1 [115,116,114,101,97,109] (nm1 t::sg1 41::R),s) M)=_;unfold adk;rw [o,Ae,aof m,Rs.bind_ok,aei,Rs.bind_ok]
def a8e (x:PV):PV:=PV.agg [PV.str (x.fld 0).asStr,PV.str (x.fld 1).asStr,PV.str (x.fld 2).asStr,PV.int (x.fld 3).asInt,PV.slice (af8 (x.fld 4).asList)]
theorem bh2 {a:Int} (d:1<=a) (m:a<=4):bdu ((a==3)||(a==4)) ((a==2)||(a==4))=a:=by rcases (show a=1\/a=2\/a=3\/a=4 by omega) with rfl | rfl | rfl | rfl<;>rfl
theorem bo4 {x:PV} (g:MethGood x) (R:List Tk):rpcS parV aac (ayk x R)=.ok (a8e x) R:=by obtain ⟨d,m,o,z,H⟩:=g.parts;have M:=akg g.nt g.ok.note (sg1 59::R) rfl;unfold rpcS ayk;rw [atj,Rs.bind_ok,arx d,Rs.bind_ok,bdx m z,Rs.bind_ok,atj,Rs.bind_ok,bdx o H,Rs.bind_ok,M,Rs.bind_ok,aei,Rs.bind_ok,bh2 g.sh0 g.sh1];rfl
theorem bmd (R:List Tk):∀ (l d:List PV),(∀ x,x∈l->MethGood x)->apl parV aac (l.foldr ayk (sg1 125::R)) d=.ok (d++l.map a8e) R:=by
 intro l;induction l with
 | nil=>grind [an6,bby]
 | cons x l H=>intro d h;rw [List.foldr_cons,an6];have m:isS 4 [125] (ayk x (l.foldr ayk (sg1 125::R)))=false:=rfl;rw [m,Ae,bo4 (h x (by simp)),Rs.bind_ok,H _ λz o=>h z (by simp [o])];simp
def aru (m:PV):PV:=PV.agg [PV.str (m.fld 0).asStr,PV.slice ((m.fld 1).asList.map a8e),PV.slice (af8 (m.fld 2).asList)]
theorem bpc {m:PV} (g:SvcGood m) (R:List Tk):svcS parV aac (svcK m R)=.ok (aru m) R:=by have o:=akg g.nt g.ok.ok.note (sg1 123::((m.fld 1).asList.foldr ayk (sg1 125::R))) rfl;have d:=bmd R _ [] g.meths;unfold svcS svcK;rw [atj,Rs.bind_ok,avs g.nm,Rs.bind_ok,o,Rs.bind_ok,aei,Rs.bind_ok,d,Rs.bind_ok];rfl
theorem bar (l:List PV):∀ b:FB,(∀ x,x∈l->SvcGood x)->af1 parV aac (l.foldr svcK []) b=.ok { b with ss:=b.ss++l.map aru } []:=by
 induction l with
 | nil=>intro b _;rw [List.foldr_nil,aiy];simp
 | cons x l d=>intro b h;rw [List.foldr_cons,aiy];show (svcS parV aac (svcK x (l.foldr svcK []))).bind (λx r=>af1 parV aac r { b with ss:=b.ss++[x] })=_;grind [bpc,Rs.bind_ok]
theorem a6p (R:List Tk) (l:List PV):∀ b:FB,(∀ x,x∈l->EnumGood x)->af1 parV aac (l.foldr ahz R) b=af1 parV aac R { b with es:=b.es++l.map a1n }:=by
 induction l with
 | nil=>intro b _;simp
 | cons x l M=>
  intro b h;rw [List.foldr_cons,aiy];have e:∀ r,(ahz x r).isEmpty=false/\isS 1 [109,101,115,115,97,103,101] (ahz x r)=false/\(isS 1 [101,110,117,109] (ahz x r)||isS 1 [111,112,101,110] (ahz x r))=true:=λr=>by unfold ahz;cases (x.fld 1).asBool<;>exact ⟨rfl,rfl,rfl⟩
  obtain ⟨d,m,o⟩:=e (l.foldr ahz R);rw [d,m,o,Ae,Ae,Ad,bko (h x (by simp)),Rs.bind_ok,M _ λz H=>h z (by simp [H])];simp
theorem baq (R:List Tk) (l:List PV):∀ b:FB,(∀ x,x∈l->MsgGood x/\∀ y,y∈(x.fld 2).asList->afe 65535 y=true)->af1 parV aac (l.foldr msgK R) b=af1 parV aac R { b with ms:=b.ms++l.map ayo }:=by
 induction l with
 | nil=>intro b _;simp
 | cons x l d=>intro b h;rw [List.foldr_cons,aiy];show (msgS parV aac 16 [] b.ms b.es (msgK x (l.foldr msgK R))).bind (λx r=>af1 parV aac r { b with ms:=x.1,es:=x.2 })=_;grind [boh,Rs.bind_ok]
theorem bec (f:PV) {w:Bo} (d:w≠[109,101,115,115,97,103,101]) (m:w≠[101,110,117,109]) (o:w≠[111,112,101,110]) (z:w≠[115,101,114,118,105,99,101]):isS 1 w (ahk f)=false:=by
 unfold ahk;cases (f.fld 3).asList with
 | cons x l=>exact (by rw [List.foldr_cons];show ((1:Int)==1&&[109,101,115,115,97,103,101]==w)=false;grind)
 | nil=>
  cases (f.fld 4).asList with
  | cons x l=>
   rw [List.foldr_nil,List.foldr_cons];unfold ahz;cases (x.fld 1).asBool
   ·show ((1:Int)==1&&[101,110,117,109]==w)=false;grind
   ·show ((1:Int)==1&&[111,112,101,110]==w)=false;grind
  | nil=>
   cases (f.fld 5).asList with
   | cons x l=>exact (by rw [List.foldr_nil,List.foldr_nil,List.foldr_cons];show ((1:Int)==1&&[115,101,114,118,105,99,101]==w)=false;grind)
   | nil=>rfl
theorem a7h (f:PV):∀ (l d:List PV),adm (l.foldr impK (ahk f)) d=.ok (d++l.map apg) (ahk f):=by
 intro l;induction l with
 | nil=>intro d;rw [List.foldr_nil,afw,bec f (by decide) (by decide) (by decide) (by decide)];simp
 | cons x l o=>intro d;rw [List.foldr_cons,afw];show (eatS 4 [59] (sg1 59::l.foldr impK (ahk f))).bind (λ_ m=>adm m (d++[PV.str x.asStr]))=_;grind [aei,Rs.bind_ok,apg]
def ap3 (d:Bo) (f:PV):PV:=PV.agg [PV.str d,PV.str (f.fld 1).asStr,PV.slice ((f.fld 2).asList.map apg),PV.slice ((f.fld 3).asList.map ayo),PV.slice ((f.fld 4).asList.map a1n),PV.slice ((f.fld 5).asList.map aru)]
theorem bkx (d:Bo) {f:PV} (g:FileGood f) (O:∀ x,x∈(f.fld 3).asList->∀ y,y∈(x.fld 2).asList->afe 65535 y=true):ax1 parV aac d (a0q f)=.ok (ap3 d f) []:=by
 have H:=a7h f (f.fld 2).asList [];have z:af1 parV aac (ahk f) ⟨[],[],[]⟩=.ok ⟨(f.fld 3).asList.map ayo,(f.fld 4).asList.map a1n,(f.fld 5).asList.map aru⟩ []:=by unfold ahk;rw [baq _ _ _ λx o=>⟨g.msg x o,O x o⟩,a6p _ _ _ g.enum,bar _ _ g.svc];simp
 have m:ar8 (a0q f)=.ok (f.fld 1).asStr ((f.fld 2).asList.foldr impK (ahk f)):=by
  unfold ar8 a0q;cases h:((f.fld 1).asStr==([]:Bo)) with
  | true=>
   have U:(f.fld 1).asStr=[]:=by simpa using h
   have e:isS 1 [115,112,97,99,101] ((f.fld 2).asList.foldr impK (ahk f))=false:=by
    cases (f.fld 2).asList with
    | nil=>exact bec f (by decide) (by decide) (by decide) (by decide)
    | cons x l=>rfl
   grind
  | false=>
   have M:(f.fld 1).asStr≠[]:=by simpa using h
   show (ahl 1 defP (nm1 (f.fld 1).asStr::sg1 59::(f.fld 2).asList.foldr impK (ahk f))).bind _=_;rw [aof (g.nm.resolve_left M),Rs.bind_ok,aei,Rs.bind_ok]
 unfold ax1;rw [m,Rs.bind_ok,H,Rs.bind_ok,z,Rs.bind_ok];rfl
end
end Go.Ab
namespace Go.Ab
open Go
set_option maxRecDepth 100000
noncomputable section
theorem biu {s:Bo}{l:List Tk} (h:TksT s l):∀ k,k∈l->k.s.length<=s.length:=by
 induction h with
 | nil=>intro k d;cases d
 | sp _ _ m=>intro k d;have:=m k d;simp only [Ak];omega
 | tok o _ m=>
  intro k d;rw [Am];rcases Bl.1 d with rfl | d
  ·cases o with
   | name _ _=>exact Nat.le_add_right _ _
   | int _ _=>exact Nat.zero_le _
   | text _=>exact Nat.le_trans (amx _) (Nat.le_add_right _ _)
   | sign _=>exact Nat.le_add_right _ _
  ·have:=m k d;omega
theorem bah {f:PV} (d:chkF f=0):aew f=true/\(ald f).length<=16384:=by
 unfold chkF at d;cases o:amo f<;>rw [o] at d
 ·cases d
 cases z:aew f<;>rw [z] at d
 ·cases d
 cases H:asi f<;>rw [H] at d
 ·cases d
 simp only [Aq,Ae] at d;by_cases m:ahb f=0
 ·rw [m,show ((0:Int) != 0)=false from rfl,Ae] at d;cases M:aiv f<;>rw [M] at d
  ·cases d
  simp only [Aq,Ae] at d;refine ⟨rfl,?_⟩;by_cases O:((ald f).length:Int)>16384
  ·rw [Aj O] at d;cases d
  ·omega
 ·rw [bneI m] at d;exact absurd d m
theorem boz (d:Bo) {f:PV} (h:OkFile f) (W:chkF f=0):F15 0 d (ald f)=some (ap3 d f,0,0):=by
 have g:=ax2 h W;obtain ⟨H,Y⟩:=bah W;have Z:∀ x,x∈(f.fld 3).asList->∀ y,y∈(x.fld 2).asList->afe 65535 y=true:=λx m y hy=>by unfold aew at H;simp only [Ag] at H;have:=Bf.1 H.1.1 x m;unfold aqi at this;simp only [Ag] at this;exact Bf.1 this.2 y hy
 have M:=bky g;obtain ⟨xs,s2,V,X⟩:=bh0 Y M;have o:=bmr M;have U:=biu M;rw [<-V,List.length_map] at o;have z:∀ x,x∈xs->(x.fld 1).asStr.length<=16384:=λx m=>by have:=U (tkOf x) (by rw [<-V];exact List.mem_map_of_mem m);have e:(tkOf x).s=(x.fld 1).asStr:=rfl;rw [e] at this;omega
 have ht:TNum xs:={ len:=by omega,txt:=λx m=>(X x m).2,num:=λx m=>(X x m).1,sml:=z };have O:ts xs 0=a0q f:=by unfold ts;rw [A3,V]
 rw [ao0 bl8 d (ald f) xs 0 s2 ht (by omega)];unfold avc;rw [O,bkx d g Z]
end
end Go.Ab
namespace Go.Ab
open Go
set_option maxRecDepth 100000
noncomputable section
def spC (c:UInt8):Bool:=c==32||c==9||c==13||c==10
def aja:Bo->Bool
 | 47::47::_=>true
 | _=>false
def asc (c:UInt8) (r:Bo):Int:=
 bif spC c then 1 else bif aja (c::r) then 2 else bif afj c r then 3 else bif digC c then 4 else bif c==34 then 5 else bif aia c then 6 else 0
theorem pre47 (r:Bo):F230 0 (47::r) ([47,47]:Bo)=some (aja (47::r)):=by
 unfold F230 F297;have e:((([47,47]:Bo).length:Nat):Int)=(2:Int):=rfl;simp only [e];cases r with
 | nil=>rfl
 | cons d r=>
  have z:decide (((47::d::r:Bo).length:Int)>=2)=true:=Aj (by simp only [Ak];omega);have H:decide ((0:Int)<=0/\(0:Int)<=2/\(2:Int)<=((47::d::r:Bo).length:Int))=true:=Aj (by simp only [Ak];omega);have M:(((47::d::r:Bo).take (2:Int).toNat).drop (0:Int).toNat==([47,47]:Bo))=aja (47::d::r):=by
   show ([47,d]==([47,47]:Bo))=_;by_cases o:d=47
   ·subst o;rfl
   ·have:aja (47::d::r)=false:=by
     unfold aja;split
     ·rename_i m;simp only [List.cons.injEq] at m;exact absurd m.2.1 o
     ·rfl
    rw [this,At];intro q;simp only [List.cons.injEq] at q;exact o q.2.1
  simp only [z,H,M,imp,Ad,Aa]
theorem bgc {c:UInt8} (r:Bo) (h:c≠47):aja (c::r)=false:=by
 unfold aja;split
 ·rename_i d;simp only [List.cons.injEq] at d;exact absurd d.1 h
 ·rfl
theorem bjy {c:UInt8} (h:spC c=false):c≠32/\c≠9/\c≠13/\c≠10:=by unfold spC at h;simp only [Bool.or_eq_false_iff,At] at h;exact ⟨h.1.1.1,h.1.1.2,h.1.2,h.2⟩
theorem am5 (c:UInt8) (r:Bo):F123 0 (c::r)=some (asc c r):=by
 unfold asc;cases m:spC c with
 | true=>have o:(c::r).getD (0:Int).toNat 0=c:=rfl;unfold F123;simp only [in0,o,Ad,bqI (c:=c) (k:=32) (n:=32) rfl,bqI (c:=c) (k:=9) (n:=9) rfl,bqI (c:=c) (k:=13) (n:=13) rfl,bqI (c:=c) (k:=10) (n:=10) rfl];unfold spC at m;cases O:(c==32)<;>cases U:(c==9)<;>cases V:(c==13)<;>cases W:(c==10)<;>first | rfl | (rw [O,U,V,W] at m;cases m)
 | false=>
  obtain ⟨n1,n2,n3,n4⟩:=bjy m;simp only [Ae];by_cases d:c=47
  ·subst d;have H:(((47::r:Bo).take (1:Int).toNat).drop (0:Int).toNat)=[47]:=rfl;have M:decide ((0:Int)<=(0:Int)/\(0:Int)<=(1:Int)/\(1:Int)<=((47::r:Bo).length:Int))=true:=Aj (by simp only [Ak];omega);have o:(47::r:Bo).getD (0:Int).toNat 0=47:=rfl;have X:(((47:UInt8).toNat:Int)==(32:Int))=false:=rfl;have Y:(((47:UInt8).toNat:Int)==(9:Int))=false:=rfl;have Z:(((47:UInt8).toNat:Int)==(13:Int))=false:=rfl;have k4:(((47:UInt8).toNat:Int)==(10:Int))=false:=rfl;have k5:(((47:UInt8).toNat:Int)==(46:Int))=false:=rfl;have k6:(((47:UInt8).toNat:Int)==(34:Int))=false:=rfl;have z:letB 47=false:=by decide
   have l2:digC 47=false:=by decide
   have l3:aia 47=false:=by decide
   have l4:afj 47 r=false:=by unfold afj;rw [z];rfl
   unfold F123;simp only [in0,H,M,o,Ad,X,Y,Z,k4,k5,k6,Ae,pre47,Aa,aje,aps,bd0,z,l2,l3,l4,imp,Ao,Bool.true_or,Bool.or_true,aat];cases aja (47::r)<;>rfl
  ·rw [akm c r ⟨n1,n2,n3,n4,d⟩,bgc r d];rfl
def skipS:Bool->Bo->Nat
 | _,[]=>0
 | true,c::r=>bif c==10 then skipS false r+1 else skipS true r+1
 | false,c::r=>bif spC c then skipS false r+1 else bif aja (c::r) then skipS true r+1 else 0
theorem awg:∀ (s:Bo) (b:Bool),skipS b s<=s.length:=by
 intro s;induction s with
 | nil=>intro b;cases b<;>exact Nat.le_refl _
 | cons c r d=>
  intro b;have m:=d true;have o:=d false;cases b
  ·simp only [skipS,Ak];cases spC c<;>cases aja (c::r)<;>simp only [Ad,Ae]<;>omega
  ·simp only [skipS,Ak];cases (c==10)<;>simp only [Ad,Ae]<;>omega
def ne10 (c:UInt8):Bool:=!(c==10)
theorem bd1:∀ s:Bo,skipS true s=runN ne10 s+skipS false (s.drop (runN ne10 s)):=by
 intro s;induction s with
 | nil=>rfl
 | cons c r d=>
  rw [aeo];unfold ne10;cases h:(c==10) with
  | true=>have e:c=10:=eq_of_beq h;subst e;simp [skipS,spC]
  | false=>simp only [skipS,h,Ae,Ao,Ba,List.drop_succ_cons];rw [d];unfold ne10;omega
theorem bik (c:UInt8):F125 0 (c.toNat:Int)=some (ne10 c):=by unfold F125 ne10;show some (!((c.toNat:Int)==10))=_;rw [bqI (c:=c) (k:=10) (n:=10) rfl]
theorem bo6 (s:Bo) (m:s.length<=1048576):F124 0 s ()=some ((runN ne10 s:Nat):Int):=by
 have h:=awd (p:=ne10) (step:=S124_3step 0) s (λi d=>by
  simp only [S124_3step,S124_3,abm,d,decide_true,aab,imp,Ad,Ah,bik,Aa,Aq,Bool.false_or,Bool.true_or,abv (show i<=9223372036854775000 by omega)];cases ne10 (s.getD i 0)<;>rfl) (by
  simp only [S124_3step,S124_3,abm,Nat.lt_irrefl,decide_false,aab,imp,Ae,Ao,Bool.true_or,Ad,Aa]) s.length 0 (by omega) (by omega)
 unfold F124;rw [aaq,show (0:Int)=((0:Nat):Int) from rfl,h,A3,Nat.zero_add];rfl
theorem awj {c:UInt8}{r:Bo}:(asc c r==1)=spC c:=by
 unfold asc;cases spC c with
 | true=>rfl
 | false=>cases aja (c::r)<;>cases afj c r<;>cases digC c<;>cases (c==34)<;>cases aia c<;>rfl
theorem a5f {c:UInt8}{r:Bo} (h:spC c=false):(asc c r==2)=aja (c::r):=by unfold asc;rw [h];cases aja (c::r)<;>cases afj c r<;>cases digC c<;>cases (c==34)<;>cases aia c<;>rfl
theorem a9b (d:Bo) (hl:d.length<=1048576):∀ (m i:Nat),d.length-i<=m->i<=d.length->∃ z,aa9 (S59_3step 0) (d,(i:Int))=some z/\(z=.inl ((i+skipS false (d.drop i):Nat):Int)\/z=.inr ((i+skipS false (d.drop i):Nat):Int)):=by
 intro m;induction m with
 | zero=>intro i hm W;have H:decide ((i:Int)<(d.length:Int))=false:=Al (by omega);rw [A2 (by omega)];exact ⟨.inr (i:Int),aae (by simp only [S59_3step,S59_3,H,Ae]),Or.inr rfl⟩
 | succ m ih=>
  intro i hm W;by_cases M:i<d.length
  ·have H:decide ((i:Int)<(d.length:Int))=true:=Aj (by omega);rw [aa1 M 0];obtain ⟨c,hc⟩:∃ c,d.getD i 0=c:=⟨_,rfl⟩;have U:d.drop i=c::d.drop (i+1):=by rw [aa1 M 0,hc]
   rw [hc];cases o:spC c with
   | true=>
    obtain ⟨z,X,Y⟩:=ih (i+1) (by omega) (by omega);have st:S59_3step 0 (d,(i:Int))=some (.inl (d,((i+1:Nat):Int))):=by simp only [S59_3step,S59_3,H,alo d W,Ad,afd,U,am5,awj,o,Aa,abv (show i<=9223372036854775000 by omega)]
    refine ⟨z,by rw [aba st,X],?_⟩;simp only [skipS,o,Ad];rw [show i+(skipS false (d.drop (i+1))+1)=i+1+skipS false (d.drop (i+1)) by omega];exact Y
   | false=>
    cases V:aja (c::d.drop (i+1)) with
    | true=>
     have hn:c≠10:=(bjy o).2.2.2;have aa:ne10 c=true:=by unfold ne10;rw [At.2 hn];rfl
     have hr:runN ne10 (d.drop i)=runN ne10 (d.drop (i+1))+1:=by rw [U,aeo,if_pos aa]
     have Z:=an7 ne10 (d.drop i);rw [A4] at Z;obtain ⟨z,X,Y⟩:=ih (i+runN ne10 (d.drop i)) (by omega) (by omega);have O:=bo6 (d.drop i) (by rw [A4];omega);have w:IntKind.wrap .i64 ((i:Int)+((runN ne10 (d.drop i):Nat):Int))=((i+runN ne10 (d.drop i):Nat):Int):=by rw [acs (by omega) (by omega)];omega
     have st:S59_3step 0 (d,(i:Int))=some (.inl (d,((i+runN ne10 (d.drop i):Nat):Int))):=by rw [<-w];simp only [S59_3step,S59_3,H,alo d W,Ad,afd,O,Aa];rw [U];simp only [am5,awj,a5f o,o,V,Aa,Ad,Ae]
     refine ⟨z,by rw [aba st,X],?_⟩;have ab:skipS false (c::d.drop (i+1))=runN ne10 (d.drop i)+skipS false (d.drop (i+runN ne10 (d.drop i))):=by simp only [skipS,o,V,Ad,Ae];rw [bd1,Bd,hr];rw [show i+1+runN ne10 (d.drop (i+1))=i+(runN ne10 (d.drop (i+1))+1) by omega];omega
     rw [ab,<-Nat.add_assoc];exact Y
    | false=>
     refine ⟨.inl (i:Int),aae ?_,?_⟩
     ·simp only [S59_3step,S59_3,H,alo d W,Ad,afd,U,am5,awj,a5f o,o,V,Aa,Ae]
     ·simp [skipS,o,V]
  ·have H:decide ((i:Int)<(d.length:Int))=false:=Al (by omega);rw [A2 (by omega)];exact ⟨.inr (i:Int),aae (by simp only [S59_3step,S59_3,H,Ae]),Or.inr rfl⟩
theorem bil (s:Bo) (o:s.length<=1048576):F59 0 s=some ((skipS false s:Nat):Int):=by obtain ⟨z,m,d⟩:=a9b s o s.length 0 (by omega) (by omega);rw [A3,Nat.zero_add] at d;unfold F59;rw [aaq,show (0:Int)=((0:Nat):Int) from rfl,m];rcases d with rfl | rfl<;>rfl
theorem at8:∀ (s:Bo) (b:Bool) (c:UInt8) (r:Bo),s.drop (skipS b s)=c::r->spC c=false/\aja (c::r)=false:=by
 intro s;induction s with
 | nil=>intro b c r h;cases b<;>simp at h
 | cons a s d=>
  intro b c r h;cases b with
  | true=>
   simp only [skipS] at h;cases z:(a==10)<;>simp only [z,Ad,Ae,List.drop_succ_cons] at h
   ·exact d true c r h
   ·exact d false c r h
  | false=>
   simp only [skipS] at h;cases o:spC a<;>simp only [o,Ad,Ae] at h
   ·cases m:aja (a::s)<;>simp only [m,Ad,Ae,List.drop_succ_cons,A3] at h
    ·simp only [List.cons.injEq] at h;obtain ⟨rfl,rfl⟩:=h;exact ⟨o,m⟩
    ·exact d true c r h
   ·exact d false c r (by simpa using h)
end
end Go.Ab
namespace Go.Ab
open Go
set_option maxRecDepth 100000
noncomputable section
theorem bji:∀ l:Bo,eat l<=l.length:=by
 intro l;induction l with
 | nil=>exact Nat.le_refl _
 | cons c r d=>
  rw [agi];split
  ·simp;omega
  ·split
   ·split
    ·split<;>simp<;>omega
    ·omega
   ·omega
def ag7:Bo->Nat
 | []=>0
 | c::r=>bif c==46 then eat r+1 else eat (c::r)
theorem a4k (s:Bo):ag7 s<=s.length:=by
 cases s with
 | nil=>exact Nat.le_refl _
 | cons c r=>have d:=bji r;have m:=bji (c::r);simp only [ag7,Ak] at*;cases (c==46)<;>simp only [Ad,Ae]<;>omega
theorem a1j (c:UInt8) (r:Bo) (d:(c::r).length<=1048576):F234 0 (c::r)=some ((ag7 (c::r):Nat):Int):=by
 unfold F234;have m:(c::r).getD (0:Int).toNat 0=c:=rfl;simp only [in0,m,Ad,bqI (c:=c) (k:=46) (n:=46) rfl,ag7];cases o:(c==46) with
 | true=>have h:=agl (c::r) d (c::r).length 1 (by omega) (by simp);simp only [Ad,aaq];rw [show (1:Int)=((1:Nat):Int) from rfl,h];show some (((1+eat r:Nat):Nat):Int)=_;rw [Nat.add_comm]
 | false=>have h:=agl (c::r) d (c::r).length 0 (by omega) (by omega);simp only [Ae,aaq];rw [show (0:Int)=((0:Nat):Int) from rfl,h,A3,Nat.zero_add];rfl
def atv (s:Bo):(Tk×Nat)⊕Int:=bif ack (s.take (ag7 s)) then .inl (⟨1,s.take (ag7 s),0⟩,ag7 s) else .inr 8
def a7k (s:Bo):(Tk×Nat)⊕Int:=
 bif (decide (1<runN digC s)&&s.getD 0 0==48)||(decide (runN digC s<s.length)&&alnB (s.getD (runN digC s) 0)) then .inr 2
 else bif (ac4 (Lib.parseUintB 64 (s.take (runN digC s)))).2 then .inl (⟨2,[],IntKind.wrap .i64 (ac4 (Lib.parseUintB 64 (s.take (runN digC s)))).1⟩,runN digC s) else .inr 6
def unqV (s:Bo):Bo×Int×Int:=(F131 0 s).getD ([],0,2)
def bdf (s:Bo):(Tk×Nat)⊕Int:=bif (unqV s).2.2==0 then .inl (⟨3,(unqV s).1,0⟩,(unqV s).2.1.toNat) else .inr 2
def as1:Bo->(Tk×Nat)⊕Int
 | []=>.inr 2
 | c::r=>bif afj c r then atv (c::r) else bif digC c then a7k (c::r) else bif c==34 then bdf (c::r) else bif aia c then .inl (⟨4,[c],0⟩,1) else .inr 2
inductive RdOk (y:Option (PV×Int×Int)):(Tk×Nat)⊕Int->Prop
 | ok (k:Tk) (n:Nat):y=some (PV.agg [PV.int k.k,PV.str k.s,PV.int k.n,PV.int 0],(n:Int),0)->RdOk y (.inl (k,n))
 | er (e:Int) (v:PV) (m:Int):e≠0->y=some (v,m,e)->RdOk y (.inr e)
theorem bdg {x:(Tk×Nat)⊕Int} (h:RdOk none x):False:=by
 cases h with
 | ok k n h=>cases h
 | er e v m d h=>cases h
theorem an5 (c:UInt8) (r:Bo):as1 (c::r)=bif afj c r then atv (c::r) else bif digC c then a7k (c::r) else bif c==34 then bdf (c::r) else bif aia c then .inl (⟨4,[c],0⟩,1) else .inr 2:=rfl
theorem bcp (c:UInt8) (r:Bo) (O:(c::r).length<=1048576):RdOk (F129 0 (c::r)) (atv (c::r)):=by
 have U:=a4k (c::r);have o:decide ((0:Int)<=(0:Int)/\(0:Int)<=((ag7 (c::r):Nat):Int)/\((ag7 (c::r):Nat):Int)<=((c::r).length:Int))=true:=Aj (by omega);have z:((c::r).take ((ag7 (c::r):Nat):Int).toNat).drop (0:Int).toNat=(c::r).take (ag7 (c::r)):=by rw [Ah];rfl
 obtain ⟨y,H,M⟩:=azq ((c::r).take (ag7 (c::r))) (by rw [List.length_take];omega);have d:F129 0 (c::r)=bif !ack ((c::r).take (ag7 (c::r))) then some (PV.agg [PV.int 0,PV.str [],PV.int 0,PV.int 0],0,8) else some (PV.agg [PV.int 1,PV.str ((c::r).take (ag7 (c::r))),PV.int 0,PV.int 0],((ag7 (c::r):Nat):Int),0):=by unfold F129;simp only [a1j c r O,Aa,o,z,Ad,H,M]
 unfold atv;cases m:ack ((c::r).take (ag7 (c::r))) with
 | true=>rw [m] at d;exact .ok _ _ d
 | false=>rw [m] at d;exact .er _ _ _ (by decide) d
theorem bgo (c:UInt8) (r:Bo) (U:(c::r).length<=1048576):RdOk (F130 0 (c::r)) (a7k (c::r)):=by
 have d:=an7 digC (c::r);have z:=ay8 (c::r) U;obtain ⟨n,V⟩:∃ n,runN digC (c::r)=n:=⟨_,rfl⟩;unfold a7k;rw [V] at d z ⊢;have M:decide ((0:Int)<=(0:Int)/\(0:Int)<=(n:Int)/\(n:Int)<=((c::r).length:Int))=true:=Aj (by omega);have O:((c::r).take n).drop (0:Int).toNat=(c::r).take n:=rfl;have X:decide ((n:Int)>(1:Int))=decide (1<n):=decide_eq_decide.2 (by omega);have Z:decide ((n:Int)<((c::r).length:Int))=decide (n<(c::r).length):=decide_eq_decide.2 (by omega);have Y:((((c::r).getD (0:Int).toNat 0).toNat:Int)==(48:Int))=((c::r).getD 0 0==48):=bqI (k:=48) rfl;have W:=ah7 ((c::r).take n) (by rw [List.length_take];omega);have key:F130 0 (c::r)=bif (decide (1<n)&&(c::r).getD 0 0==48)||(decide (n<(c::r).length)&&alnB ((c::r).getD n 0)) then some (PV.agg [PV.int 0,PV.str [],PV.int 0,PV.int 0],0,2)
  else bif !(ac4 (Lib.parseUintB 64 ((c::r).take n))).2 then some (PV.agg [PV.int 0,PV.str [],PV.int 0,PV.int 0],0,6) else some (PV.agg [PV.int 2,PV.str [],PV.int (IntKind.wrap .i64 (ac4 (Lib.parseUintB 64 ((c::r).take n))).1),PV.int 0],(n:Int),0):=by
  unfold F130
  simp only [z,Aa,X,Z,Y,in0,aab,imp,Bool.true_or,Bool.or_true,aat,Ad,Ah,a0w,M,O,W]
  by_cases o:n<(c::r).length
  ·simp only [o,decide_true,Bool.true_and,Ad,Bool.true_or,Bool.or_true];cases decide (1<n)<;>cases ((c::r).getD 0 0==48)<;>cases alnB ((c::r).getD n 0)<;>rfl
  ·simp only [o,decide_false,Bool.false_and,Ae,aat,Ao,Bool.true_or,Ad];cases decide (1<n)<;>cases ((c::r).getD 0 0==48)<;>rfl
 cases m:(decide (1<n)&&(c::r).getD 0 0==48)||(decide (n<(c::r).length)&&alnB ((c::r).getD n 0)) with
 | true=>rw [m] at key;exact .er _ _ _ (by decide) key
 | false=>
  rw [m] at key;cases H:(ac4 (Lib.parseUintB 64 ((c::r).take n))).2 with
  | true=>rw [H] at key;exact .ok _ _ key
  | false=>rw [H] at key;exact .er _ _ _ (by decide) key
theorem a4u (c:UInt8) (r:Bo) (o:(c::r).length<=1048576) (H:spC c=false) (z:aja (c::r)=false):RdOk (F61 0 (c::r)) (as1 (c::r)):=by
 have m:=am5 c r;unfold asc at m;rw [H,z,Ae,Ae] at m;rw [an5];unfold F61;rw [m,Aa];cases M:afj c r with
 | true=>
  simp only [Ad,show ((3:Int)==3)=true from rfl];have h:=bcp c r o;cases d:F129 0 (c::r) with
  | none=>rw [d] at h;exact (bdg h).elim
  | some y=>rw [d] at h;rw [Aa];exact h
 | false=>
  cases O:digC c with
  | true=>
   simp only [Ad,Ae,show ((4:Int)==3)=false from rfl,show ((4:Int)==4)=true from rfl];have h:=bgo c r o;cases d:F130 0 (c::r) with
   | none=>rw [d] at h;exact (bdg h).elim
   | some y=>rw [d] at h;rw [Aa];exact h
  | false=>
   cases U:(c==34) with
   | true=>
    simp only [Ad,Ae,show ((5:Int)==3)=false from rfl,show ((5:Int)==4)=false from rfl,show ((5:Int)==5)=true from rfl];unfold bdf unqV;rcases awr (c::r) o with ⟨a,q,W,d⟩ | ⟨_,d⟩
    ·rw [d];exact .ok ⟨3,a,0⟩ (abd a).length rfl
    ·rw [d];exact .er 2 _ _ (by decide) rfl
   | false=>
    cases V:aia c with
    | true=>have e:decide ((0:Int)<=(0:Int)/\(0:Int)<=(1:Int)/\(1:Int)<=((c::r).length:Int))=true:=Aj (by simp only [Ak];omega);simp only [Ad,Ae,show ((6:Int)==3)=false from rfl,show ((6:Int)==4)=false from rfl,show ((6:Int)==5)=false from rfl,show ((6:Int)==6)=true from rfl,e];exact .ok ⟨4,[c],0⟩ 1 rfl
    | false=>exact .er 2 _ _ (by decide) rfl
def WfTk (k:Tk):Prop:=(k.k=1/\ack k.s=true/\k.n=0)\/(k.k=2/\k.s=[]/\∃ u:Nat,u<18446744073709551616/\k.n=IntKind.wrap .i64 (u:Int))\/(k.k=3/\k.n=0)\/(k.k=4/\k.n=0/\∃ c,k.s=[c]/\aia c=true)
theorem ayt {l:Bo}{u:Nat} (h:Lib.parseUintB 64 l=.ok u):u<18446744073709551616:=by have:=Lib.parseUintB_le h;omega
theorem av8 {c:UInt8}{r:Bo} (hl:(c::r).length<=1048576) {k:Tk}{n:Nat} (h:as1 (c::r)=.inl (k,n)):1<=n/\n<=(c::r).length/\WfTk k/\k.s.length<=(c::r).length:=by
 rw [an5] at h;cases m:afj c r with
 | true=>
  rw [m] at h;simp only [Ad] at h;unfold atv at h;cases O:ack ((c::r).take (ag7 (c::r)))<;>rw [O] at h<;>simp only [Ad,Ae] at h<;>cases h;have d:=a4k (c::r);refine ⟨?_,d,Or.inl ⟨rfl,O,rfl⟩,by simp only [List.length_take];omega⟩;rcases Nat.eq_zero_or_pos (ag7 (c::r)) with U | U
  ·rw [U,List.take_zero] at O;exact absurd O (by decide)
  ·exact U
 | false=>
  cases o:digC c with
  | true=>
   rw [m,o] at h;simp only [Ad,Ae] at h;have d:=an7 digC (c::r);have H:1<=runN digC (c::r):=by rw [aeo,if_pos o];omega
   unfold a7k at h;cases Z:(decide (1<runN digC (c::r))&&(c::r).getD 0 0==48)||(decide (runN digC (c::r)<(c::r).length)&&alnB ((c::r).getD (runN digC (c::r)) 0))<;>rw [Z] at h<;>simp only [Ad,Ae] at h
   ·cases M:Lib.parseUintB 64 ((c::r).take (runN digC (c::r))) with
    | ok u=>rw [M] at h;simp only [ac4,Ad] at h;cases h;exact ⟨H,d,Or.inr (Or.inl ⟨rfl,rfl,u,ayt M,rfl⟩),Nat.zero_le _⟩
    | range=>rw [M] at h;cases h
    | «syntax»=>rw [M] at h;cases h
   ·cases h
  | false=>
   cases V:(c==34) with
   | true=>
    rw [m,o,V] at h;simp only [Ad,Ae] at h;unfold bdf unqV at h;rcases awr (c::r) hl with ⟨a,q,Y,X⟩ | ⟨_,X⟩
    ·rw [X] at h;simp only [Option.getD_some,show ((0:Int)==0)=true from rfl,Ad,Ah] at h;cases h;have hq:(abd a).length<=(c::r).length:=by rw [Y];simp
     have aa:=amx a;refine ⟨?_,hq,Or.inr (Or.inr (Or.inl ⟨rfl,rfl⟩)),by show a.length<=_;omega⟩;obtain ⟨z,hz⟩:=a8p a;rw [hz];simp
    ·rw [X] at h;cases h
   | false=>
    cases W:aia c with
    | true=>rw [m,o,V,W] at h;simp only [Ad,Ae] at h;cases h;exact ⟨Nat.le_refl _,by simp,Or.inr (Or.inr (Or.inr ⟨rfl,rfl,c,rfl,W⟩)),by simp⟩
    | false=>rw [m,o,V,W] at h;cases h
def tokV (k:Tk) (d:Nat):PV:=PV.agg [PV.int k.k,PV.str k.s,PV.int k.n,PV.int (d:Int)]
def cnt10 (s:Bo):Nat:=s.count 10
theorem a3m (s:Bo):cnt10 s<=s.length:=List.count_le_length
def aza:Nat->Nat->Bo->List PV->List PV⊕(Nat×Int)
 | 0,_,_,acc=>.inl acc
 | f+1,line,s,acc=>
  match s.drop (skipS false s) with
  | []=>.inl acc
  | c::r=>match as1 (c::r) with
   | .inr e=>.inr (line+cnt10 (s.take (skipS false s)),e)
   | .inl (k,n)=>aza f (line+cnt10 (s.take (skipS false s))+cnt10 ((c::r).take n)) ((c::r).drop n) (acc++[tokV k (line+cnt10 (s.take (skipS false s)))])
def bhy (s:Bo):List PV×Int×Int:=match aza (s.length+1) 1 s [] with | .inl xs=>(xs,0,0) | .inr (l,e)=>([],(l:Int),e)
theorem lcnt (l:Bo):as7 0 l ([10]:Bo)=some ((cnt10 l:Nat):Int):=rfl
theorem a8z {d:Bo} (hl:d.length<=16384):∀ (f i:Nat) (z:List PV) (o:Nat),d.length-i<f->i<=d.length->z.length<=i->o<=i+1->
 aa9 (S28_7step 0) (d,z,(o:Int),(i:Int))=some (match aza f o (d.drop i) z with | .inl xs=>.inl xs | .inr (l,e)=>.inr ([],(l:Int),e)):=by
 intro f
 induction f with
 | zero=>intro i z o hm;omega
 | succ f ih=>
  intro i z o hm hi ha ae
  unfold aza
  have aa:=awg (d.drop i) false
  rw [A4] at aa
  by_cases ag:i<d.length
  ·have W:decide ((i:Int)<(d.length:Int))=true:=Aj (by omega);have h1:=bil (d.drop i) (by rw [A4];omega);obtain ⟨k,hk⟩:∃ k,skipS false (d.drop i)=k:=⟨_,rfl⟩;rw [hk] at aa h1 ⊢;have w1:IntKind.wrap .i64 ((i:Int)+(k:Int))=((i+k:Nat):Int):=by rw [acs (by omega) (by omega)];omega
   have e2:decide (0<=(i:Int)/\(i:Int)<=((i+k:Nat):Int)/\((i+k:Nat):Int)<=(d.length:Int))=true:=Aj (by omega);have t1:(d.take (((i+k:Nat):Int)).toNat).drop ((i:Int)).toNat=(d.drop i).take k:=by rw [Ah,Ah,List.drop_take,show i+k-i=k by omega]
   have hc:=a3m ((d.drop i).take k);rw [List.length_take,A4] at hc;have w2:IntKind.wrap .i64 ((o:Int)+((cnt10 ((d.drop i).take k):Nat):Int))=((o+cnt10 ((d.drop i).take k):Nat):Int):=by rw [acs (by omega) (by omega)];omega
   have X:(d.drop i).drop k=d.drop (i+k):=by rw [Bd]
   rw [X];by_cases Y:i+k=d.length
   ·have e3:(((i+k:Nat):Int)==(d.length:Int))=true:=by rw [Y];simp
    have H:d.drop (i+k)=[]:=A2 (by omega);rw [H];refine aae ?_;simp only [S28_7step,S28_7,W,alo d hi,Ad,afd,h1,w1,e2,lcnt,e3,Aa]
   ·have e3:(((i+k:Nat):Int)==(d.length:Int))=false:=by rw [At];omega
    have Z:i+k<d.length:=by omega
    obtain ⟨c,ad⟩:∃ c,d.getD (i+k) 0=c:=⟨_,rfl⟩;have V:d.drop (i+k)=c::d.drop (i+k+1):=by rw [aa1 Z 0,ad]
    have M:=at8 (d.drop i) false c (d.drop (i+k+1)) (by rw [hk,X,V]);have U:(c::d.drop (i+k+1)).length<=1048576:=by rw [<-V,A4];omega
    have O:=a4u c (d.drop (i+k+1)) U M.1 M.2;rw [V];cases hx:as1 (c::d.drop (i+k+1)) with
    | inr e=>
     rw [hx] at O;cases O with
     | er _ v m he hy=>rw [<-V] at hy;refine aae ?_;simp only [S28_7step,S28_7,W,alo d hi,alo d (show i+k<=d.length by omega),Ad,Ae,afd,h1,w1,w2,e2,lcnt,t1,e3,hy,hx,bneI he,Aa]
    | inl kn=>
     obtain ⟨tk,n⟩:=kn;obtain ⟨ah,af,ai,_⟩:=av8 U hx;rw [<-V,A4] at af;rw [hx] at O;cases O with
     | ok _ _ hy=>
      rw [<-V] at hy;have w3:IntKind.wrap .i64 (((i+k:Nat):Int)+(n:Int))=((i+k+n:Nat):Int):=by rw [acs (by omega) (by omega)];omega
      have e4:decide (0<=((i+k:Nat):Int)/\((i+k:Nat):Int)<=((i+k+n:Nat):Int)/\((i+k+n:Nat):Int)<=(d.length:Int))=true:=Aj (by omega);have t2:(d.take (((i+k+n:Nat):Int)).toNat).drop (((i+k:Nat):Int)).toNat=(d.drop (i+k)).take n:=by rw [Ah,Ah,List.drop_take,show i+k+n-(i+k)=n by omega]
      have ab:=a3m ((d.drop (i+k)).take n);rw [List.length_take,A4] at ab;have w4:IntKind.wrap .i64 (((o+cnt10 ((d.drop i).take k):Nat):Int)+((cnt10 ((d.drop (i+k)).take n):Nat):Int))=((o+cnt10 ((d.drop i).take k)+cnt10 ((d.drop (i+k)).take n):Nat):Int):=by rw [acs (by omega) (by omega)];omega
      have ea:∀ x:PV,decide (z.length+[x].length<=aak)=true:=λx=>Aj (by simp only [Ak,Ap];unfold aak;omega);have z0:((0:Int) != (0:Int))=false:=rfl;have st:S28_7step 0 (d,z,(o:Int),(i:Int))=some (.inl (d,z++[tokV tk (o+cnt10 ((d.drop i).take k))],((o+cnt10 ((d.drop i).take k)+cnt10 ((d.drop (i+k)).take n):Nat):Int),((i+k+n:Nat):Int))):=by simp only [S28_7step,S28_7,W,alo d hi,alo d (show i+k<=d.length by omega),Ad,Ae,afd,h1,w1,w2,w3,w4,e2,e4,ea,lcnt,t1,t2,e3,hy,z0,Aa];rfl
      have:=ih (i+k+n) (z++[tokV tk (o+cnt10 ((d.drop i).take k))]) (o+cnt10 ((d.drop i).take k)+cnt10 ((d.drop (i+k)).take n)) (by omega) (by omega) (by simp;omega) (by omega);simp only [hx];rw [aba st,this,<-V,Bd]
  ·have W:decide ((i:Int)<(d.length:Int))=false:=Al (by omega);have H:d.drop i=[]:=A2 (by omega);rw [H];exact aae (by simp only [S28_7step,S28_7,W,Ae];rfl)
theorem bhz (s:Bo) (d:s.length<=16384):F28 0 s=some (bhy s):=by
 have h:=a8z d (s.length+1) 0 [] 1 (by omega) (by omega) (by simp) (by omega);have e:decide ((s.length:Int)>(16384:Int))=false:=Al (by omega);rw [A3] at h;unfold F28 bhy;rw [e,Ae,aaq,show (0:Int)=((0:Nat):Int) from rfl,show (1:Int)=((1:Nat):Int) from rfl,h];cases aza (s.length+1) 1 s [] with
 | inl xs=>rfl
 | inr p=>rfl
end
end Go.Ab
namespace Go.Ab
open Go
set_option maxRecDepth 100000
end Go.Ab
namespace Go.Ab
open Go
set_option maxRecDepth 100000
noncomputable section
def ajp:Nat->Nat->Bo->List (Tk×Nat)⊕(Nat×Int)
 | 0,_,_=>.inl []
 | f+1,line,s=>
  match s.drop (skipS false s) with
  | []=>.inl []
  | c::r=>match as1 (c::r) with
   | .inr e=>.inr (line+cnt10 (s.take (skipS false s)),e)
   | .inl (k,n)=>match ajp f (line+cnt10 (s.take (skipS false s))+cnt10 ((c::r).take n)) ((c::r).drop n) with
    | .inl l=>.inl ((k,line+cnt10 (s.take (skipS false s)))::l)
    | .inr p=>.inr p
def vTk (p:Tk×Nat):PV:=tokV p.1 p.2
theorem bmh:∀ (f d:Nat) (s:Bo) (m:List PV),aza f d s m=match ajp f d s with | .inl l=>.inl (m++l.map vTk) | .inr p=>.inr p:=by
 intro f;induction f with
 | zero=>intro d s m;simp [aza,ajp]
 | succ f o=>
  intro d s m;unfold aza ajp;cases H:s.drop (skipS false s) with
  | nil=>simp
  | cons c r=>
   simp only;cases M:as1 (c::r) with
   | inr e=>rfl
   | inl z=>
    obtain ⟨k,n⟩:=z;simp only;rw [o];cases ajp f (d+cnt10 (s.take (skipS false s))+cnt10 ((c::r).take n)) ((c::r).drop n) with
    | inl l=>simp [vTk]
    | inr p=>rfl
theorem a42:∀ (f d:Nat) (s:Bo),s.length<=1048576->(∀ l,ajp f d s=.inl l->l.length<=s.length/\∀ p,p∈l->WfTk p.1/\p.1.s.length<=s.length/\d<=p.2/\p.2<=d+s.length)/\(∀ n e,ajp f d s=.inr (n,e)->e≠0/\d<=n/\n<=d+s.length):=by
 intro f;induction f with
 | zero=>intro d s _;exact ⟨λl h=>(by cases h;exact ⟨Nat.zero_le _,λp z=>by cases z⟩),λn e h=>by cases h⟩
 | succ f ih=>
  intro d s hs;unfold ajp;have ae:=awg s false;have hc:=a3m (s.take (skipS false s));rw [List.length_take] at hc;cases W:s.drop (skipS false s) with
  | nil=>exact ⟨λl h=>(by cases h;exact ⟨Nat.zero_le _,λp z=>by cases z⟩),λn e h=>by cases h⟩
  | cons c r=>
   have H:(c::r).length=s.length-skipS false s:=by rw [<-W,A4]
   have o:=at8 s false c r W;simp only;cases Y:as1 (c::r) with
   | inr e=>
    have Z:=a4u c r (by omega) o.1 o.2;rw [Y] at Z;refine ⟨λl h=>(by cases h),λn e' h=>?_⟩;cases h;cases Z with
    | er _ v m he _=>exact ⟨he,by omega,by omega⟩
   | inl kn=>
    obtain ⟨k,n⟩:=kn;obtain ⟨ab,ad,V,aa⟩:=av8 (by omega) Y;have O:=a3m ((c::r).take n);rw [List.length_take] at O;have U:((c::r).drop n).length=s.length-skipS false s-n:=by rw [A4,H]
    obtain ⟨g1,g2⟩:=ih (d+cnt10 (s.take (skipS false s))+cnt10 ((c::r).take n)) ((c::r).drop n) (by omega);simp only;cases X:ajp f (d+cnt10 (s.take (skipS false s))+cnt10 ((c::r).take n)) ((c::r).drop n) with
    | inl l=>
     refine ⟨λl' h=>?_,λn e h=>by cases h⟩;cases h;obtain ⟨q1,q2⟩:=g1 l X;refine ⟨by simp only [Ak];omega,λp z=>?_⟩;rcases Bl.1 z with rfl | z
     ·exact ⟨V,by show k.s.length<=_;omega,by show d<=d+_;omega,by show d+_<=_;omega⟩
     ·obtain ⟨M,a2,a3,a4⟩:=q2 p z;exact ⟨M,by omega,by omega,by omega⟩
    | inr p=>obtain ⟨m,e⟩:=p;refine ⟨λl h=>(by cases h),λn' e' h=>?_⟩;cases h;obtain ⟨M,a2,a3⟩:=g2 m e X;exact ⟨M,by omega,by omega⟩
theorem bmi (s:Bo):bhy s=match ajp (s.length+1) 1 s with | .inl l=>(l.map vTk,0,0) | .inr (n,e)=>([],(n:Int),e):=by unfold bhy;rw [bmh];cases ajp (s.length+1) 1 s<;>rfl
theorem ts_v (l:List (Tk×Nat)):ts (l.map vTk) 0=l.map (·.1):=by unfold ts;rw [A3,List.map_map];rfl
theorem bpn {k:Tk} (h:WfTk k):-9223372036854775808<=k.n/\k.n<=9223372036854775807:=by
 rcases h with ⟨_,_,h⟩ | ⟨_,_,u,d,h⟩ | ⟨_,h⟩ | ⟨_,h,_⟩
 ·rw [h];decide
 ·rw [h,IntKind.wrap_i64];omega
 ·rw [h];decide
 ·rw [h];decide
theorem bj0 {l:List (Tk×Nat)}{n:Nat} (z:n<=16384) (o:l.length<=n) (h:∀ p,p∈l->WfTk p.1/\p.1.s.length<=n):TNum (l.map vTk):=
 { len:=by rw [List.length_map];omega
   txt:=λx m=>by obtain ⟨p,d,rfl⟩:=List.mem_map.1 m;have:=(h p d).2;show p.1.s.length<=_;omega
   num:=λx m=>by obtain ⟨p,d,rfl⟩:=List.mem_map.1 m;exact bpn (h p d).1
   sml:=λx m=>by obtain ⟨p,d,rfl⟩:=List.mem_map.1 m;have:=(h p d).2;show p.1.s.length<=_;omega }
theorem a7a (O:aev) (d:Bo) (l:List (Tk×Nat)) (H:TNum (l.map vTk)) (o:l.length<=100000):
 (∃ v r,ax1 parV aac d (l.map (·.1))=.ok v r/\(v.fld 0).asStr=d)\/∃ r e,ax1 parV aac d (l.map (·.1))=.er r e/\e≠0/\0<l.length:=by
 rw [<-ts_v,atn]
 rcases a3u O H (by rw [List.length_map];exact o) d with ⟨v,j,hj,_,m,hy⟩ | ⟨j,e,z,hj,he,m,hy⟩
 ·rw [m];exact Or.inl ⟨_,_,rfl,rfl⟩
 ·rw [m];refine Or.inr ⟨_,e,rfl,he,?_⟩;rcases Nat.eq_zero_or_pos l.length with h | h
  ·have:l=[]:=A1 h;subst this;obtain ⟨v,M⟩:=ayx;have m:ary []=_:=m;rw [M] at m;cases m
  ·exact h
theorem bhk (m d:Bo) (z:d.length<=16384):F15 0 m d=some (match ajp (d.length+1) 1 d with | .inl l=>avc m (l.map vTk) | .inr (n,e)=>(aqa,(n:Int),e)):=by
 have o:=bhz d z;obtain ⟨O,U⟩:=a42 (d.length+1) 1 d (by omega);rw [bmi] at o;cases h:ajp (d.length+1) 1 d with
 | inl l=>rw [h] at o;obtain ⟨W,M⟩:=O l h;exact ao0 bl8 m d _ 0 o (bj0 z W λp H=>⟨(M p H).1,(M p H).2.1⟩) (by rw [List.length_map];omega)
 | inr p=>obtain ⟨n,e⟩:=p;rw [h] at o;have V:=(U n e h).1;unfold F15;simp only [o,Aa,bneI V,Ad];rfl
end
end Go.Ab
namespace Go.Ab
open Go
set_option maxRecDepth 100000
noncomputable section
def wrT (k:Tk):Bo:=bif k.k==2 then decB (IntKind.wrap .u64 k.n).toNat else bif k.k==3 then abd k.s else k.s
theorem bm3 {u:Nat} (d:u<18446744073709551616):IntKind.wrap .u64 (IntKind.wrap .i64 (u:Int))=(u:Int):=by rw [IntKind.wrap_u64,IntKind.wrap_i64];omega
theorem bfo:∀ (n u:Nat),u<10^(n+1)->(Lib.decDigits u).length<=n+1:=by
 intro n;induction n with
 | zero=>intro u d;rw [<-bdd,preD,if_pos (by omega)];simp
 | succ n m=>
  intro u d;rw [<-bdd,preD];by_cases h:u<10
  ·rw [if_pos h];simp
  ·rw [if_neg h];have:=m (u / 10) (by rw [Nat.pow_succ] at d;omega);simp only [Am,Ak,Ap];omega
theorem a8n (M:Nat):∀ (l:Bo) (d u:Nat),Lib.parseUintM M d l=.ok u->u<(d+1)*10^l.length:=by
 intro l;induction l with
 | nil=>intro d u h;cases h;simp
 | cons c r o=>
  intro d u h;unfold Lib.parseUintM at h;split at h
  ·split at h
   ·cases h
   ·split at h
    ·cases h
    ·have:=o _ u h;have m:d*10+(c.toNat-48)+1<=(d+1)*10:=by omega
     calc u<(d*10+(c.toNat-48)+1)*10^r.length:=this
      _<=(d+1)*10*10^r.length:=Ay _ m
      _=(d+1)*10^(c::r).length:=by rw [Ak,Nat.pow_succ,Nat.mul_assoc,Nat.mul_comm 10]
  ·cases h
theorem bdh {c:UInt8}{r:Bo} (Y:(c::r).length<=1048576) {k:Tk}{n:Nat} (h:as1 (c::r)=.inl (k,n)):(wrT k).length<=n:=by
 rw [an5] at h;cases o:afj c r with
 | true=>rw [o] at h;simp only [Ad] at h;unfold atv at h;cases ht:ack ((c::r).take (ag7 (c::r)))<;>rw [ht] at h<;>simp only [Ad,Ae] at h<;>cases h;show ((c::r).take (ag7 (c::r))).length<=_;rw [List.length_take];omega
 | false=>
  cases z:digC c with
  | true=>
   rw [o,z] at h;simp only [Ad,Ae] at h;have O:=an7 digC (c::r);have W:1<=runN digC (c::r):=by rw [aeo,if_pos z];omega
   unfold a7k at h;cases X:(decide (1<runN digC (c::r))&&(c::r).getD 0 0==48)||(decide (runN digC (c::r)<(c::r).length)&&alnB ((c::r).getD (runN digC (c::r)) 0))<;>rw [X] at h<;>simp only [Ad,Ae] at h
   ·cases d:Lib.parseUintB 64 ((c::r).take (runN digC (c::r))) with
    | ok u=>
     rw [d] at h;simp only [ac4,Ad] at h;cases h;have hu:=ayt d;have H:u<10^(runN digC (c::r)):=by
      unfold Lib.parseUintB at d;split at d
      ·cases d
      ·have:=a8n _ _ 0 u d;rw [List.length_take,Nat.min_eq_left O] at this;omega
     show (decB (IntKind.wrap .u64 (IntKind.wrap .i64 (u:Int))).toNat).length<=_;rw [bm3 hu,Ah,af0 (by omega)];obtain ⟨m,Z⟩:∃ m,runN digC (c::r)=m+1:=⟨runN digC (c::r)-1,by omega⟩;rw [Z] at H ⊢;exact bfo m u H
    | range=>rw [d] at h;cases h
    | «syntax»=>rw [d] at h;cases h
   ·cases h
  | false=>
   cases M:(c==34) with
   | true=>
    rw [o,z,M] at h;simp only [Ad,Ae] at h;unfold bdf unqV at h;rcases awr (c::r) Y with ⟨a,q,ha,U⟩ | ⟨_,U⟩
    ·rw [U] at h;simp only [Option.getD_some,show ((0:Int)==0)=true from rfl,Ad,Ah] at h;cases h;exact Nat.le_refl _
    ·rw [U] at h;cases h
   | false=>
    cases V:aia c with
    | true=>rw [o,z,M,V] at h;simp only [Ad,Ae] at h;cases h;exact Nat.le_refl _
    | false=>rw [o,z,M,V] at h;cases h
def sumW (l:List (Tk×Nat)):Nat:=(l.map λp=>(wrT p.1).length).sum
theorem bdt:∀ (f d:Nat) (s:Bo),s.length<=1048576->∀ l,ajp f d s=.inl l->sumW l<=s.length:=by
 intro f;induction f with
 | zero=>intro d s _ l h;cases h;exact Nat.zero_le _
 | succ f W=>
  intro d s Y l h;unfold ajp at h;have V:=awg s false;cases z:s.drop (skipS false s) with
  | nil=>rw [z] at h;cases h;exact Nat.zero_le _
  | cons c r=>
   have M:(c::r).length=s.length-skipS false s:=by rw [<-z,A4]
   rw [z] at h;simp only at h;cases o:as1 (c::r) with
   | inr e=>rw [o] at h;cases h
   | inl X=>
    obtain ⟨k,n⟩:=X;obtain ⟨O,U,_,_⟩:=av8 (by omega) o;have Z:=bdh (by omega) o;rw [o] at h;simp only at h;cases H:ajp f (d+cnt10 (s.take (skipS false s))+cnt10 ((c::r).take n)) ((c::r).drop n) with
    | inl m=>rw [H] at h;cases h;have:=W _ _ (by rw [A4];omega) m H;rw [A4] at this;simp only [sumW,Be,List.sum_cons] at this ⊢;omega
    | inr p=>rw [H] at h;cases h
end
end Go.Ab
namespace Go.Ab
open Go
set_option maxRecDepth 100000
noncomputable section
def wT (l:List Tk):Nat:=(l.map λk=>330+k.s.length).sum
theorem awt (x:Tk) (r:List Tk):wT (x::r)=330+x.s.length+wT r:=by simp [wT]
theorem alr {k:Int}{s:Bo}{l:List Tk} (h:isS k s l=true):wT l.tail+330<=wT l:=by
 cases l with
 | nil=>cases h
 | cons x r=>rw [awt,List.tail_cons];omega
theorem am7 (l:List Tk):wT l.tail<=wT l:=by
 cases l with
 | nil=>exact Nat.le_refl _
 | cons x r=>rw [awt,List.tail_cons];omega
theorem atq {k:Int} (d:k≠0) {l:List Tk} (h:(aav l==k)=true):wT l.tail+330+(acj l).length=wT l:=by
 cases l with
 | nil=>simp only [aav,Bh] at h;exact absurd h.symm d
 | cons x r=>rw [awt,List.tail_cons];show wT r+330+x.s.length=_;omega
def Qs (l r:List Tk):Prop:=SmT l->SmT r
theorem Qs.tl (l:List Tk):Qs l l.tail:=λh=>h.tail
theorem Qs.tr {a b c:List Tk} (h:Qs a b) (g:Qs b c):Qs a c:=λx=>g (h x)
theorem ags {k:Int}{s:Bo}{l r:List Tk}{v:Unit} (h:eatS k s l=.ok v r):Qs l r:=by rw [ac7 h];exact .tl l
theorem ajv {k:Int}{p:Bo->Bool}{l r:List Tk}{v:Bo} (h:ahl k p l=.ok v r):Qs l r:=by rw [ajw h];exact .tl l
theorem bhf {most:Int}{l r:List Tk}{v:Int} (h:numS most l=.ok v r):Qs l r:=by rw [ap5 h];exact .tl l
theorem typ_q {l r:List Tk}{v:PV} (h:typS l=.ok v r):Qs l r:=by rw [aid h];exact .tl l
theorem a1k {o:Bo}{l r:List Tk}{v:Bo} (h:ak1 o l=.ok v r):Qs l r:=by obtain ⟨a,q,d,m⟩:=Rs.bind_inv h;cases m;exact ajv d
theorem afa {k:Int}{s:Bo}{l r:List Tk}{v:Unit} (h:eatS k s l=.ok v r):wT r+330<=wT l:=by
 have:=ac7 h;subst this;unfold eatS at h;cases d:isS k s l<;>simp only [d,Ad,Ae] at h
 ·cases h
 ·exact alr d
theorem aug {k:Int} (o:k≠0) {p:Bo->Bool}{l r:List Tk}{v:Bo} (h:ahl k p l=.ok v r):p v=true/\wT r+330+v.length=wT l:=by
 unfold ahl at h;cases d:(aav l==k)<;>simp only [d,Ad,Ae] at h
 ·cases h
 ·cases m:p (acj l)<;>simp only [m,Ad,Ae] at h<;>cases h;exact ⟨m,atq o d⟩
theorem bhg {most:Int}{l r:List Tk}{v:Int} (h:numS most l=.ok v r):wT r+330<=wT l:=by
 unfold numS at h;cases d:(aav l==2)<;>simp only [d,Ad,Ae] at h
 ·cases h
 ·cases m:decide (0<=ali l/\ali l<=most)<;>simp only [m,Ad,Ae] at h<;>cases h;have:=atq (by decide) d;omega
theorem a3v {s:Bo} (h:afb s=true):s.length<=120:=by unfold afb at h;simp only [Ag,Aw] at h;exact h.1
theorem bap {s:Bo} (h:defP s=true):s.length<=120:=by unfold defP at h;simp only [Ag] at h;exact a3v h.1
theorem bmk {s:Bo} (h:afc s=true):s.length<=40:=by
 unfold afc aes at h;cases s with
 | nil=>exact Nat.zero_le _
 | cons c r=>simp only [Ag,Aw] at h;have:=h.1.1.1;simp only [Ak];omega
theorem ayw {l r:List Tk}{v:Bo} (h:aph l=.ok v r):v.length<=40/\wT r+330+v.length=wT l:=by obtain ⟨d,m⟩:=aug (by decide) h;exact ⟨bmk d,m⟩
theorem a1l {o:Bo}{l r:List Tk}{v:Bo} (h:ak1 o l=.ok v r):v.length<=120/\wT r+330<=wT l:=by
 obtain ⟨a,q,z,H⟩:=Rs.bind_inv h;cases H;obtain ⟨d,M⟩:=aug (by decide) z;refine ⟨?_,by omega⟩;unfold amn at d;unfold aq7;simp only [Ag,A5] at d;cases m:(o==([]:Bo)) with
 | true=>exact bap d.1
 | false=>
  rcases d.2 with h | ⟨_,h⟩
  ·rw [m] at h;cases h
  ·have:=a3v h;unfold aq7 at this;rw [m] at this;exact this
theorem be9 {l r:List Tk}{v:Bo} (h:abn l=.ok v r):wT r+330+v.length=wT l:=(aug (by decide) h).2
def GV (v:PV):Prop:=∃ (a n:Int) (t:Bo),v=ad0 a n t/\0<=n/\n<18446744073709551616
theorem ahw (a n:Int) (t:Bo):aaj (ad0 a n t)=t.length+8:=by simp only [ad0,aaj,aah];omega
theorem bi5 {L:Nat}{k:Int}{s:Bo}{d q r:List Tk}{v:PV} (H:a3e L k s) (h:valS (parV k s) d q=.ok v r):r=q/\GV v/\aaj v<=L+9:=by obtain ⟨_,a,n,t,e,z,o,M⟩:=av5 L k s H;rw [z] at h;unfold valS at h;cases m:(((ad0 a n t,e):PV×Int).2==0)<;>simp only [m,Ad,Ae] at h<;>cases h;exact ⟨rfl,⟨a,n,t,rfl,o⟩,by rw [ahw];omega⟩
theorem bn2 {k:Int} (H:2<=k/\k<=5) (d:Bool) {l r:List Tk}{v:PV} (h:intS parV k d l=.ok v r):GV v/\aaj v+300+wT r<=wT l/\Qs l r:=by
 unfold intS at h;cases m:(aav l==2)<;>simp only [m,Ad,Ae] at h
 ·cases h
 ·have O:=atq (by decide) m;obtain ⟨o,z,M⟩:=bi5 (L:=0) (Or.inr (Or.inr ⟨H,d,_,by rw [IntKind.wrap_u64];omega,rfl⟩)) h;subst o;exact ⟨z,by omega,.tl l⟩
theorem bmj {k:Int} (m:2<=k/\k<=5) {l r:List Tk}{v:PV} (h:(bif isS 4 [45] l then intS parV k true l.tail else intS parV k false l)=.ok v r):GV v/\aaj v+300+wT r<=wT l/\Qs l r:=by
 cases d:isS 4 [45] l<;>simp only [d,Ad,Ae] at h
 ·exact bn2 m _ h
 ·have:=alr d;obtain ⟨o,H,z⟩:=bn2 m _ h;exact ⟨o,by omega,(Qs.tl l).tr z⟩
theorem lit_w {k:Int} (hk:0<=k/\k<=8) {l r:List Tk} (hs:SmT l) {v:PV} (h:litS parV k l=.ok v r):GV v/\aaj v+300+wT r<=wT l/\Qs l r:=by
 unfold litS at h;cases z:(k==0) with
 | true=>rw [z] at h;obtain ⟨s,q,d,m⟩:=Rs.bind_inv h;cases m;obtain ⟨U,h4⟩:=ayw d;exact ⟨⟨9,0,s,rfl,by decide,by decide⟩,by rw [show avk s=ad0 9 0 s from rfl,ahw];omega,ajv d⟩
 | false=>
  cases d:(k==1) with
  | true=>
   rw [z,d] at h;have Y:k=1:=by simpa using d
   subst Y;simp only [Ad,Ae] at h;cases W:(isS 1 [116,114,117,101] l||isS 1 [102,97,108,115,101] l)<;>simp only [W,Ad,Ae] at h
   ·cases h
   ·obtain ⟨H,M,e3⟩:=bi5 (L:=(acj l).length) (Or.inl ⟨Or.inl rfl,hs.text,Nat.le_refl _⟩) h;subst H;refine ⟨M,?_⟩;have hq:(aav l==1)=true:=by
     cases l with
     | nil=>cases W
     | cons x q=>simp only [isS,A5,Ag] at W;rcases W with ⟨h,_⟩ | ⟨h,_⟩<;>exact h
    have:=atq (by decide) hq;exact ⟨by omega,.tl l⟩
  | false=>
   cases O:((k==6)||(k==8)) with
   | true=>
    rw [z,d,O] at h;simp only [Ae,Ad] at h;obtain ⟨s,q,m,U⟩:=Rs.bind_inv h;have h4:=be9 m;have X:=apn hs m;have o:k=6\/k=8:=by simpa using O
    obtain ⟨H,M,e3⟩:=bi5 (L:=s.length) (Or.inl ⟨Or.inr o,X,Nat.le_refl _⟩) U;subst H;exact ⟨M,by omega,ajv m⟩
   | false=>
    have o:¬(k=6\/k=8):=by intro hx;rcases hx with rfl | rfl<;>simp at O
    cases V:(k==7) with
    | true=>
     have Z:k=7:=by simpa using V
     subst Z;rw [z,d,O,V] at h;simp only [Ae,Ad] at h;obtain ⟨s,q,m,U⟩:=Rs.bind_inv h;have h4:=be9 m;have X:=apn hs m;obtain ⟨H,M,e3⟩:=bi5 (L:=s.length) (Or.inr (Or.inl ⟨rfl,s,X,Nat.le_refl _,rfl⟩)) U;subst H;exact ⟨M,by omega,ajv m⟩
    | false=>
     rw [z,d,O,V] at h;simp only [Ae] at h;have n0:k≠0:=λe=>by subst e;cases z
     have n1:k≠1:=λe=>by subst e;cases d
     have n7:k≠7:=λe=>by subst e;cases V
     exact bmj (by omega) h
theorem abk:∀ (a b:List PV),aah (a++b)=aah a+aah b:=by
 intro a;induction a with
 | nil=>intro b;simp [aah]
 | cons x a d=>intro b;rw [As,aah,d,aah];omega
theorem ab1 (x:PV):aah [x]=aaj x:=by simp [aah]
def GN (n:PV):Prop:=∃ s v,n=PV.agg [PV.str s,v]/\GV v
theorem bcv {k:Int} (z:k=1\/k=7\/k=3\/k=4) {l r:List Tk}{v:PV} (h:ad3 parV k l=.ok v r):GV v/\aaj v+300+wT r<=wT l/\Qs l r:=by
 unfold ad3 at h;rcases z with rfl | rfl | rfl | rfl
 ·simp only [show ((1:Int)==1)=true from rfl,Ad] at h;cases d:isS 1 [116,114,117,101] l<;>simp only [d,Ad,Ae] at h
  ·cases m:isS 1 [102,97,108,115,101] l<;>simp only [m,Ad,Ae] at h<;>cases h;have:=alr m;exact ⟨⟨_,_,_,rfl,by decide,by decide⟩,by rw [ahw,Ap];omega,.tl l⟩
  ·cases h;have:=alr d;exact ⟨⟨_,_,_,rfl,by decide,by decide⟩,by rw [ahw,Ap];omega,.tl l⟩
 ·simp only [show ((7:Int)==1)=false from rfl,show ((7:Int)==7)=true from rfl,Ad,Ae] at h;cases d:(aav l==3)<;>simp only [d,Ad,Ae] at h
  ·cases h
  ·cases m:decide ((acj l).length>4096)<;>simp only [m,Ad,Ae] at h
   ·cases o:valid (acj l)<;>simp only [o,Ad,Ae] at h<;>cases h;have:=atq (by decide) d;exact ⟨⟨_,_,_,rfl,by decide,by decide⟩,by rw [ahw];omega,.tl l⟩
   ·cases h
 ·exact bmj (by decide) h
 ·exact bmj (by decide) h
theorem bop {l r:List Tk}{v:PV} (h:anw parV aac l=.ok v r):GN v/\aaj v+300+wT r<=wT l/\Qs l r:=by
 unfold anw at h;cases o:(aav l==1)<;>simp only [o,Ad,Ae] at h
 ·cases h
 ·cases d:(aac (acj l)==0)<;>simp only [d,Ad,Ae] at h
  ·obtain ⟨_,q,z,O⟩:=Rs.bind_inv h;obtain ⟨w,Z,U,V⟩:=Rs.bind_inv O;cases V;have m:aac (acj l)≠0:=λe=>by rw [e] at d;cases d
   obtain ⟨H,W,M⟩:=bcv (ajd m) U;have X:=afa z;have Y:=atq (by decide) o;exact ⟨⟨_,_,rfl,H⟩,by simp only [aaj,aah];omega,((Qs.tl l).tr (ags z)).tr M⟩
  ·cases h
theorem afz {P:PV->Prop}{l:List PV}{x:PV} (h:∀ y,y∈l->P y) (d:P x):∀ y,y∈l++[x]->P y:=ae9 h d
theorem a2b:∀ (m:Nat) (l:List Tk) (d:List PV),l.length<=m->(∀ x,x∈d->GN x)->∀ v r,ab4 parV aac l d=.ok v r->(∀ x,x∈v->GN x)/\aah v+wT r<=aah d+wT l/\Qs l r:=by
 intro m;induction m with
 | zero=>intro l d Y z v r h;have:l=[]:=A1 (by omega);subst this;rw [abw] at h;cases h
 | succ m ih=>
  intro l d Y z v r h;rw [abw] at h;obtain ⟨n,q,M,o⟩:=Rs.bind_inv h;have hl:=anz parV aac l n q M;obtain ⟨H,g2,O⟩:=bop M;have ht:=am7 q;have Z:=aci q;cases W:isS 4 [93] q<;>simp only [W,Ad,Ae] at o
  ·cases X:isS 4 [44] q<;>simp only [X,Ad,Ae] at o
   ·cases o
   ·obtain ⟨U,V,q2⟩:=ih q.tail (d++[n]) (by omega) (afz z H) v r o;rw [abk,ab1] at V;exact ⟨U,by omega,(O.tr (.tl q)).tr q2⟩
  ·cases o;exact ⟨afz z H,by rw [abk,ab1];omega,O.tr (.tl q)⟩
theorem an1 {l r:List Tk}{v:List PV} (h:ac9 parV aac l=.ok v r):(∀ x,x∈v->GN x)/\aah v+wT r<=wT l/\Qs l r:=by
 unfold ac9 at h;cases m:isS 4 [91] l<;>simp only [m,Ad,Ae] at h
 ·cases h;exact ⟨λx d=>(by cases d),by simp [aah],λx=>x⟩
 ·have:=alr m;obtain ⟨o,z,H⟩:=a2b _ l.tail [] (Nat.le_refl _) (λx d=>by cases d) v r h;exact ⟨o,by simp only [aah] at z;omega,(Qs.tl l).tr H⟩
def GF (x:PV):Prop:=GV (x.fld 7)/\∀ n,n∈(x.fld 8).asList->GN n
theorem bmt {l r:List Tk}{v:PV} (h:typS l=.ok v r):aaj v+320+wT r<=wT l/\0<=(v.fld 0).asInt/\(v.fld 0).asInt<=8:=by
 refine ⟨?_,ber h⟩;obtain ⟨s,q,d,m⟩:=Rs.bind_inv h;cases m;have:=(aug (by decide) d).2;unfold tyOf;cases (aeg s==0) with
 | true=>simp only [Ad,aaj,aah];omega
 | false=>simp only [Ae,aaj,aah,Ap];omega
theorem bns {o:Bool}{k:Int} (U:o=true->0<=k/\k<=8) {l r:List Tk} (V:SmT l) {d:Bool×PV} (h:apc parV o k l=.ok d r):GV d.2/\aaj d.2+wT r<=wT l+9/\Qs l r:=by
 unfold apc at h;cases m:(o&&isS 1 [100,101,102,97,117,108,116] l)<;>simp only [m,Ad,Ae] at h
 ·cases h;exact ⟨⟨0,0,[],rfl,by decide,by decide⟩,by show aaj (ad0 0 0 [])+_<=_;rw [ahw,Ap];omega,λx=>x⟩
 ·simp only [Ag] at m;obtain ⟨v,q,M,O⟩:=Rs.bind_inv h;cases O;have:=alr m.2;obtain ⟨z,W,H⟩:=lit_w (U m.1) V.tail M;exact ⟨z,by show aaj v+_<=_;omega,(Qs.tl l).tr H⟩
theorem bee {card key:Int}{m:PV}{un:Bo}{U:Bool}{l r:List Tk}{v:PV} (hu:un.length<=40) (Z:U=true->0<=(m.fld 0).asInt/\(m.fld 0).asInt<=8) (hs:SmT l) (h:aju parV aac card key m un U l=.ok v r):GF v/\aaj v+1000+wT r<=wT l+aaj m/\Qs l r:=by
 obtain ⟨nm,r1,o,h⟩:=Rs.bind_inv h;obtain ⟨_,r2,z,h⟩:=Rs.bind_inv h;obtain ⟨n,r3,H,h⟩:=Rs.bind_inv h;obtain ⟨d,r4,V,h⟩:=Rs.bind_inv h;obtain ⟨aa,r5,W,h⟩:=Rs.bind_inv h;obtain ⟨_,r6,M,h⟩:=Rs.bind_inv h;cases h;have O:SmT r3:=by rw [ap5 H,ac7 z,ajw o];exact hs.tail.tail.tail
 have w1:=(ayw o).2;have w2:=afa z;have w3:=bhg H;obtain ⟨X,w4,q4⟩:=bns Z O V;obtain ⟨Y,w5,q5⟩:=an1 W;have w6:=afa M;exact ⟨⟨X,Y⟩,by simp only [ai4,aaj,aah];omega,λ_=>ags M (q5 (q4 O))⟩
theorem bkw {l r:List Tk}{v:PV} (V:SmT l) (h:aeu parV aac l=.ok v r):GF v/\aaj v+wT r<=wT l/\SmT r:=by
 unfold aeu at h;cases U:isS 1 [109,97,112] l<;>simp only [U,Ad,Ae] at h
 ·cases o:(aav l==1&&!(akp (acj l)==0))<;>simp only [o,Ad,Ae] at h
  ·cases h
  ·obtain ⟨Z,q,d,h⟩:=Rs.bind_inv h;obtain ⟨w1,X⟩:=bmt d;have W:=am7 l;have m:SmT q:=by rw [aid d];exact V.tail.tail
   obtain ⟨g,w,z⟩:=bee (by simp) (λ_=>X) m h;exact ⟨g,by omega,z m⟩
 ·obtain ⟨_,q,d,h⟩:=Rs.bind_inv h;have w1:=afa d;have W:=alr U;cases o:(aav q==1&&!(aeg (acj q)==0))<;>simp only [o,Ad,Ae] at h
  ·cases h
  ·obtain ⟨_,q2,H,h⟩:=Rs.bind_inv h;obtain ⟨Z,q3,M,h⟩:=Rs.bind_inv h;obtain ⟨_,Y,O,h⟩:=Rs.bind_inv h;have w2:=afa H;have aa:=am7 q;obtain ⟨w3,_⟩:=bmt M;have w4:=afa O;have m:SmT Y:=by
    rw [ac7 O,aid M,ac7 H,ac7 d];exact V.tail.tail.tail.tail.tail.tail
   obtain ⟨g,w,z⟩:=bee (by simp) (λh=>by cases h) m h;exact ⟨g,by omega,z m⟩
end
end Go.Ab
