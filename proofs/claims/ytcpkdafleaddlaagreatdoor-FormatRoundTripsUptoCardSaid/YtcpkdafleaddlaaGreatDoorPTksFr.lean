/- The scanner on texts that are written token by token: which tokens it gives. -/
import Derived.Test.YtcpkdafleaddlaaGreatDoorPRowsFr
set_option linter.unusedVariables false
set_option linter.unusedSimpArgs false
set_option linter.unnecessarySimpa false
namespace Go.Ab
open Go
set_option maxRecDepth 100000
inductive TokT:Bo->Bo->Tk->Prop
 | name {t s:Bo}:ac5 t=true->endN s->TokT t s ⟨1,t,0⟩
 | int {u:Nat}{s:Bo}:u<18446744073709551616->endI s->TokT (decB u) s ⟨2,[],IntKind.wrap .i64 (u:Int)⟩
 | text {t s:Bo}:t.length<=1048576->TokT (abi t) s ⟨3,t,0⟩
 | sign {c:UInt8}{s:Bo}:avo c=true->TokT [c] s ⟨4,[c],0⟩
theorem TokT.tok {t s:Bo}{k:Tk} (h:TokT t s k):Tok t s:=by
 cases h with
 | name d m=>exact .name d m
 | int d m=>exact .int d m
 | text d=>exact .text d
 | sign d=>exact .sign d
theorem a7n {u:Nat} (H:u<18446744073709551616) {s:Bo} (z:endI s) (X:(decB u++s).length<=1048576):F130 0 (decB u++s)=some (PV.agg [PV.int 2,PV.str [],PV.int (IntKind.wrap .i64 (u:Int)),PV.int 0],(((decB u).length:Nat):Int),0):=by
 obtain ⟨c,r,e,hc,V⟩:=amt H;have o:=bcu (decB u++s) X;rw [bgj (a2e (u:=u) (by omega)) (bet z)] at o;have M:decide ((0:Int)<=(0:Int)/\(0:Int)<=(((decB u).length:Nat):Int)/\(((decB u).length:Nat):Int)<=((decB u++s).length:Int))=true:=Aj (by grind);have O:((decB u++s).take (((decB u).length:Nat):Int).toNat).drop (0:Int).toNat=decB u:=by grind
 have Y:acd 0 (decB u) 10 64=some ((u:Int),true):=by
  have W:Nat.ble (decB u).length 281474976710656=true:=by grind [agb,Nat.ble_eq]
  unfold acd;rw [W,agn (by omega),aeg H];rfl
 have Z:aaa (0:Int) (decB u++s).length=true:=by rw [e,As,in0]
 have U:(bif decide ((((decB u).length:Nat):Int)>(1:Int)) then ((((decB u++s).getD (0:Int).toNat 0).toNat:Int)==(48:Int)) else false)=false:=by
  cases r with
  | nil=>rw [e];rfl
  | cons d r=>
   have:((((decB u++s).getD (0:Int).toNat 0).toNat:Int)==(48:Int))=false:=by rw [e];show ((c.toNat:Int)==(48:Int))=false;rw [bqI (c:=c) (k:=48) (n:=48) rfl,Aw];grind
   rw [this];simp
 have m:∀ b:Bool,(bif b then true else true)=true:=λb=>by cases b<;>rfl
 unfold F130;simp only [o,Aa,Z,U,imp,Ao,aas,Ad,Bool.or_true,m];cases s with
 | nil=>grind
 | cons a s=>
  have x7:decide ((((decB u).length:Nat):Int)<((decB u++a::s).length:Int))=true:=Aj (by simp;omega);have x8:aaa (((decB u).length:Nat):Int) (decB u++a::s).length=true:=by rw [aab];simp
  have x9:(decB u++a::s).getD (((decB u).length:Nat):Int).toNat 0=a:=by grind
  simp only [x7,x8,x9,Ad,Ae,aas,Bool.true_or,bal,z a s rfl,Aa,M,O,Y,Ap,m]
theorem bdk {t s:Bo}{k:Tk} (h:TokT t s k) (o:(t++s).length<=1048576):F61 0 (t++s)=some (PV.agg [PV.int k.k,PV.str k.s,PV.int k.n,PV.int 0],((t.length:Nat):Int),0):=by
 cases h with
 | name d m=>unfold F61;rw [ath d s,Aa,show ((3:Int)==3)=true from rfl,Ad,a0z d m o];rfl
 | int d m=>unfold F61;rw [ayl d s,Aa,show ((4:Int)==3)=false from rfl,Ae,show ((4:Int)==4)=true from rfl,Ad,a7n d m o];rfl
 | text d=>unfold F61;rw [atj,Aa,show ((5:Int)==3)=false from rfl,Ae,show ((5:Int)==4)=false from rfl,Ae,show ((5:Int)==5)=true from rfl,Ad,ant d s o];rfl
 | @sign c s d=>grind [decide,decide_eq_true,F61,ati]
inductive TksT:Bo->List Tk->Prop
 | nil:TksT [] []
 | sp {c:UInt8}{s:Bo}{l:List Tk}:c=32\/c=10->TksT s l->TksT (c::s) l
 | tok {t s:Bo}{k:Tk}{l:List Tk}:TokT t s k->TksT s l->TksT (t++s) (k::l)
def blh (s:Bo) (l:List Tk):Prop:=(s=[]/\l=[])\/∃ t r k q,s=t++r/\l=k::q/\TokT t r k/\TksT r q
theorem a7y {d:Bo} (hl:d.length<=1048576) {s:Bo}{l:List Tk} (h:TksT s l):∀ i:Nat,d.drop i=s->i<=d.length->∃ k z,aa7 (S59_3step 0) (d,(i:Int))=some z/\(z=.inl ((k:Nat):Int)\/z=.inr ((k:Nat):Int))/\i<=k/\k<=d.length/\blh (d.drop k) l:=by
 induction h with
 | nil=>
  intro i m o;have U:d.length<=i:=by simp_all
  have H:decide ((i:Int)<(d.length:Int))=false:=Am (by omega);refine ⟨i,.inr (i:Int),aaf ?_,Or.inr rfl,Nat.le_refl _,o,Or.inl ⟨m,rfl⟩⟩;simp only [S59_3step,S59_3,H,Ae]
 | @sp c s l W V X=>
  intro i m o;obtain ⟨M,_,hn⟩:=afu 0 m;have H:decide ((i:Int)<(d.length:Int))=true:=Aj (by omega);have st:S59_3step 0 (d,(i:Int))=some (.inl (d,((i+1:Nat):Int))):=by simp only [S59_3step,S59_3,H,a06 d o,Ad,ano,m,a09 s W,Aa,abx (show i<=9223372036854775000 by omega)];rfl
  grind [abd]
 | @tok t s Y l O V X=>
  intro i m o;have M:i<d.length:=by have:=congrArg List.length m;have:=List.length_pos_iff.2 (ayv O.tok);grind
  have H:decide ((i:Int)<(d.length:Int))=true:=Aj (by omega);obtain ⟨k,Z,q2,q3⟩:=bdl O.tok;refine ⟨i,.inl (i:Int),aaf ?_,Or.inl rfl,Nat.le_refl _,o,Or.inr ⟨t,s,Y,l,m,rfl,O,V⟩⟩;simp only [S59_3step,S59_3,H,a06 d o,Ad,ano,m,Z,q2,q3,Aa,Ae]
theorem bg2 {s:Bo}{l:List Tk} (M:s.length<=1048576) (h:TksT s l):∃ k:Nat,F59 0 s=some (k:Int)/\k<=s.length/\blh (s.drop k) l:=by obtain ⟨k,z,d,m,_,o,H⟩:=a7y M h 0 rfl (by omega);refine ⟨k,?_,o,H⟩;unfold F59;rw [aaq,show (0:Int)=((0:Nat):Int) from rfl,d];rcases m with rfl | rfl<;>rfl
def TkOk (x:PV):Prop:=(-9223372036854775808<=(x.fld 2).asInt/\(x.fld 2).asInt<=9223372036854775807)/\(x.fld 1).asStr.length<=1048576
theorem bkx {t s:Bo}{k:Tk} (h:TokT t s k) (o:t.length<=1048576):(-9223372036854775808<=k.n/\k.n<=9223372036854775807)/\k.s.length<=1048576:=by
 cases h with
 | name d m=>grind
 | int d m=>exact ⟨by grind [IntKind.wrap,IntKind.wrap_i64],Nat.zero_le _⟩
 | text d=>grind
 | sign d=>grind
theorem a7u {d:Bo} (hl:d.length<=16384):∀ (m i:Nat) (o:List PV) (z:Int) (l:List Tk),d.length-i<=m->i<=d.length->o.length<=i->TksT (d.drop i) l->∃ xs,aa7 (S28_7step 0) (d,o,z,(i:Int))=some (.inl (o++xs))/\xs.map tkOf=l/\∀ x,x∈xs->TkOk x:=by
 intro m;induction m with
 | zero=>
  intro i o z l hm hi ha M;have W:decide ((i:Int)<(d.length:Int))=false:=Am (by omega);rw [A3 (by omega)] at M;have U:l=[]:=by
   generalize hs:([]:Bo)=s at M;cases M with
   | nil=>rfl
   | sp=>cases hs
   | tok X h2=>have:=ayv X.tok;simp_all
  subst U;exact ⟨[],by rw [List.append_nil];exact aaf (by simp only [S28_7step,S28_7,W,Ae]),rfl,λx Y=>by cases Y⟩
 | succ m ih=>
  intro i o z l hm hi ha M;by_cases ai:i<d.length
  ·have W:decide ((i:Int)<(d.length:Int))=true:=Aj (by omega);obtain ⟨k,X,h2,O⟩:=bg2 (by grind) M;rw [Bh] at h2;rw [Bd] at O;have w1:IntKind.wrap .i64 ((i:Int)+(k:Int))=((i+k:Nat):Int):=by grind [adx]
   have e2:decide (0<=(i:Int)/\(i:Int)<=((i+k:Nat):Int)/\((i+k:Nat):Int)<=(d.length:Int))=true:=Aj (by omega);have Z:∀ l:Bo,∃ n:Int,av6 0 l ([10]:Bo)=some n:=λl=>⟨_,rfl⟩;obtain ⟨n,hn⟩:=Z ((d.take (((i+k:Nat):Int)).toNat).drop ((i:Int)).toNat);rcases O with ⟨O,h4⟩ | ⟨t,r,H,q,O,h4,V,hr⟩
   ·subst h4;have aa:i+k=d.length:=by
     have:=congrArg List.length O;grind
    have e3:(((i+k:Nat):Int)==(d.length:Int))=true:=by rw [aa];simp
    refine ⟨[],?_,rfl,λx Y=>by cases Y⟩;rw [List.append_nil];refine aaf ?_;simp only [S28_7step,S28_7,W,a06 d hi,Ad,ano,X,w1,e2,hn,e3,Aa]
   ·subst h4;have ab:=congrArg List.length O;rw [Bh,Al] at ab;have ag:=List.length_pos_iff.2 (ayv V.tok);have e3:(((i+k:Nat):Int)==(d.length:Int))=false:=by grind
    have hk:=bdk V (by grind);rw [<-O] at hk;have w2:IntKind.wrap .i64 (((i+k:Nat):Int)+((t.length:Nat):Int))=((i+k+t.length:Nat):Int):=by grind [adx]
    have e4:decide (0<=((i+k:Nat):Int)/\((i+k:Nat):Int)<=((i+k+t.length:Nat):Int)/\((i+k+t.length:Nat):Int)<=(d.length:Int))=true:=Aj (by omega);have ea:∀ x:PV,decide (o.length+[x].length<=aai)=true:=λx=>Aj (by grind [List.length_cons,List.length_nil,aai]);obtain ⟨n2,af⟩:=Z ((d.take (((i+k+t.length:Nat):Int)).toNat).drop (((i+k:Nat):Int)).toNat);have z0:((0:Int) != (0:Int))=false:=rfl;have hd:d.drop (i+k+t.length)=r:=by grind [List.drop_drop,List.drop_left]
    have st:∃ ln line2,S28_7step 0 (d,o,z,(i:Int))=some (.inl (d,o++[PV.agg [PV.int H.k,PV.str H.s,PV.int H.n,PV.int ln]],line2,((i+k+t.length:Nat):Int))):=by simp only [S28_7step,S28_7,W,a06 d hi,a06 d (show i+k<=d.length by omega),Ad,Ae,ano,X,w1,w2,e2,e4,ea,hn,af,hk,z0,e3,Aa];exact ⟨_,_,rfl⟩
    obtain ⟨ln,line2,st⟩:=st;obtain ⟨xs,ah,ae,Y⟩:=ih (i+k+t.length) (o++[PV.agg [PV.int H.k,PV.str H.s,PV.int H.n,PV.int ln]]) line2 q (by omega) (by omega) (by simp;omega) (by grind);refine ⟨PV.agg [PV.int H.k,PV.str H.s,PV.int H.n,PV.int ln]::xs,?_,?_,?_⟩
    ·grind [abd,List.append_assoc]
    ·rw [Bf,ae];rfl
    ·intro x ad;rcases Bl.1 ad with rfl | ad
     ·exact bkx V (by omega)
     grind
  ·have W:decide ((i:Int)<(d.length:Int))=false:=Am (by omega);rw [A3 (by omega)] at M;have U:l=[]:=by
    generalize hs:([]:Bo)=s at M;cases M with
    | nil=>rfl
    | sp=>cases hs
    | tok X h2=>have:=ayv X.tok;simp_all
   subst U;exact ⟨[],by rw [List.append_nil];exact aaf (by simp only [S28_7step,S28_7,W,Ae]),rfl,λx Y=>by cases Y⟩
theorem bgl {s:Bo}{l:List Tk} (z:s.length<=16384) (h:TksT s l):∃ xs,F28 0 s=some (xs,0,0)/\xs.map tkOf=l/\∀ x,x∈xs->TkOk x:=by obtain ⟨xs,d,m,o⟩:=a7u z s.length 0 [] 1 l (by omega) (by omega) (by simp) h;have e:decide ((s.length:Int)>(16384:Int))=false:=Am (by omega);refine ⟨xs,?_,m,o⟩;unfold F28;rw [e,Ae,aaq,show (0:Int)=((0:Nat):Int) from rfl,d];rfl
end Go.Ab
namespace Go.Ab
open Go
set_option maxRecDepth 100000
noncomputable section
def aka (n:Int):List Tk:=bif decide (n<0) then [⟨4,[45],0⟩,⟨2,[],IntKind.wrap .i64 (n.natAbs:Int)⟩] else [⟨2,[],IntKind.wrap .i64 (n.toNat:Int)⟩]
def atp (v:PV):List Tk:=
 bif aa9 v==1 then [⟨1,bif aam v==1 then [116,114,117,101] else [102,97,108,115,101],0⟩]
 else bif aa9 v==3 then aka (IntKind.wrap .i64 (aam v))
 else bif aa9 v==7 then [⟨3,abn v,0⟩]
 else [⟨2,[],IntKind.wrap .i64 ((aam v).toNat:Int)⟩]
def nTks (n:PV):List Tk:=⟨1,aeb n,0⟩::⟨4,[61],0⟩::atp (nVal n)
def ai6:List PV->List Tk
 | []=>[⟨4,[93],0⟩]
 | n::r=>⟨4,[44],0⟩::(nTks n++ai6 r)
theorem aca {s:Bo}{l:List Tk} (h:TksT s l):TksT (32::s) l:=.sp (Or.inl rfl) h
theorem a4b (c:UInt8) (d:avo c=true) {s:Bo}{l:List Tk} (h:TksT s l):TksT (c::s) (⟨4,[c],0⟩::l):=.tok (t:=[c]) (.sign d) h
theorem beu {c:UInt8}{r:Bo} (h:alnB c=false) (m:c≠46):endN (c::r):=λd q e=>by grind
theorem aw3 {s:Bo} (h:endN s):endI s:=λc r e=>(h c r e).1
theorem aur {n:Int} (o:-9223372036854775808<=n) (z:n<=9223372036854775807) {s:Bo}{l:List Tk} (d:endI s) (m:TksT s l):TksT (alp n++s) (aka n++l):=by
 unfold alp aka;by_cases h:n<0
 ·rw [Aj h];exact a4b 45 (by decide) (.tok (.int (u:=n.natAbs) (by omega) d) m)
 ·rw [Am h];exact .tok (.int (u:=n.toNat) (by omega) d) m
theorem bk5 {k:Int} (H:k=1\/k=7\/k=3\/k=4) {v:PV} (O:aea v) (z:ac4 k v=true) {s:Bo}{l:List Tk} (m:endN s) (d:TksT s l):TksT (amm v++s) (atp v++l):=by
 rw [a3z z];obtain ⟨_,M,U,V⟩:=O;have W:-9223372036854775808<=IntKind.wrap .i64 (aam v)/\IntKind.wrap .i64 (aam v)<=9223372036854775807:=by rw [IntKind.wrap_i64];omega
 have o:=(act z).1;unfold atp;rw [o];rcases H with rfl | rfl | rfl | rfl
 ·show TksT ((bif aam v==1 then [116,114,117,101] else [102,97,108,115,101])++s) _;cases (aam v==1) with
  | true=>exact .tok (t:=[116,114,117,101]) (.name (by decide) m) d
  | false=>exact .tok (t:=[102,97,108,115,101]) (.name (by decide) m) d
 ·exact .tok (.text M) d
 ·grind [aur,aw3]
 ·exact .tok (.int (u:=(aam v).toNat) (by omega) (aw3 m)) d
theorem bba:(knownNames.all ac5)=true:=by kernel_rfl
theorem a3e {n:PV} (z:abk n=true) (O:acj n) {s:Bo}{l:List Tk} (o:endN s) (H:TksT s l):TksT (afj n++s) (nTks n++l):=by obtain ⟨m,M⟩:=arb z;have d:aad (aeb n)≠0:=aiw m;unfold afj nTks;simp only [An,As,At];exact .tok (.name (Bc.1 bba _ m) (beu (by decide) (by decide))) (aca (a4b 61 (by decide) (aca (bk5 (als d) O.1 M o H))))
theorem bkw {s:Bo}{l:List Tk} (h:TksT s l):l.length<=s.length:=by
 induction h with
 | nil=>grind
 | sp _ _ m=>grind
 | tok d _ m=>have:=List.length_pos_iff.2 (ayv d.tok);grind
def ag2 (v:PV):PV:=ae2 (aa9 v) (aam v) (abn v)
def ava (n:PV):PV:=PV.agg [PV.str (aeb n),ag2 (nVal n)]
theorem bf7 {k:Int} (o:k=3\/k=4) (d:Bool) {u:Nat} (m:u<18446744073709551616):parV k ((bif d then ([45]:Bo) else [])++decB u)=numV k d u:=by unfold parV;rw [ard d m,bf8 k o d u m];rfl
theorem ay1 {u:Nat} (d:u<18446744073709551616):(IntKind.wrap .u64 (IntKind.wrap .i64 (u:Int))).toNat=u:=by rw [IntKind.wrap_u64,IntKind.wrap_i64];omega
theorem aup {k:Int} (o:k=3\/k=4) (d:Bool) {u:Nat} (m:u<18446744073709551616) (R:List Tk) {b:Int} (h:numV k d u=(mkV k b,0)):intS parV k d (⟨2,[],IntKind.wrap .i64 (u:Int)⟩::R)=.ok (mkV k b) R:=by unfold intS;rw [show aa0 (⟨2,[],IntKind.wrap .i64 (u:Int)⟩::R:List Tk)=2 from rfl,show anh (⟨2,[],IntKind.wrap .i64 (u:Int)⟩::R:List Tk)=IntKind.wrap .i64 (u:Int) from rfl,ay1 m,bf7 o d m,h];rfl
theorem bhi {k:Int} (V:k=1\/k=7\/k=3\/k=4) {v:PV} (sv:aea v) (z:ac4 k v=true) (R:List Tk):aex parV k (atp v++R)=.ok (ag2 v) R:=by
 have U:=act z;obtain ⟨H,W,m⟩:=U;obtain ⟨_,_,b0,b1⟩:=sv;obtain ⟨u,Z⟩:∃ u:Nat,aam v=(u:Int):=⟨(aam v).toNat,by omega⟩;unfold atp ag2 aex;rw [H];rcases V with rfl | rfl | rfl | rfl
 ·have o:abn v=[]/\acb 1 (aam v)=true:=m;have Y:aam v<=1:=by grind [acb]
  rw [o.1,Z];rcases (show u=0\/u=1 by omega) with rfl | rfl<;>rfl
 ·have o:aam v=0:=m;have h3:(abn v).length<=4096/\valid (abn v)=true:=by
   unfold ac4 at z;simp only [Ag] at z;have O:=z.2;rw [show afi 7=true from rfl,if_pos rfl] at O;grind
  have d:decide ((abn v).length>4096)=false:=Am (by omega);show (bif decide ((abn v).length>4096) then Rs.er _ 3 else bif valid (abn v) then Rs.ok (ae2 7 0 (abn v)) R else Rs.er _ 7)=_;grind
 ·have o:abn v=[]:=m.1;rw [o];show (bif isS 4 [45] (aka (IntKind.wrap .i64 (aam v))++R) then intS parV 3 true (aka (IntKind.wrap .i64 (aam v))++R).tail else intS parV 3 false (aka (IntKind.wrap .i64 (aam v))++R))=_;unfold aka;by_cases M:IntKind.wrap .i64 (aam v)<0
  ·rw [Aj M];refine aup (Or.inl rfl) true (u:=(IntKind.wrap .i64 (aam v)).natAbs) (by grind [IntKind.wrap_i64]) R ?_;have hw:IntKind.wrap .i64 (aam v)=aam v-18446744073709551616:=by grind [IntKind.wrap_i64]
   have aa:((IntKind.wrap .i64 (aam v)).natAbs:Int)=18446744073709551616-aam v:=by omega
   unfold numV;rw [if_neg (by omega),if_neg (by decide),if_pos rfl,if_neg (by grind [IntKind.wrap_i64])];grind [IntKind.wrap_u64]
  ·rw [Am M];have hw:IntKind.wrap .i64 (aam v)=aam v:=by grind [IntKind.wrap_i64]
   have X:aam v<9223372036854775808:=by grind [IntKind.wrap_i64]
   refine aup (Or.inl rfl) false (u:=(IntKind.wrap .i64 (aam v)).toNat) (by omega) R ?_;unfold numV;grind
 ·have o:abn v=[]/\acb 4 (aam v)=true:=m;have Y:aam v<4294967296:=by grind [acb]
  rw [o.1];refine aup (Or.inr rfl) false (u:=(aam v).toNat) (by omega) R ?_;unfold numV;grind
theorem axy {n:PV} (m:abk n=true) (M:acj n) (R:List Tk):aqy parV aad (nTks n++R)=.ok (ava n) R:=by obtain ⟨z,H⟩:=arb m;have d:aad (aeb n)≠0:=aiw z;have o:=bhi (als d) M.1 H R;show (bif aad (aeb n)==0 then _ else (aex parV (aad (aeb n)) (atp (nVal n)++R)).bind _)=_;rw [beqI d,o];rfl
theorem bco:∀ (l:List PV) (n:PV) (d:List PV) (R:List Tk),(n::l).all abk=true->(∀ x,x∈n::l->acj x)->acf parV aad (nTks n++(ai6 l++R)) d=.ok (d++(n::l).map ava) R:=by
 intro l;induction l with
 | nil=>intro n d R m o;simp only [A8,Ag] at m;rw [acg,axy m.1 (o n (by simp)),Rs.bind_ok];rfl
 | cons a l H=>intro n d R m o;have z:=m;simp only [A8,Ag] at m;rw [acg,axy m.1 (o n (by simp)),Rs.bind_ok];have:=H a (d++[ava n]) R (by grind) (λx M=>o x (by grind));show acf parV aad (nTks a++ai6 l++R) (d++[ava n])=_;grind
theorem a7d {a:PV}{l:List PV} (d:(a::l).all abk=true) (m:∀ n,n∈a::l->acj n) (R:List Tk):adk parV aad ((⟨4,[91],0⟩::(nTks a++ai6 l))++R)=.ok ((a::l).map ava) R:=by have:=bco l a [] R d m;show acf parV aad (nTks a++ai6 l++R) []=_;grind
end
end Go.Ab
namespace Go.Ab
open Go
set_option maxRecDepth 100000
inductive PG {α R S Z:Type} (t:List PV) (ok:R->S) (er:PV×Z->S) (I:α->Nat->Prop) (mk:α->Int->R) (x:Rs α) (y:Option S):Prop
 | ok (v:α) (j:Nat):j<=t.length->I v j->x=.ok v (ts t j)->y=some (ok (mk v ((j:Nat):Int)))->PG t ok er I mk x y
 | er (j:Nat) (e:Int) (z:Z):j<=t.length->e≠0->x=.er (ts t j) e->y=some (er (PV.agg [PV.int ((j:Nat):Int),PV.int e],z))->PG t ok er I mk x y
theorem Par.pg {α R:Type}{t:List PV}{q:QF}{mk:α->Q0->R}{x:Rs α}{y:Option (R⊕(PV×Q0))} (h:Par t q mk x y):PG t Sum.inl Sum.inr (λ_ _=>True) (λv j=>mk v (t,j,q)) x y:=by
 rcases h with ⟨v,j,d,m,o⟩ | ⟨j,e,d,z,m,o⟩
 ·exact .ok v j d trivial m o
 ·exact .er j e _ d z m o
theorem PG.seq {α W R Y H Z Z':Type}{t:List PV}{I:α->Nat->Prop}{X:W->Nat->Prop}{mk:α->Int->R}{o:Y->H}{d:PV×Z'->H}{m:W->Int->Y}{x:Rs α}{y:Option (R⊕(PV×Z))}{f:α->List Tk->Rs W}{g:R->Option H}{E:PV×Z->Option H}
 (h:PG t Sum.inl Sum.inr I mk x y) (hc:∀ v j,j<=t.length->I v j->x=.ok v (ts t j)->PG t o d X m (f v (ts t j)) (g (mk v ((j:Nat):Int)))) (hE:∀ p z,∃ V,E (p,z)=some (d (p,V))):
 PG t o d X m (x.bind f) (y.bind λz=>sumE g E z):=by
 rcases h with ⟨v,j,O,hi,M,U⟩ | ⟨j,e,z,O,he,M,U⟩
 ·have:=hc v j O hi M;rw [M,U];exact this
 ·obtain ⟨V,hz⟩:=hE (PV.agg [PV.int ((j:Nat):Int),PV.int e]) z;rw [M,U];exact .er j e V O he rfl hz
theorem PG.swap {α W R Y H Z Z':Type}{t:List PV}{I:α->Nat->Prop}{X:W->Nat->Prop}{mk:α->Int->R}{o:Y->H}{d:PV×Z'->H}{m:W->Int->Y}{x:Rs α}{y:Option ((PV×Z)⊕R)}{f:α->List Tk->Rs W}{g:R->Option H}{E:PV×Z->Option H}
 (h:PG t Sum.inr Sum.inl I mk x y) (hc:∀ v j,j<=t.length->I v j->x=.ok v (ts t j)->PG t o d X m (f v (ts t j)) (g (mk v ((j:Nat):Int)))) (hE:∀ p z,∃ V,E (p,z)=some (d (p,V))):
 PG t o d X m (x.bind f) (y.bind λz=>sumE E g z):=by
 rcases h with ⟨v,j,O,hi,M,U⟩ | ⟨j,e,z,O,he,M,U⟩
 ·have:=hc v j O hi M;rw [M,U];exact this
 ·obtain ⟨V,hz⟩:=hE (PV.agg [PV.int ((j:Nat):Int),PV.int e]) z;rw [M,U];exact .er j e V O he rfl hz
section
variable {α R S Z:Type}{t:List PV}{ok:R->S}{er:PV×Z->S}{I:α->Nat->Prop}{mk:α->Int->R}
theorem PG.may (M:TOk t) (s:Bo) (k:Int) (H:kOf s=k) (i:Nat) (z:i<=t.length) (q:QF) {K:Bool×Q0->Option S}{x1 d:Rs α}
 (m:isS k s (ts t i)=true->i+1<=t.length->PG t ok er I mk x1 (K (true,(t,((i+1:Nat):Int),q)))) (o:isS k s (ts t i)=false->PG t ok er I mk d (K (false,(t,(i:Int),q)))):
 PG t ok er I mk (bif isS k s (ts t i) then x1 else d) ((F91 0 () s (t,(i:Int),q)).bind K):=by
 grind [ana,isS,ts,ad7]
theorem PG.sign (M:TOk t) (s:Bo) (k:Int) (H:kOf s=k) (i:Nat) (z:i<=t.length) (q:QF) {K:Bool×Q0->Option S}{x1 d:Rs α}
 (m:isS k s (ts t i)=true->PG t ok er I mk x1 (K (true,(t,(i:Int),q)))) (o:isS k s (ts t i)=false->PG t ok er I mk d (K (false,(t,(i:Int),q)))):
 PG t ok er I mk (bif isS k s (ts t i) then x1 else d) ((F96 0 () s (t,(i:Int),q)).bind K):=by
 grind [atc,isS,ts]
end
theorem ad5 {α:Type}{x:Rs α}{t:List PV}{i j:Nat}{v:α} (o:i<=t.length) (z:j<=t.length) (d:Sh x (ts t i)) (m:x=.ok v (ts t j)):i<j:=by have:=d v _ m;grind [aej]
theorem bh8 {α:Type}{x:Rs α}{t:List PV}{i j:Nat}{v:α} (o:i<=t.length) (z:j<=t.length) (d:Sh0 x (ts t i)) (m:x=.ok v (ts t j)):i<=j:=by have:=d v _ m;grind [aej]
theorem accL {n:Nat} (h:n<=68719476736):decide (n<=aai)=true:=Aj h
theorem a2m {s:Bo} (h:afv s=true):s.length<=120:=by unfold afv at h;grind
theorem a6t {o s:Bo} (h:aoe o s=true):(aus o s).length<=120:=by
 unfold aoe at h;simp only [Ag,A2] at h;rcases h.2 with d | d
 ·have e:o=[]:=by simpa using d
  subst e;have:=h.1;unfold defP at this;simp only [Ag] at this;exact a2m this.1
 grind [a2m]
theorem ba5 (o s:Bo) (d:o.length<=1048576) (m:s.length<=1048576):F288 0 o s=some (aus o s):=by
 unfold F288 aus;cases h:(o==[]) with
 | true=>rfl
 | false=>have z:decide (o.length+([46]:Bo).length<=aae)=true:=aqh (by simp;omega);have H:decide ((o++([46]:Bo)).length+s.length<=aae)=true:=aqh (by simp;omega);grind
theorem bbs (o s:Bo) (O:o.length<=120) (d:s.length<=1048576):F287 0 s () o=some (aoe o s,o):=by
 have M:(aus o s).length<=1048820:=by grind [aus]
 unfold F287 aoe;rw [axi s d,Aa,agx,ba5 o s (by omega) d];cases defP s with
 | false=>grind
 | true=>
  cases H:(o==[]) with
  | true=>rfl
  | false=>
   cases m:aet s with
   | false=>rfl
   | true=>
    have z:s.length<=120:=by unfold aet at m;grind
    have:=aiv (aus o s) (by grind [aus]);grind
theorem aqu (o:Bo) (X:o.length<=120) (t:List PV) (H:TOk t) (i:Nat) (W:i<=t.length) (O U:Bo) (V M ms es:List PV):
 PG t Sum.inl Sum.inr (λv _=>v.length<=120) (λv j=>(v,(t,j,O,U,(),(),(),V,M,ms,es))) (aof o (ts t i)) (F204 0 () o (t,(i:Int),O,U,(),(),(),V,M,ms,es)):=by
 have hl:=H.len
 unfold F204 aof ajc F92_v2
 simp only [afd t i (O,U,(),(),(),V,M,ms,es),Aa]
 by_cases m:aa0 (ts t i)=1
 ·have z:(aa0 (ts t i) != 1)=false:=by rw [m];rfl
  have d:(aa0 (ts t i)==1)=true:=by rw [m];rfl
  have h:i<t.length:=aee rfl d;have hx:adp (ts t i)=((t.getD i .bad).fld 1).asStr:=by rw [ae9 h];rfl
  simp only [z,d,Ae,Ad,aab,h,decide_true,Ah,bbs o _ X (bdn H h),Aa,hx,abx (show i<=9223372036854775000 by omega)];cases Y:aoe o ((t.getD i .bad).fld 1).asStr with
  | true=>simp only [Ap,Ae,Ad,ab3,ba5 o _ (by omega) (bdn H h),Aa,Rs.bind_ok];exact .ok _ (i+1) h (a6t Y) (by rw [aa5]) rfl
  | false=>exact .er i 8 _ W (by decide) rfl rfl
 ·have z:(aa0 (ts t i) != 1)=true:=bneI m;have d:(aa0 (ts t i)==1)=false:=beqI m;simp only [z,d,Ad,Ae];exact .er i 2 _ W (by decide) rfl rfl
theorem a5x (t:List PV) (V:TOk t) (h5:t.length<=100000) (i0:Nat) (q:QF):∀ (m i:Nat) (d:List PV),t.length-i<=m->i<=t.length->d.length+i0<=i->
 PG t Sum.inl Sum.inr (λv j=>v.length+i0<=j) (λv j=>(v,(t,j,q))) (goneS (ts t i) d) (aa7 (S207_3step 0) ((),d,(t,(i:Int),q))):=by
 intro m
 induction m with
 | zero=>
  intro i d hm U ha
  rw [alg,show abr (ts t i)=.er (ts t i) 2 by rw [ah5 (by omega)];rfl]
  have M:S207_3step 0 ((),d,(t,(i:Int),q))=some (.inr (.inr (PV.agg [PV.int (i:Int),PV.int 2],(t,(i:Int),q)))):=by
   unfold S207_3step S207_3;rcases ahi t V i U q with ⟨v,j,o,H,M⟩ | ⟨j,e,o,X,H,M⟩
   ·have:=ad5 U o (ad6 _) H;omega
   ·rw [show abr (ts t i)=.er (ts t i) 2 by rw [ah5 (by omega)];rfl] at H;grind [Rs.er.injEq,bic,aba]
  exact .er i 2 (t,(i:Int),q) U (by decide) rfl (aaf M)
 | succ m ih=>
  intro i d hm U ha
  rw [alg]
  have Y:∀ x:PV,decide (d.length+[x].length<=aai)=true:=λx=>accL (by simp;omega)
  rcases ahi t V i U q with ⟨v,j,o,H,M⟩ | ⟨j,e,o,X,H,M⟩
  ·have ab:=ad5 U o (ad6 _) H;rw [H,Rs.bind_ok];cases W:isS 4 [59] (ts t j) with
   | true=>refine .ok (d++[PV.str v]) (j+1) (ad7 W) (by simp;omega) (by rw [Ad,aa5]) (aaf ?_);simp only [S207_3step,S207_3,M,Aa,ab3,Y,Ad,ana [59] 4 (by decide) t V j o,W]
   | false=>
    rw [Ae];rcases ae0 [44] 4 (by decide) t V j o q with ⟨_,k,hk,z,O⟩ | ⟨k,e,hk,X,z,O⟩
    ·have aa:=ad5 o hk (abv _ _ _) z;rw [z,Rs.bind_ok];have st:S207_3step 0 ((),d,(t,(i:Int),q))=some (.inl ((),d++[PV.str v],(t,(k:Int),q))):=by
      simp only [S207_3step,S207_3,M,Aa,ab3,Y,Ad,Ae,ana [59] 4 (by decide) t V j o,W,O]
     grind [abd]
    ·rw [z,Rs.bind_er];refine .er k e (t,(k:Int),q) hk X rfl (aaf ?_);simp only [S207_3step,S207_3,M,Aa,ab3,aba,Y,Ad,Ae,ana [59] 4 (by decide) t V j o,W,O]
  ·rw [H,Rs.bind_er];refine .er j e (t,(j:Int),q) o X rfl (aaf ?_);grind [S207_3step,S207_3,aba]
theorem be3 (t:List PV) (O:TOk t) (o:t.length<=100000) (i:Nat) (M:i<=t.length) (q:QF):
 PG t Sum.inl Sum.inr (λv j=>v.length+i<=j) (λv j=>(v,(t,j,q))) (goneS (ts t i) []) (F207 0 () (t,(i:Int),q)):=by
 unfold F207
 rw [aaq]
 rcases a5x t O o i q t.length i [] (by omega) M (by simp) with ⟨v,j,d,U,m,V⟩ | ⟨j,e,z,d,H,m,V⟩
 ·exact .ok v j d U m (by grind [ab3])
 ·exact .er j e z d H m (by grind [aba])
end Go.Ab
namespace Go.Ab
open Go
set_option maxRecDepth 100000
def akf (l:List PV):Prop:=l.length<=100000/\∀ x,x∈l->ay7 x
def akd (v:PV):Prop:=bie v/\(v.fld 8).asList.length<=100000
def aow (v:PV):Prop:=akf (v.fld 4).asList
def ay2 (v:PV):Prop:=akf (v.fld 2).asList
def ahf (v:PV):Prop:=(v.fld 2).asList.length<=100000/\(∀ x,x∈(v.fld 2).asList->ay2 x)/\(v.fld 3).asList.length<=100000/\akf (v.fld 4).asList
def bhr (v:PV):Prop:=(v.fld 1).asList.length<=100000/\(∀ x,x∈(v.fld 1).asList->aow x)/\akf (v.fld 2).asList
def ak4 (v:PV):Prop:=(v.fld 1).asList.length<=100000/\(∀ x,x∈(v.fld 1).asList->akd x)/\(v.fld 2).asList.length<=100000/\(v.fld 3).asList.length<=100000/\akf (v.fld 4).asList
theorem af2 {t:List PV}{i j:Nat}{v:List PV} (d:t.length<=100000) (h:adk parV aad (ts t i)=.ok v (ts t j)):akf v:=by have:=as3 h;rw [aej] at this;exact ⟨by omega,as4 h⟩
theorem aft {P:PV->Prop}{l:List PV}{x:PV} (h:∀ y,y∈l->P y) (d:P x):∀ y,y∈l++[x]->P y:=λy m=>by grind
theorem bd1 {P:PV->Prop}{l m:List PV} (h:∀ y,y∈l->P y) (d:∀ y,y∈m->P y):∀ y,y∈l++m->P y:=λy o=>by grind
theorem all_nil {P:PV->Prop}:∀ y,y∈([]:List PV)->P y:=λy d=>by cases d
theorem Rs.bind_assoc {α β d:Type} (x:Rs α) (f:α->List Tk->Rs β) (g:β->List Tk->Rs d):(x.bind f).bind g=x.bind λv r=>(f v r).bind g:=by cases x<;>rfl
inductive PL {α β R S Z σ:Type} (t:List PV) (st:β->Int->σ) (spec:List Tk->β->Rs α) (J:β->Nat->Prop) (ok:R->S) (er:PV×Z->S) (I:α->Nat->Prop) (mk:α->Int->R) (i:Nat) (x:Rs α) (y:Option (σ⊕S)):Prop
 | go (b:β) (j:Nat):i<j->j<=t.length->J b j->x=spec (ts t j) b->y=some (.inl (st b ((j:Nat):Int)))->PL t st spec J ok er I mk i x y
 | done (v:α) (j:Nat):j<=t.length->I v j->x=.ok v (ts t j)->y=some (.inr (ok (mk v ((j:Nat):Int))))->PL t st spec J ok er I mk i x y
 | er (j:Nat) (e:Int) (z:Z):j<=t.length->e≠0->x=.er (ts t j) e->y=some (.inr (er (PV.agg [PV.int ((j:Nat):Int),PV.int e],z)))->PL t st spec J ok er I mk i x y
section
variable {α β R S Z σ:Type}{t:List PV}{st:β->Int->σ}{spec:List Tk->β->Rs α}{J:β->Nat->Prop}{ok:R->S}{er:PV×Z->S}{I:α->Nat->Prop}{mk:α->Int->R}{i:Nat}
theorem PL.loop {step:σ->Option (σ⊕S)} (h:∀ i b,i<=t.length->J b i->PL t st spec J ok er I mk i (spec (ts t i) b) (step (st b (i:Int)))):∀ (m i:Nat) (b:β),t.length-i<=m->i<=t.length->J b i->PG t ok er I mk (spec (ts t i) b) (aa7 step (st b (i:Int))):=by
 intro m;induction m with
 | zero=>
  intro i b W O U;rcases h i b O U with ⟨V,j,d,o,_⟩ | ⟨v,j,d,o,H,M⟩ | ⟨j,e,z,d,o,H,M⟩
  ·omega
  ·exact .ok v j d o H (aaf M)
  ·exact .er j e z d o H (aaf M)
 | succ m Y=>
  intro i b W O U;rcases h i b O U with ⟨V,j,d,o,H,M,X⟩ | ⟨v,j,d,o,H,M⟩ | ⟨j,e,z,d,o,H,M⟩
  ·grind [abd]
  ·exact .ok v j d o H (aaf M)
  ·exact .er j e z d o H (aaf M)
theorem PL.seq {d H X:Type}{W:d->Nat->Prop}{m:d->Int->H}{U:Rs d}{Y:Option (H⊕(PV×X))}{f:d->List Tk->Rs α}{g:H->Option (σ⊕S)}{E:PV×X->Option (σ⊕S)}
 (h:PG t Sum.inl Sum.inr W m U Y) (hc:∀ v j,j<=t.length->W v j->U=.ok v (ts t j)->PL t st spec J ok er I mk i (f v (ts t j)) (g (m v ((j:Nat):Int)))) (hE:∀ p z,∃ V,E (p,z)=some (.inr (er (p,V)))):
 PL t st spec J ok er I mk i (U.bind f) (Y.bind λz=>sumE g E z):=by
 rcases h with ⟨v,j,M,hi,o,O⟩ | ⟨j,e,z,M,he,o,O⟩
 ·have:=hc v j M hi o;rw [o,O];exact this
 ·obtain ⟨V,hz⟩:=hE (PV.agg [PV.int ((j:Nat):Int),PV.int e]) z;rw [o,O];exact .er j e V M he rfl hz
theorem PL.may (M:TOk t) (s:Bo) (k:Int) (H:kOf s=k) (j:Nat) (z:j<=t.length) (q:QF) {K:Bool×Q0->Option (σ⊕S)}{x1 d:Rs α}
 (m:isS k s (ts t j)=true->j+1<=t.length->PL t st spec J ok er I mk i x1 (K (true,(t,((j+1:Nat):Int),q)))) (o:isS k s (ts t j)=false->PL t st spec J ok er I mk i d (K (false,(t,(j:Int),q)))):
 PL t st spec J ok er I mk i (bif isS k s (ts t j) then x1 else d) ((F91 0 () s (t,(j:Int),q)).bind K):=by
 grind [ana,isS,ts,ad7]
theorem PL.sign (M:TOk t) (s:Bo) (k:Int) (H:kOf s=k) (j:Nat) (z:j<=t.length) (q:QF) {K:Bool×Q0->Option (σ⊕S)}{x1 d:Rs α}
 (m:isS k s (ts t j)=true->PL t st spec J ok er I mk i x1 (K (true,(t,(j:Int),q)))) (o:isS k s (ts t j)=false->PL t st spec J ok er I mk i d (K (false,(t,(j:Int),q)))):
 PL t st spec J ok er I mk i (bif isS k s (ts t j) then x1 else d) ((F96 0 () s (t,(j:Int),q)).bind K):=by
 grind [atc,isS,ts]
end
section
variable {t:List PV}
theorem bc5 (most:Int) (l:List Tk) (d:List PV):adc most l d=(numS most l).bind λa r=>bif isS 4 [45] r then ((numS most r.tail).bind λb m=>bif isS 4 [59] m then .ok (d++[PV.agg [PV.int a,PV.int b]]) m.tail else (eatS 4 [44] m).bind λ_ o=>adc most o (d++[PV.agg [PV.int a,PV.int b]]))
 else (bif isS 4 [59] r then .ok (d++[PV.agg [PV.int a,PV.int a]]) r.tail else (eatS 4 [44] r).bind λ_ o=>adc most o (d++[PV.agg [PV.int a,PV.int a]])):=by
 grind [apd,avr,Rs.bind_assoc,Rs.bind_ok,isS]
theorem ayk (o:TOk t) (hn:∀ x,x∈t->-9223372036854775808<=(x.fld 2).asInt/\(x.fld 2).asInt<=9223372036854775807) (h5:t.length<=100000) (most:Int) (hm:0<=most/\most<=2147483647) (M:Nat) (Y:M<=t.length) (q:QF):
 PG t Sum.inl Sum.inr (λv j=>v.length+M<=j) (λv j=>(v,(t,j,q))) (adc most (ts t M) []) (F208 0 () most (t,(M:Int),q)):=by
 have lp:=PL.loop (t:=t) (st:=λ(b:List PV) j=>((),most,b,((t,j,q):Q0))) (spec:=λl b=>adc most l b) (J:=λb j=>b.length+M<=j) (ok:=Sum.inl) (er:=Sum.inr) (I:=λv j=>v.length+M<=j) (mk:=λv j=>(v,((t,j,q):Q0))) (step:=S208_3step 0) (λi b hi W=>by
  have ea:∀ x:PV,decide (b.length+[x].length<=aai)=true:=λx=>accL (by simp;omega);show PL t _ _ _ _ _ _ _ i (adc most (ts t i) b) _;rw [bc5];simp only [S208_3step,S208_3,ea,Ad];refine PL.seq (avb t o i hi most hm hn q).pg (λa j d _ V=>?_) (λp z=>⟨_,rfl⟩);have h1:=ad5 hi d (aq0 most _) V;refine PL.may o [45] 4 (by decide) j d q (λ_ O=>?_) (λ_=>?_)
  ·simp only [Ad,aa5];refine PL.seq (avb t o (j+1) O most hm hn q).pg (λc k X _ aa=>?_) (λp z=>⟨_,rfl⟩);have h2:=ad5 O X (aq0 most _) aa;refine PL.may o [59] 4 (by decide) k X q (λ_ m=>?_) (λ_=>?_)
   ·simp only [Ad,aa5];exact .done _ (k+1) m (by simp;omega) rfl rfl
   ·simp only [Ae];refine PL.seq (ae0 [44] 4 (by decide) t o k X q).pg (λ_ l U _ H=>?_) (λp z=>⟨_,rfl⟩);have h3:=ad5 X U (abv _ _ _) H;exact .go (b++[PV.agg [PV.int a,PV.int c]]) l (by omega) U (by simp;omega) rfl rfl
  ·simp only [Ae];refine PL.may o [59] 4 (by decide) j d q (λ_ m=>?_) (λ_=>?_)
   ·simp only [Ad,aa5];exact .done _ (j+1) m (by simp;omega) rfl rfl
   ·simp only [Ae];refine PL.seq (ae0 [44] 4 (by decide) t o j d q).pg (λ_ l U _ H=>?_) (λp z=>⟨_,rfl⟩);have h3:=ad5 d U (abv _ _ _) H;exact .go (b++[PV.agg [PV.int a,PV.int a]]) l (by omega) U (by simp;omega) rfl rfl) t.length M [] (by omega) Y (by simp)
 unfold F208
 rw [aaq]
 rcases lp with ⟨v,j,W,hv,V,hy⟩ | ⟨j,e,z,W,he,V,hy⟩
 ·exact .ok v j W hv V (by rw [hy];rfl)
 ·exact .er j e z W he V (by rw [hy];rfl)
theorem bds (po:aey) (ht:TNum t) (h5:t.length<=100000) (O:Nat) (W:O<=t.length) (q:QF):
 PG t Sum.inl Sum.inr (λv j=>v.length+O<=j/\∀ x,x∈v->akd x) (λv j=>(v,(t,j,q))) (amn parV aad (ts t O)) (F206 0 () (t,(O:Int),q)):=by
 have U:=ht.toTOk
 have lp:=λ(un:Bo)=>PL.loop (t:=t) (st:=λ(b:List PV) j=>((),un,b,((t,j,q):Q0))) (spec:=λl b=>ac1 parV aad un l b) (J:=λb j=>b.length+O<=j/\∀ x,x∈b->akd x) (ok:=Sum.inl) (er:=Sum.inr) (I:=λv j=>v.length+O<=j/\∀ x,x∈v->akd x) (mk:=λv j=>(v,((t,j,q):Q0))) (step:=S206_6step 0) (λi b hi hJ=>by
  obtain ⟨Y,X⟩:=hJ;have ea:∀ x:PV,decide (b.length+[x].length<=aai)=true:=λx=>accL (by simp;omega);show PL t _ _ _ _ _ _ _ i (ac1 parV aad un (ts t i) b) _;rw [anb];simp only [S206_6step,S206_6,ea,Ad];refine PL.seq (a1l t U i hi q).pg (λty j o _ M=>?_) (λp z=>⟨_,rfl⟩);have h1:=ad5 hi o (ayx _) M;refine PL.seq (avx po 2 0 ty un false (by unfold typS at M;cases hq:ade (ts t i)<;>rw [hq] at M<;>simp only [Rs.bind] at M<;>cases M;exact avz _) t ht j o q).pg (λx k H _ d=>?_) (λp z=>⟨_,rfl⟩)
  have h2:=ad5 o H (arm parV aad _ _ _ _ _ _) d;have V:akd x:=⟨avu (bh9 ht j) (λh=>by cases h) d,by have:=arl d;grind [aej]⟩;refine PL.may U [125] 4 (by decide) k H q (λ_ aa=>?_) (λ_=>?_)
  ·simp only [Ad,aa5];exact .done (b++[x]) (k+1) aa ⟨by simp;omega,aft X V⟩ rfl rfl
  ·simp only [Ae];exact .go (b++[x]) k (by omega) H ⟨by simp;omega,aft X V⟩ rfl rfl)
 unfold F206 amn
 refine PG.seq (ae0 [117,110,105,111,110] 1 (by decide) t U O W q).pg (λ_ j Y _ M=>?_) (λp z=>⟨_,rfl⟩)
 have h1:=ad5 W Y (abv _ _ _) M
 refine PG.seq (ama t U j Y q).pg (λun k H _ d=>?_) (λp z=>⟨_,rfl⟩)
 have h2:=ad5 Y H (akv _) d
 refine PG.seq (ae0 [123] 4 (by decide) t U k H q).pg (λ_ l hl _ ab=>?_) (λp z=>⟨_,rfl⟩)
 have h3:=ad5 H hl (abv _ _ _) ab
 simp only [aaq]
 rcases lp un t.length l [] (by omega) hl ⟨by simp;omega,all_nil⟩ with ⟨v,m,hm,hv,hx4,hy⟩ | ⟨m,e,z,hm,he,hx4,hy⟩
 ·exact .ok v m hm hv hx4 (by rw [hy];rfl)
 ·exact .er m e z hm he hx4 (by rw [hy];rfl)
theorem a3u (d:TOk t) (i:Nat) (U:i<=t.length) (q:QF):
 PG t Sum.inl Sum.inr (λ_ _=>True) (λv j=>(v.1,v.2,(t,j,q))) (ayf (ts t i)) (F289 0 () (t,(i:Int),q)):=by
 unfold F289 ayf
 refine PG.seq (ae0 [40] 4 (by decide) t d i U q).pg (λ_ j O _ V=>?_) (λp z=>⟨_,rfl⟩)
 rw [ana [115,116,114,101,97,109] 1 (by decide) t d j O q]
 simp only [Aa]
 cases h:isS 1 [115,116,114,101,97,109] (ts t j) with
 | true=>
  simp only [Ad,aa5]
  refine PG.seq (ajd t d (j+1) (ad7 h) q).pg (λs k m _ H=>?_) (λp z=>⟨_,rfl⟩)
  refine PG.seq (ae0 [41] 4 (by decide) t d k m q).pg (λ_ l o _ M=>?_) (λp z=>⟨_,rfl⟩)
  exact .ok (true,s) l o trivial rfl rfl
 | false=>
  simp only [Ae]
  refine PG.seq (ajd t d j O q).pg (λs k m _ H=>?_) (λp z=>⟨_,rfl⟩)
  refine PG.seq (ae0 [41] 4 (by decide) t d k m q).pg (λ_ l o _ M=>?_) (λp z=>⟨_,rfl⟩)
  exact .ok (false,s) l o trivial rfl rfl
theorem bkk (po:aey) (M:TNm t) (X:t.length<=100000) (i:Nat) (Y:i<=t.length) (q:QF):
 PG t Sum.inl Sum.inr (λv _=>aow v) (λv j=>(v,(t,j,q))) (rpcS parV aad (ts t i)) (F210 0 () (t,(i:Int),q)):=by
 have d:=M.toTOk
 unfold F210 rpcS
 refine PG.seq (ae0 [114,112,99] 1 (by decide) t d i Y q).pg (λ_ j hj _ _=>?_) (λp z=>⟨_,rfl⟩)
 refine PG.seq (ama t d j hj q).pg (λnm k hk _ _=>?_) (λp z=>⟨_,rfl⟩)
 refine PG.seq (a3u d k hk q) (λa l hl _ _=>?_) (λp z=>⟨_,rfl⟩)
 refine PG.seq (ae0 [114,101,116,117,114,110,115] 1 (by decide) t d l hl q).pg (λ_ m hm _ _=>?_) (λp z=>⟨_,rfl⟩)
 refine PG.seq (a3u d m hm q) (λb n hn _ _=>?_) (λp z=>⟨_,rfl⟩)
 obtain ⟨O,U⟩:=a
 obtain ⟨V,W⟩:=b
 simp only
 cases O<;>cases V<;>simp only [Ad,Ae]<;>refine PG.seq (ag3 po t M n hn q).pg (λls o ho _ H=>?_) (λp z=>⟨_,rfl⟩)<;>refine PG.seq (ae0 [59] 4 (by decide) t d o ho q).pg (λ_ u hu _ _=>?_) (λp z=>⟨_,rfl⟩)<;>exact .ok (PV.agg [PV.str nm,PV.str U,PV.str W,PV.int _,PV.slice ls]) u hu (af2 X H) rfl rfl
end
end Go.Ab
namespace Go.Ab
open Go
set_option maxRecDepth 100000
section
variable {t:List PV}
theorem bft (H:TOk t) (s:Bo) (k:Int) (z:kOf s=k) (i:Nat) (o:i<=t.length) (q:QF):
 ∃ (d:Bool) (j:Nat),i<=j/\j<=t.length/\isS k s (ts t i)=d/\(bif d then (ts t i).tail else ts t i)=ts t j/\F91 0 () s (t,(i:Int),q)=some (d,(t,(j:Int),q)):=by
 have h:=ana s k z t H i o q
 cases m:isS k s (ts t i) with
 | true=>
  rw [m] at h
  exact ⟨true,i+1,by omega,ad7 m,rfl,by rw [Ad,aa5],h⟩
 | false=>grind
theorem ba3 (l:List Tk) (d rs:List PV):ads parV aad l d rs=
 bif isS 4 [125] l then .ok (d,rs) l.tail
 else bif isS 1 [114,101,115,101,114,118,101,100] l then (adc 2147483647 l.tail []).bind λx r=>ads parV aad r d (rs++x)
 else (aq2 l).bind λm o=>(eatS 4 [61] o).bind λ_ z=>(numS 2147483647 z).bind λn H=>(adk parV aad H).bind λx M=>(eatS 4 [59] M).bind λ_ O=>ads parV aad O (d++[PV.agg [PV.str m,PV.int n,PV.slice x]]) rs:=by
 rw [alo]
 unfold a6d
 simp only [Rs.bind_assoc,Rs.bind_ok]
theorem ao0 (po:aey) (ht:TNum t) (h5:t.length<=100000) (d:Bo) (ho:d.length<=120) (i:Nat) (hi:i<=t.length) (M O:Bo) (U H ms es:List PV) (aj:es.length<=1000000):
 PG t Sum.inl Sum.inr (λv _=>ahf v) (λv j=>((t,j,M,O,(),(),(),U,H,ms,es++[v]):Q0)) (ar3 parV aad d (ts t i)) (F98 0 () d (t,(i:Int),M,O,(),(),(),U,H,ms,es)):=by
 have V:=ht.toTOk
 have hl:=ht.len
 obtain ⟨op,j0,ak,ae,e1,e2,e3⟩:=bft V [111,112,101,110] 1 (by decide) i hi (M,O,(),(),(),U,H,ms,es)
 unfold F98 ar3
 rw [e1,e2,e3,Aa]
 refine PG.seq (ae0 [101,110,117,109] 1 (by decide) t V j0 ae (M,O,(),(),(),U,H,ms,es)).pg (λ_ j Z _ _=>?_) (λp z=>⟨_,rfl⟩)
 have ea:∀ x:PV,decide (es.length+[x].length<=aai)=true:=λx=>accL (by simp;omega)
 simp only [ea,Ad]
 refine PG.seq (aqu d ho t V j Z M O U H ms _) (λW k hk ag _=>?_) (λp z=>⟨_,rfl⟩)
 refine PG.seq (ag3 po t ht.toTNm k hk (M,O,(),(),(),U,H,ms,_)).pg (λab l af _ ai=>?_) (λp z=>⟨_,rfl⟩)
 refine PG.seq (ae0 [123] 4 (by decide) t V l af (M,O,(),(),(),U,H,ms,_)).pg (λ_ m hm _ _=>?_) (λp z=>⟨_,rfl⟩)
 have lp:=PL.loop (t:=t) (st:=λ(b:List PV×List PV) (j:Int)=>((),(),(es.length:Int),t,j,M,O,(),(),(),U,H,ms,es++[PV.agg [PV.str [],PV.bool op,PV.slice [],PV.slice [],PV.slice []]],W,op,b.1,b.2,ab))
  (spec:=λl b=>ads parV aad l b.1 b.2) (J:=λb j=>b.1.length+b.2.length<=j/\∀ x,x∈b.1->ay2 x) (ok:=Sum.inr) (er:=Sum.inl) (I:=λv j=>v.1.length+v.2.length<=j/\∀ x,x∈v.1->ay2 x)
  (mk:=λv (j:Int)=>((),(),(es.length:Int),t,j,M,O,(),(),(),U,H,ms,es++[PV.agg [PV.str [],PV.bool op,PV.slice [],PV.slice [],PV.slice []]],W,op,v.1,v.2,ab)) (step:=S98_8step 0) (λi b hi ad=>by
  obtain ⟨hJ,aa⟩:=ad
  have eb:∀ x:PV,decide (b.1.length+[x].length<=aai)=true:=λx=>accL (by simp;omega)
  show PL t _ _ _ _ _ _ _ i (ads parV aad (ts t i) b.1 b.2) _
  rw [ba3]
  simp only [S98_8step,S98_8]
  refine PL.may V [125] 4 (by decide) i hi (M,O,(),(),(),U,H,ms,_) (λ_ Y=>?_) (λ_=>?_)
  ·simp only [Ap,Ae,aa5];exact .done (b.1,b.2) (i+1) Y ⟨by simp;omega,aa⟩ rfl rfl
  ·simp only [Ao,Ad];refine PL.may V [114,101,115,101,114,118,101,100] 1 (by decide) i hi (M,O,(),(),(),U,H,ms,_) (λ_ Y=>?_) (λ_=>?_)
   ·simp only [Ad,aa5];refine PL.seq (ayk V ht.num h5 2147483647 (by decide) (i+1) Y (M,O,(),(),(),U,H,ms,_)) (λv j Z hv _=>?_) (λp z=>⟨_,rfl⟩);have al:v.length+(i+1)<=j:=hv;have ec:decide (b.2.length+v.length<=aai)=true:=accL (by omega);simp only [ec,Ad];exact .go (b.1,b.2++v) j (by omega) Z ⟨by simp;omega,aa⟩ rfl rfl
   ·simp only [Ae];refine PL.seq (ama t V i hi (M,O,(),(),(),U,H,ms,_)).pg (λpn j Z _ X=>?_) (λp z=>⟨_,rfl⟩);have q1:=ad5 hi Z (akv _) X;refine PL.seq (ae0 [61] 4 (by decide) t V j Z (M,O,(),(),(),U,H,ms,_)).pg (λ_ k hk _ X=>?_) (λp z=>⟨_,rfl⟩);have q2:=ad5 Z hk (abv _ _ _) X;refine PL.seq (avb t V k hk 2147483647 (by decide) ht.num (M,O,(),(),(),U,H,ms,_)).pg (λn l hl _ X=>?_) (λp z=>⟨_,rfl⟩);have q3:=ad5 hk hl (aq0 _ _) X;refine PL.seq (ag3 po t ht.toTNm l hl (M,O,(),(),(),U,H,ms,_)).pg (λns m hm _ X=>?_) (λp z=>⟨_,rfl⟩);have q4:=bh8 hl hm (agj parV aad _) X;have ah:akf ns:=af2 h5 X;refine PL.seq (ae0 [59] 4 (by decide) t V m hm (M,O,(),(),(),U,H,ms,_)).pg (λ_ o ho _ X=>?_) (λp z=>⟨_,rfl⟩);have q5:=ad5 hm ho (abv _ _ _) X;simp only [eb,Ad];exact .go (b.1++[PV.agg [PV.str pn,PV.int n,PV.slice ns]],b.2) o (by omega) ho ⟨by simp;omega,aft aa ah⟩ rfl rfl)
  t.length m ([],[]) (by omega) hm ⟨by simp,all_nil⟩
 simp only [aaq]
 refine PG.swap lp (λv n hn hv _=>?_) (λp z=>⟨_,rfl⟩)
 have r0:aaa (es.length:Int) (es++[PV.agg [PV.str [],PV.bool op,PV.slice [],PV.slice [],PV.slice []]]).length=true:=by rw [aab];simp
 simp only [r0,Ad,Ah]
 refine .ok (PV.agg [PV.str W,PV.bool op,PV.slice v.1,PV.slice v.2,PV.slice ab]) n hn ⟨show v.1.length<=100000 by omega,hv.2,show v.2.length<=100000 by omega,af2 h5 ai⟩ rfl ?_
 grind
theorem bku (po:aey) (Z:TNum t) (h5:t.length<=100000) (i:Nat) (V:i<=t.length) (M O:Bo) (d H ms es:List PV) (ah:d.length<=1000000):
 PG t Sum.inl Sum.inr (λv _=>bhr v) (λv j=>((t,j,M,O,(),(),(),d++[v],H,ms,es):Q0)) (svcS parV aad (ts t i)) (F99 0 () (t,(i:Int),M,O,(),(),(),d,H,ms,es)):=by
 have X:=Z.toTOk
 have hl:=Z.len
 unfold F99 svcS
 refine PG.seq (ae0 [115,101,114,118,105,99,101] 1 (by decide) t X i V (M,O,(),(),(),d,H,ms,es)).pg (λ_ j Y _ _=>?_) (λp z=>⟨_,rfl⟩)
 refine PG.seq (aqu [] (by simp) t X j Y M O d H ms es) (λo k hk ae _=>?_) (λp z=>⟨_,rfl⟩)
 refine PG.seq (ag3 po t Z.toTNm k hk (M,O,(),(),(),d,H,ms,es)).pg (λU l ad _ ag=>?_) (λp z=>⟨_,rfl⟩)
 refine PG.seq (ae0 [123] 4 (by decide) t X l ad (M,O,(),(),(),d,H,ms,es)).pg (λ_ m hm _ _=>?_) (λp z=>⟨_,rfl⟩)
 have lp:=PL.loop (t:=t) (st:=λ(b:List PV) (j:Int)=>((),(),t,j,M,O,(),(),(),d,H,ms,es,o,b,U))
  (spec:=λl b=>arc parV aad l b) (J:=λb j=>b.length<=j/\∀ x,x∈b->aow x) (ok:=Sum.inr) (er:=Sum.inl) (I:=λv j=>v.length<=j/\∀ x,x∈v->aow x)
  (mk:=λv (j:Int)=>((),(),t,j,M,O,(),(),(),d,H,ms,es,o,v,U)) (step:=S99_5step 0) (λi b V aa=>by
  obtain ⟨hJ,W⟩:=aa
  have eb:∀ x:PV,decide (b.length+[x].length<=aai)=true:=λx=>accL (by simp;omega)
  show PL t _ _ _ _ _ _ _ i (arc parV aad (ts t i) b) _
  rw [avm]
  simp only [S99_5step,S99_5]
  refine PL.may X [125] 4 (by decide) i V (M,O,(),(),(),d,H,ms,es) (λ_ ab=>?_) (λ_=>?_)
  ·simp only [Ap,Ae,aa5];exact .done b (i+1) ab ⟨by omega,W⟩ rfl rfl
  ·simp only [Ao,Ad];refine PL.seq (bkk po Z.toTNm h5 i V (M,O,(),(),(),d,H,ms,es)) (λx j Y af hx=>?_) (λp z=>⟨_,rfl⟩);have q1:=ad5 V Y (bcs parV aad _) hx;simp only [eb,Ad];exact .go (b++[x]) j (by omega) Y ⟨by simp;omega,aft W af⟩ rfl rfl)
  t.length m [] (by omega) hm ⟨by simp,all_nil⟩
 simp only [aaq]
 refine PG.swap lp (λv n hn hv _=>?_) (λp z=>⟨_,rfl⟩)
 have ea:∀ x:PV,decide (d.length+[x].length<=aai)=true:=λx=>accL (by simp;omega)
 simp only [ea,Ad]
 exact .ok (PV.agg [PV.str o,PV.slice v,PV.slice U]) n hn ⟨show v.length<=100000 by omega,hv.2,af2 h5 ag⟩ rfl rfl
end
end Go.Ab
namespace Go.Ab
open Go
set_option maxRecDepth 100000
inductive PN {α R S Z:Type} (N:Nat) (t:List PV) (ok:R->S) (er:PV×Z->S) (I:α->Nat->Prop) (mk:α->Int->R) (x:Rs α) (y:Nat->Option S):Prop
 | ok (v:α) (j:Nat):j<=t.length->I v j->x=.ok v (ts t j)->(∀ n,N<=n->y n=some (ok (mk v ((j:Nat):Int))))->PN N t ok er I mk x y
 | er (j:Nat) (e:Int) (z:Z):j<=t.length->e≠0->x=.er (ts t j) e->(∀ n,N<=n->y n=some (er (PV.agg [PV.int ((j:Nat):Int),PV.int e],z)))->PN N t ok er I mk x y
theorem PG.pn {α R S Z:Type}{N:Nat}{t:List PV}{ok:R->S}{er:PV×Z->S}{I:α->Nat->Prop}{mk:α->Int->R}{x:Rs α}{y:Option S} (h:PG t ok er I mk x y):PN N t ok er I mk x (λ_=>y):=by
 rcases h with ⟨v,j,d,m,o,H⟩ | ⟨j,e,z,d,m,o,H⟩
 ·exact .ok v j d m o λ_ _=>H
 ·exact .er j e z d m o λ_ _=>H
theorem PN.pg {α R S Z:Type}{N:Nat}{t:List PV}{ok:R->S}{er:PV×Z->S}{I:α->Nat->Prop}{mk:α->Int->R}{x:Rs α}{y:Nat->Option S}{Y:Option S} (h:PN N t ok er I mk x y) (M:∀ z,(∀ n,N<=n->y n=some z)->Y=some z):PG t ok er I mk x Y:=by
 rcases h with ⟨v,j,d,m,o,H⟩ | ⟨j,e,z,d,m,o,H⟩
 ·exact .ok v j d m o (M _ H)
 ·exact .er j e z d m o (M _ H)
theorem PN.shift {α R S Z:Type}{N:Nat}{t:List PV}{ok:R->S}{er:PV×Z->S}{I:α->Nat->Prop}{mk:α->Int->R}{x:Rs α}{y H:Nat->Option S} (h:PN N t ok er I mk x y) (V:∀ n,H (n+1)=y n):PN (N+1) t ok er I mk x H:=by
 have U:∀ n,N+1<=n->H n=y (n-1):=λn M=>by grind
 rcases h with ⟨v,j,d,m,o,O⟩ | ⟨j,e,z,d,m,o,O⟩
 ·exact .ok v j d m o λn M=>by grind
 ·exact .er j e z d m o λn M=>by grind
theorem PN.seq {α β R X H Z Y:Type}{N:Nat}{t:List PV}{I:α->Nat->Prop}{W:β->Nat->Prop}{mk:α->Int->R}{o:X->H}{d:PV×Y->H}{m:β->Int->X}{x:Rs α}{y:Option (R⊕(PV×Z))}{f:α->List Tk->Rs β}{g:Nat->R->Option H}{E:PV×Z->Option H}
 (h:PG t Sum.inl Sum.inr I mk x y) (hc:∀ v j,j<=t.length->I v j->x=.ok v (ts t j)->PN N t o d W m (f v (ts t j)) (λn=>g n (mk v ((j:Nat):Int)))) (hE:∀ p z,∃ V,E (p,z)=some (d (p,V))):
 PN N t o d W m (x.bind f) (λn=>y.bind λz=>sumE (g n) E z):=by
 rcases h with ⟨v,j,O,hi,M,U⟩ | ⟨j,e,z,O,he,M,U⟩
 ·have:=hc v j O hi M;rw [M,U];exact this
 ·obtain ⟨V,hz⟩:=hE (PV.agg [PV.int ((j:Nat):Int),PV.int e]) z;rw [M,U];exact .er j e V O he rfl λ_ _=>hz
theorem PN.swap {α β R R' M Z Z':Type}{N:Nat}{t:List PV}{I:α->Nat->Prop}{I':β->Nat->Prop}{mk:α->Int->R}{H:R'->M}{d:PV×Z'->M}{o:β->Int->R'}{x:Rs α}{y:Nat->Option ((PV×Z)⊕R)}{f:α->List Tk->Rs β}{g:R->Option M}{E:PV×Z->Option M}
 (h:PN N t Sum.inr Sum.inl I mk x y) (hc:∀ v j,j<=t.length->I v j->x=.ok v (ts t j)->PG t H d I' o (f v (ts t j)) (g (mk v ((j:Nat):Int)))) (hE:∀ p z,∃ z',E (p,z)=some (d (p,z'))):
 PN N t H d I' o (x.bind f) (λn=>(y n).bind λz=>sumE E g z):=by
 rcases h with ⟨v,j,hj,hi,O,U⟩ | ⟨j,e,z,hj,he,O,U⟩
 ·have:=hc v j hj hi O;rw [O];rcases this with ⟨w,k,V,W,X,Y⟩ | ⟨k,e,z,V,W,X,Y⟩
  ·exact .ok w k V W X λn m=>by rw [U n m];exact Y
  ·exact .er k e z V W X λn m=>by rw [U n m];exact Y
 ·obtain ⟨z',hz⟩:=hE (PV.agg [PV.int ((j:Nat):Int),PV.int e]) z;rw [O];exact .er j e z' hj he rfl λn m=>by rw [U n m];exact hz
inductive PM {α β R S Z σ:Type} (N:Nat) (t:List PV) (st:β->Int->σ) (spec:List Tk->β->Rs α) (J:β->Nat->Prop) (ok:R->S) (er:PV×Z->S) (I:α->Nat->Prop) (mk:α->Int->R) (i:Nat) (x:Rs α) (y:Nat->Option (σ⊕S)):Prop
 | go (b:β) (j:Nat):i<j->j<=t.length->J b j->x=spec (ts t j) b->(∀ n,N<=n->y n=some (.inl (st b ((j:Nat):Int))))->PM N t st spec J ok er I mk i x y
 | done (v:α) (j:Nat):j<=t.length->I v j->x=.ok v (ts t j)->(∀ n,N<=n->y n=some (.inr (ok (mk v ((j:Nat):Int)))))->PM N t st spec J ok er I mk i x y
 | er (j:Nat) (e:Int) (z:Z):j<=t.length->e≠0->x=.er (ts t j) e->(∀ n,N<=n->y n=some (.inr (er (PV.agg [PV.int ((j:Nat):Int),PV.int e],z))))->PM N t st spec J ok er I mk i x y
section
variable {α β R S Z σ:Type}{N:Nat}{t:List PV}{st:β->Int->σ}{spec:List Tk->β->Rs α}{J:β->Nat->Prop}{ok:R->S}{er:PV×Z->S}{I:α->Nat->Prop}{mk:α->Int->R}{i:Nat}
theorem PM.loop {step:Nat->σ->Option (σ⊕S)} (h:∀ i b,i<=t.length->J b i->PM N t st spec J ok er I mk i (spec (ts t i) b) (λn=>step n (st b (i:Int)))):∀ (m i:Nat) (b:β),t.length-i<=m->i<=t.length->J b i->PN N t ok er I mk (spec (ts t i) b) (λn=>aa7 (step n) (st b (i:Int))):=by
 intro m;induction m with
 | zero=>
  intro i b hm X Y;rcases h i b X Y with ⟨b',j,o,d,_⟩ | ⟨v,j,o,d,H,M⟩ | ⟨j,e,z,o,d,H,M⟩
  ·omega
  ·exact .ok v j o d H λn O=>aaf (M n O)
  ·exact .er j e z o d H λn O=>aaf (M n O)
 | succ m ih=>
  intro i b hm X Y;rcases h i b X Y with ⟨b',j,o,d,H,M,h5⟩ | ⟨v,j,o,d,H,M⟩ | ⟨j,e,z,o,d,H,M⟩
  ·rw [M];rcases ih j b' (by omega) d H with ⟨v,k,U,V,W,g4⟩ | ⟨k,e,z,U,V,W,g4⟩
   ·exact .ok v k U V W λn O=>by grind [abd]
   ·exact .er k e z U V W λn O=>by grind [abd]
  ·exact .ok v j o d H λn O=>aaf (M n O)
  ·exact .er j e z o d H λn O=>aaf (M n O)
theorem PM.seq {d X Z0:Type}{I0:d->Nat->Prop}{V:d->Int->X}{x0:Rs d}{y0:Nat->Option (X⊕(PV×Z0))}{f:d->List Tk->Rs α}{g:X->Option (σ⊕S)}{E:PV×Z0->Option (σ⊕S)}
 (h:PN N t Sum.inl Sum.inr I0 V x0 y0) (hc:∀ v j,j<=t.length->I0 v j->x0=.ok v (ts t j)->PL t st spec J ok er I mk i (f v (ts t j)) (g (V v ((j:Nat):Int)))) (hE:∀ p z,∃ z',E (p,z)=some (.inr (er (p,z')))):
 PM N t st spec J ok er I mk i (x0.bind f) (λn=>(y0 n).bind λz=>sumE g E z):=by
 rcases h with ⟨v,j,Y,hi,W,U⟩ | ⟨j,e,z,Y,he,W,U⟩
 ·have:=hc v j Y hi W;rw [W];rcases this with ⟨w,k,o,H,M,O,h5⟩ | ⟨w,k,o,H,M,O⟩ | ⟨k,e,z,o,H,M,O⟩
  ·exact .go w k o H M O λn m=>by rw [U n m];exact h5
  ·exact .done w k o H M λn m=>by rw [U n m];exact O
  ·exact .er k e z o H M λn m=>by rw [U n m];exact O
 ·obtain ⟨z',hz⟩:=hE (PV.agg [PV.int ((j:Nat):Int),PV.int e]) z;rw [W];exact .er j e z' Y he rfl λn m=>by rw [U n m];exact hz
theorem PM.may (M:TOk t) (s:Bo) (k:Int) (H:kOf s=k) (j:Nat) (z:j<=t.length) (q:QF) {K:Nat->Bool×Q0->Option (σ⊕S)}{x1 d:Rs α}
 (m:isS k s (ts t j)=true->j+1<=t.length->PM N t st spec J ok er I mk i x1 (λn=>K n (true,(t,((j+1:Nat):Int),q)))) (o:isS k s (ts t j)=false->PM N t st spec J ok er I mk i d (λn=>K n (false,(t,(j:Int),q)))):
 PM N t st spec J ok er I mk i (bif isS k s (ts t j) then x1 else d) (λn=>(F91 0 () s (t,(j:Int),q)).bind (K n)):=by
 grind [ana,isS,ts,ad7]
theorem PM.sign (M:TOk t) (s:Bo) (k:Int) (H:kOf s=k) (j:Nat) (z:j<=t.length) (q:QF) {K:Nat->Bool×Q0->Option (σ⊕S)}{x1 d:Rs α}
 (m:isS k s (ts t j)=true->PM N t st spec J ok er I mk i x1 (λn=>K n (true,(t,(j:Int),q)))) (o:isS k s (ts t j)=false->PM N t st spec J ok er I mk i d (λn=>K n (false,(t,(j:Int),q)))):
 PM N t st spec J ok er I mk i (bif isS k s (ts t j) then x1 else d) (λn=>(F96 0 () s (t,(j:Int),q)).bind (K n)):=by
 grind [atc,isS,ts]
end
section
variable {t:List PV}
theorem a1z {α:Type} (a b:Bool) (x y:Rs α):(bif a||b then x else y)=bif a then x else (bif b then x else y):=by cases a<;>cases b<;>rfl
def MBok (L:Nat) (b:MB) (j:Nat):Prop:=b.fs.length<=j/\b.rs.length<=j/\b.gs.length<=j/\b.ms.length<=j/\b.es.length<=j/\L<=b.ms.length/\(∀ x,x∈b.fs->akd x)/\(∀ x,x∈b.ms->ak4 x)/\(∀ x,x∈b.es->ahf x)
theorem a4u (po:aey) (ht:TNum t) (h5:t.length<=100000) (N d:Nat) (a2:Nat) (ha:a2<=15) (k0:Int) (m:Bo) (Y:m.length<=120) (M O:Bo) (U H:List PV) (ad:List PV)
 (ih:∀ (i:Nat) (ms es:List PV),i<=t.length->ms.length<=i->es.length<=i->(∀ x,x∈ms->ak4 x)->(∀ x,x∈es->ahf x)->PN N t Sum.inl Sum.inr (λv j=>v.1.length<=j/\v.2.length<=j/\ms.length<=v.1.length/\(∀ x,x∈v.1->ak4 x)/\(∀ x,x∈v.2->ahf x)) (λv j=>((t,j,M,O,(),(),(),U,H,v.1,v.2):Q0)) (msgS parV aad d m ms es (ts t i)) (λn=>G97 0 n ((),m,(((a2+1:Nat)):Int),(t,(i:Int),M,O,(),(),(),U,H,ms,es))))
 (i:Nat) (b:MB) (V:i<=t.length) (L:Nat) (hJ:MBok L b i):
 PM N t (λ(b:MB) (j:Int)=>((),(a2:Int),k0,(),t,j,M,O,(),(),(),U,H,b.ms,b.es,m,b.fs,b.rs,b.gs,ad)) (λl b=>adu parV aad (msgS parV aad d) m l b) (MBok L) Sum.inr Sum.inl (MBok L)
  (λ(v:MB) (j:Int)=>((),k0,(),t,j,M,O,(),(),(),U,H,v.ms,v.es,m,v.fs,v.rs,v.gs,ad)) i (adu parV aad (msgS parV aad d) m (ts t i) b) (λn=>B97_9step 0 (G97 0 n) ((),(a2:Int),k0,(),t,(i:Int),M,O,(),(),(),U,H,b.ms,b.es,m,b.fs,b.rs,b.gs,ad)):=by
 have h0:=ht.toTOk
 obtain ⟨j1,j2,j3,j4,j5,j6,o1,o2,o3⟩:=hJ
 rw [auz parV aad _ (axv parV aad d),a1z]
 simp only [B97_9step,B97_9]
 refine PM.may h0 [125] 4 (by decide) i V (M,O,(),(),(),U,H,b.ms,b.es) (λ_ aa=>?_) (λ_=>?_)
 ·simp only [Ap,Ae,aa5];exact .done b (i+1) aa ⟨by omega,by omega,by omega,by omega,by omega,j6,o1,o2,o3⟩ rfl λ_ _=>rfl
 simp only [Ao,Ad]
 refine PM.sign h0 [117,110,105,111,110] 1 (by decide) i V (M,O,(),(),(),U,H,b.ms,b.es) (λ_=>?_) (λ_=>?_)
 ·simp only [Ad];refine PM.seq (bds po ht h5 i V (M,O,(),(),(),U,H,b.ms,b.es)).pn (λv j o X W=>?_) (λp z=>⟨_,rfl⟩);have ae:v.length+i<=j:=X.1;have q1:=ad5 V o (av0 parV aad _) W;have ec:decide (b.fs.length+v.length<=aai)=true:=accL (by omega);simp only [ec,Ad];exact .go { b with fs:=b.fs++v } j q1 o ⟨by simp;omega,by simp;omega,by simp;omega,by simp;omega,by simp;omega,j6,bd1 o1 X.2,o2,o3⟩ rfl rfl
 simp only [Ae]
 refine PM.sign h0 [109,101,115,115,97,103,101] 1 (by decide) i V (M,O,(),(),(),U,H,b.ms,b.es) (λ_=>?_) (λ_=>?_)
 ·simp only [Ad];have w:IntKind.wrap .i64 ((a2:Int)+1)=((a2+1:Nat):Int):=abx (by omega);simp only [w];refine PM.seq (ih i b.ms b.es V j4 j5 o2 o3) (λv j o X W=>?_) (λp z=>⟨_,rfl⟩);have q1:=ad5 V o (axv parV aad d _ _ _ _) W;exact .go { b with ms:=v.1,es:=v.2 } j q1 o ⟨by simp;omega,by simp;omega,by simp;omega,X.1,X.2.1,Nat.le_trans j6 X.2.2.1,o1,X.2.2.2.1,X.2.2.2.2⟩ rfl rfl
 simp only [Ae]
 refine PM.sign h0 [101,110,117,109] 1 (by decide) i V (M,O,(),(),(),U,H,b.ms,b.es) (λ_=>?_) (λ_=>?_)
 ·simp only [Ap,Ae,Ad];refine PM.seq (ao0 po ht h5 m Y i V M O U H b.ms b.es (by omega)).pn (λv j o ab W=>?_) (λp z=>⟨_,rfl⟩);have q1:=ad5 V o (akl parV aad _ _) W;exact .go { b with es:=b.es++[v] } j q1 o ⟨by simp;omega,by simp;omega,by simp;omega,by simp;omega,by simp;omega,j6,o1,o2,aft o3 ab⟩ rfl rfl
 simp only [Ao,Ad,Ae]
 refine PM.sign h0 [111,112,101,110] 1 (by decide) i V (M,O,(),(),(),U,H,b.ms,b.es) (λ_=>?_) (λ_=>?_)
 ·simp only [Ad];refine PM.seq (ao0 po ht h5 m Y i V M O U H b.ms b.es (by omega)).pn (λv j o ab W=>?_) (λp z=>⟨_,rfl⟩);have q1:=ad5 V o (akl parV aad _ _) W;exact .go { b with es:=b.es++[v] } j q1 o ⟨by simp;omega,by simp;omega,by simp;omega,by simp;omega,by simp;omega,j6,o1,o2,aft o3 ab⟩ rfl rfl
 simp only [Ae]
 refine PM.may h0 [114,101,115,101,114,118,101,100] 1 (by decide) i V (M,O,(),(),(),U,H,b.ms,b.es) (λ_ aa=>?_) (λ_=>?_)
 ·simp only [Ad,aa5,afd t (i+1) (M,O,(),(),(),U,H,b.ms,b.es),Aa];cases h3:(aa0 (ts t (i+1))==3) with
  | true=>simp only [Ad];refine PM.seq (be3 t h0 h5 (i+1) aa (M,O,(),(),(),U,H,b.ms,b.es)).pn (λv j o X W=>?_) (λp z=>⟨_,rfl⟩);have ae:v.length+(i+1)<=j:=X;have ec:decide (b.gs.length+v.length<=aai)=true:=accL (by omega);simp only [ec,Ad];exact .go { b with gs:=b.gs++v } j (by omega) o ⟨by simp;omega,by simp;omega,by simp;omega,by simp;omega,by simp;omega,j6,o1,o2,o3⟩ rfl rfl
  | false=>simp only [Ae];refine PM.seq (ayk h0 ht.num h5 65535 (by decide) (i+1) aa (M,O,(),(),(),U,H,b.ms,b.es)).pn (λv j o X W=>?_) (λp z=>⟨_,rfl⟩);have ae:v.length+(i+1)<=j:=X;have ec:decide (b.rs.length+v.length<=aai)=true:=accL (by omega);simp only [ec,Ad];exact .go { b with rs:=b.rs++v } j (by omega) o ⟨by simp;omega,by simp;omega,by simp;omega,by simp;omega,by simp;omega,j6,o1,o2,o3⟩ rfl rfl
 ·simp only [Ae];refine PM.seq (a99 po t ht i V (M,O,(),(),(),U,H,b.ms,b.es)).pg.pn (λv j o _ W=>?_) (λp z=>⟨_,rfl⟩);have q1:=ad5 V o (auj parV aad _) W;have ec:decide (b.fs.length+[v].length<=aai)=true:=accL (by simp;omega);simp only [ec,Ad];have af:akd v:=⟨bey (bh9 ht i) W,by have:=a98 W;rw [aej] at this;omega⟩;exact .go { b with fs:=b.fs++[v] } j q1 o ⟨by simp;omega,by simp;omega,by simp;omega,by simp;omega,by simp;omega,j6,aft o1 af,o2,o3⟩ rfl rfl
theorem bmo (po:aey) (ht:TNum t) (h5:t.length<=100000) (V W:Bo) (X U:List PV):∀ (d O:Nat),O+d=16->∀ (o:Bo),o.length<=120->∀ (i:Nat) (ms es:List PV),i<=t.length->ms.length<=i->es.length<=i->(∀ x,x∈ms->ak4 x)->(∀ x,x∈es->ahf x)->
 PN (d+1) t Sum.inl Sum.inr (λv j=>v.1.length<=j/\v.2.length<=j/\ms.length<=v.1.length/\(∀ x,x∈v.1->ak4 x)/\(∀ x,x∈v.2->ahf x)) (λv j=>((t,j,V,W,(),(),(),X,U,v.1,v.2):Q0)) (msgS parV aad d o ms es (ts t i)) (λn=>G97 0 n ((),o,((O:Nat):Int),(t,(i:Int),V,W,(),(),(),X,U,ms,es))):=by
 have h0:=ht.toTOk
 intro d
 induction d with
 | zero=>
  intro O ha o ho i ms es hi hm he om oe
  have hd:decide (((O:Nat):Int)>=16)=true:=Aj (by omega)
  refine .er i 17 (t,(i:Int),V,W,(),(),(),X,U,ms,es) hi (by decide) rfl λn hn=>?_
  obtain ⟨m,rfl⟩:∃ m,n=m+1:=⟨n-1,by omega⟩
  simp only [G97,B97,hd,Ad]
 | succ d ih=>
  intro O ha o ho i ms es hi hm he om oe
  have hd:decide (((O:Nat):Int)>=16)=false:=Am (by omega)
  refine PN.shift (y:=λn=>B97 0 (G97 0 n) () o ((O:Nat):Int) (t,(i:Int),V,W,(),(),(),X,U,ms,es)) ?_ λn=>rfl
  simp only [B97,hd,Ae]
  unfold msgS
  refine PN.seq (ae0 [109,101,115,115,97,103,101] 1 (by decide) t h0 i hi (V,W,(),(),(),X,U,ms,es)).pg (λ_ j hj _ hx=>?_) (λp z=>⟨_,rfl⟩)
  have q1:=ad5 hi hj (abv _ _ _) hx
  refine PN.seq (aqu o ho t h0 j hj V W X U ms es) (λH k hk M ah=>?_) (λp z=>⟨_,rfl⟩)
  have q2:=ad5 hj hk (ao7 _ _) ah
  have ec:∀ x:PV,decide (ms.length+[x].length<=aai)=true:=λx=>accL (by simp;omega)
  simp only [ec,Ad]
  refine PN.seq (ag3 po t ht.toTNm k hk (V,W,(),(),(),X,U,ms++[aqs H [] [] [] []],es)).pg (λaa l hl _ ad=>?_) (λp z=>⟨_,rfl⟩)
  have ag:=af2 h5 ad
  have q3:=bh8 hk hl (agj parV aad _) ad
  refine PN.seq (ae0 [123] 4 (by decide) t h0 l hl (V,W,(),(),(),X,U,ms++[aqs H [] [] [] []],es)).pg (λ_ m ab _ ai=>?_) (λp z=>⟨_,rfl⟩)
  have q4:=ad5 hl ab (abv _ _ _) ai
  simp only [aaq]
  have lp:=PM.loop (step:=λn=>B97_9step 0 (G97 0 n)) (λi' b af hJ=>a4u po ht h5 (d+1) d O (by omega) (ms.length:Int) H M V W X U aa (λi2 aj ae h1 h2 h3 h4 h6=>ih (O+1) (by omega) H M i2 aj ae h1 h2 h3 h4 h6) i' b af (ms.length+1) hJ) t.length m ⟨[],[],[],ms++[aqs H [] [] [] []],es⟩ (by omega) ab ⟨by simp,by simp,by simp,by simp;omega,show es.length<=m by omega,by simp,all_nil,aft om ⟨Nat.zero_le _,all_nil,Nat.zero_le _,Nat.zero_le _,Nat.zero_le _,all_nil⟩,oe⟩
  refine PN.swap lp (λv n hn hv al=>?_) (λp z=>⟨_,rfl⟩)
  obtain ⟨g1,g2,g3,g4,g5,Y,p1,p2,p3⟩:=hv
  have Y:ms.length<v.ms.length:=Y
  have ak:ak4 (aqs H v.fs v.rs v.gs aa):=⟨show v.fs.length<=100000 by omega,p1,show v.rs.length<=100000 by omega,show v.gs.length<=100000 by omega,ag⟩
  have r0:aaa (ms.length:Int) v.ms.length=true:=by rw [aab];grind
  simp only [r0,Ad,Ah]
  exact .ok (v.ms.set ms.length (aqs H v.fs v.rs v.gs aa),v.es) n hn ⟨by simp;exact g4,g5,by simp;omega,λx hx=>by rcases List.mem_or_eq_of_mem_set hx with hx | rfl;all_goals simp_all,p3⟩ rfl rfl
end
end Go.Ab
namespace Go.Ab
open Go
set_option maxRecDepth 100000
noncomputable section
section
variable {t:List PV}
theorem bj7 (Z:aey) (W:TNum t) (M:t.length<=100000) (m o:Bo) (H d:List PV) (i:Nat) (ms es:List PV) (U:i<=t.length) (V:ms.length<=i) (O:es.length<=i) (Y:∀ x,x∈ms->ak4 x) (X:∀ x,x∈es->ahf x):
 PG t Sum.inl Sum.inr (λv j=>v.1.length<=j/\v.2.length<=j/\ms.length<=v.1.length/\(∀ x,x∈v.1->ak4 x)/\(∀ x,x∈v.2->ahf x)) (λv j=>((t,j,m,o,(),(),(),H,d,v.1,v.2):Q0)) (msgS parV aad 16 [] ms es (ts t i)) (F97 0 () [] (0:Int) (t,(i:Int),m,o,(),(),(),H,d,ms,es)):=
 (bmo Z W M m o H d 16 0 (by omega) [] (by simp) i ms es U V O Y X).pg λz h=>a6j 17 h
theorem az8 (U:TOk t) (h5:t.length<=100000) (d m:Bo) (o ms es:List PV) (i:Nat) (M:i<=t.length):
 PG t Sum.inr Sum.inl (λv j=>v.length<=j) (λv (j:Int)=>((),((t,j,d,m,(),(),(),o,v,ms,es):Q0))) (ady (ts t i) []) (aa7 (S44_4step 0) ((),(t,(i:Int),d,m,(),(),(),o,[],ms,es))):=by
 refine PL.loop (t:=t) (st:=λ(b:List PV) (j:Int)=>((),((t,j,d,m,(),(),(),o,b,ms,es):Q0))) (spec:=λl b=>ady l b) (J:=λb j=>b.length<=j) (step:=S44_4step 0) (λi b M Y=>?_) t.length i [] (by omega) M (by simp)
 have X:∀ x:PV,decide (b.length+[x].length<=aai)=true:=λx=>accL (by simp;omega)
 show PL t _ _ _ _ _ _ _ i (ady (ts t i) b) _
 rw [ajo]
 simp only [S44_4step,S44_4]
 refine PL.may U [105,109,112,111,114,116] 1 (by decide) i M (d,m,(),(),(),o,b,ms,es) (λ_ H=>?_) (λ_=>?_)
 ·simp only [Ad,aa5];refine PL.seq (ahi t U (i+1) H (d,m,(),(),(),o,b,ms,es)).pg (λs j O _ Z=>?_) (λp z=>⟨_,rfl⟩);have q1:=ad5 H O (ad6 _) Z;simp only [X,Ad];refine PL.seq (ae0 [59] 4 (by decide) t U j O (d,m,(),(),(),o,b++[PV.str s],ms,es)).pg (λ_ k W _ V=>?_) (λp z=>⟨_,rfl⟩);have q2:=ad5 O W (abv _ _ _) V;exact .go (b++[PV.str s]) k (by omega) W (by simp;omega) rfl rfl
 ·simp only [Ae];exact .done b i M Y rfl rfl
def FBok (b:FB) (j:Nat):Prop:=b.ms.length<=j/\b.es.length<=j/\b.ss.length<=j/\(∀ x,x∈b.ms->ak4 x)/\(∀ x,x∈b.es->ahf x)/\(∀ x,x∈b.ss->bhr x)
theorem beo (po:aey) (Y:TNum t) (h5:t.length<=100000) (O U:Bo) (M:List PV) (i:Nat) (m:i<=t.length):
 PG t Sum.inr Sum.inl FBok (λ(v:FB) (j:Int)=>((t,j,O,U,(),(),(),v.ss,M,v.ms,v.es):Q0)) (af7 parV aad (ts t i) ⟨[],[],[]⟩) (aa7 (S44_7step 0) ((),(t,(i:Int),O,U,(),(),(),[],M,[],[]))):=by
 have h0:=Y.toTOk
 refine PL.loop (t:=t) (st:=λ(b:FB) (j:Int)=>((),((t,j,O,U,(),(),(),b.ss,M,b.ms,b.es):Q0))) (spec:=λl b=>af7 parV aad l b) (J:=FBok) (step:=S44_7step 0) (λi b m hJ=>?_) t.length i ⟨[],[],[]⟩ (by omega) m ⟨by simp,by simp,by simp,all_nil,all_nil,all_nil⟩
 obtain ⟨j1,j2,j3,Z,o2,o3⟩:=hJ
 show PL t _ _ _ _ _ _ _ i (af7 parV aad (ts t i) b) _
 rw [amu,a1z]
 simp only [S44_7step,S44_7]
 by_cases aa:i<t.length
 ·have d:decide ((i:Int)<(t.length:Int))=true:=Aj (by omega);have V:(ts t i).isEmpty=false:=by grind [ae9]
  rw [d,V];simp only [Ad,Ae];refine PL.sign h0 [109,101,115,115,97,103,101] 1 (by decide) i m (O,U,(),(),(),b.ss,M,b.ms,b.es) (λ_=>?_) (λ_=>?_)
  ·simp only [Ad];refine PL.seq (bj7 po Y h5 O U b.ss M i b.ms b.es m j1 j2 Z o2) (λv j o hv W=>?_) (λp z=>⟨_,rfl⟩);have X:=ad5 m o (axv parV aad 16 _ _ _ _) W;exact .go { b with ms:=v.1,es:=v.2 } j X o ⟨hv.1,hv.2.1,by simp;omega,hv.2.2.2.1,hv.2.2.2.2,o3⟩ rfl rfl
  simp only [Ae];refine PL.sign h0 [101,110,117,109] 1 (by decide) i m (O,U,(),(),(),b.ss,M,b.ms,b.es) (λ_=>?_) (λ_=>?_)
  ·simp only [Ap,Ae,Ad];refine PL.seq (ao0 po Y h5 [] (by simp) i m O U b.ss M b.ms b.es (by omega)) (λv j o H W=>?_) (λp z=>⟨_,rfl⟩);have X:=ad5 m o (akl parV aad _ _) W;exact .go { b with es:=b.es++[v] } j X o ⟨by simp;omega,by simp;omega,by simp;omega,Z,aft o2 H,o3⟩ rfl rfl
  simp only [Ao,Ad,Ae];refine PL.sign h0 [111,112,101,110] 1 (by decide) i m (O,U,(),(),(),b.ss,M,b.ms,b.es) (λ_=>?_) (λ_=>?_)
  ·simp only [Ad];refine PL.seq (ao0 po Y h5 [] (by simp) i m O U b.ss M b.ms b.es (by omega)) (λv j o H W=>?_) (λp z=>⟨_,rfl⟩);have X:=ad5 m o (akl parV aad _ _) W;exact .go { b with es:=b.es++[v] } j X o ⟨by simp;omega,by simp;omega,by simp;omega,Z,aft o2 H,o3⟩ rfl rfl
  ·simp only [Ae];refine PL.seq (bku po Y h5 i m O U b.ss M b.ms b.es (by omega)) (λv j o H W=>?_) (λp z=>⟨_,rfl⟩);have X:=ad5 m o (bia parV aad _) W;exact .go { b with ss:=b.ss++[v] } j X o ⟨by simp;omega,by simp;omega,by simp;omega,Z,o2,aft o3 H⟩ rfl rfl
 ·have d:decide ((i:Int)<(t.length:Int))=false:=Am (by omega);have V:(ts t i).isEmpty=true:=by grind [ah5]
  rw [d,V];simp only [Ad,Ae];exact .done b i m ⟨j1,j2,j3,Z,o2,o3⟩ rfl rfl
def as9 (l:List Tk):Rs (Bo×List PV×FB):=(ate l).bind λz r=>(ady r []).bind λd m=>(af7 parV aad m ⟨[],[],[]⟩).bind λb o=>.ok (z,d,b) o
theorem a5s (d:Bo) (l:List Tk):bac parV aad d l=(as9 l).bind λv r=>.ok (PV.agg [PV.str d,PV.str v.1,PV.slice v.2.1,PV.slice v.2.2.ms,PV.slice v.2.2.es,PV.slice v.2.2.ss]) r:=by unfold bac as9;simp only [Rs.bind_assoc,Rs.bind_ok]
def a8n (n:Nat) (v:Bo×List PV×FB) (j:Nat):Prop:=v.2.1.length<=n/\FBok v.2.2 n
theorem fb_le {b:FB}{j n:Nat} (h:FBok b j) (d:j<=n):FBok b n:=⟨Nat.le_trans h.1 d,Nat.le_trans h.2.1 d,Nat.le_trans h.2.2.1 d,h.2.2.2⟩
theorem axa (po:aey) (ht:TNum t) (X:t.length<=100000) (o d:Bo) (i:Nat) (hi:i<=t.length):
 PG t Sum.inl Sum.inr (a8n t.length) (λ(v:Bo×List PV×FB) (j:Int)=>((t,j,o,v.1,(),(),(),v.2.2.ss,v.2.1,v.2.2.ms,v.2.2.es):Q0)) ((ady (ts t i) []).bind λm r2=>(af7 parV aad r2 ⟨[],[],[]⟩).bind λb r3=>.ok (d,m,b) r3)
  ((aa7 (S44_4step 0) ((),(t,(i:Int),o,d,(),(),(),[],[],[],[]))).bind λz=>sumE (λO=>some (.inr O)) (λU=>(aa7 (S44_7step 0) ((),U.2)).bind λz=>sumE (λV=>some (.inr V)) (λW=>some (.inl W)) z) z):=by
 refine PG.swap (az8 ht.toTOk X o d [] [] [] i hi) (λm j Y M _=>?_) (λp z=>⟨_,rfl⟩)
 refine PG.swap (beo po ht X o d m j Y) (λb k Z H _=>?_) (λp z=>⟨_,rfl⟩)
 exact .ok (d,m,b) k Z ⟨Nat.le_trans M Y,fb_le H Z⟩ rfl rfl
theorem bez (V:aey) (H:TNum t) (O:t.length<=100000) (d:Bo):
 PG t Sum.inl Sum.inr (a8n t.length) (λ(v:Bo×List PV×FB) (j:Int)=>((t,j,d,v.1,(),(),(),v.2.2.ss,v.2.1,v.2.2.ms,v.2.2.es):Q0)) (as9 (ts t 0)) (F44 0 () (t,(0:Int),d,[],(),(),(),[],[],[],[])):=by
 have m:=H.toTOk
 unfold F44 as9 ate
 rw [show (0:Int)=((0:Nat):Int) from rfl,ana [115,112,97,99,101] 1 (by decide) t m 0 (by omega) (d,[],(),(),(),[],[],[],[]),Aa]
 simp only [aaq]
 cases h:isS 1 [115,112,97,99,101] (ts t 0) with
 | true=>
  simp only [Ad,Rs.bind_assoc,Rs.bind_ok,aa5]
  refine PG.seq (bg6 t m 1 (ad7 h) (d,[],(),(),(),[],[],[],[])).pg (λM j o _ _=>?_) (λp z=>⟨_,rfl⟩)
  refine PG.seq (ae0 [59] 4 (by decide) t m j o (d,M,(),(),(),[],[],[],[])).pg (λ_ k U _ _=>?_) (λp z=>⟨_,rfl⟩)
  grind [axa]
 | false=>
  simp only [Ae,Rs.bind_ok]
  grind [axa]
end
def bhq:PV:=PV.agg [PV.str [],PV.str [],PV.slice [],PV.slice [],PV.slice [],PV.slice []]
def bmd (xs:List PV) (j:Nat):Int:=((xs.getD (if xs.length-1<j then xs.length-1 else j) .bad).fld 3).asInt
def bjd (d:Bo) (xs:List PV):PV×Int×Int:=
 match bac parV aad d (ts xs 0) with
 | .ok v _=>(v,0,0)
 | .er r e=>(bhq,bmd xs (xs.length-r.length),e)
theorem bce:∃ v,as9 []=.ok v []:=by refine ⟨([],[],⟨[],[],[]⟩),?_⟩;unfold as9 ate;rw [show isS 1 [115,112,97,99,101] []=false from rfl,Ae,Rs.bind_ok,ajo,show isS 1 [105,109,112,111,114,116] []=false from rfl,Ae,Rs.bind_ok,amu];rfl
theorem ax1 (po:aey) (d m:Bo) (xs:List PV) (l0:Int) (hs:F28 0 m=some (xs,l0,0)) (ht:TNum xs) (Z:xs.length<=100000):F15 0 d m=some (bjd d xs):=by
 unfold F15 bjd;rw [hs,Aa,a5s];simp only [show ((0:Int) != 0)=false from rfl,Ae];unfold F43;rcases bez po ht Z d with ⟨v,j,hj,_,o,H⟩ | ⟨j,e,z,hj,M,o,H⟩
 ·rw [H,o,Rs.bind_ok];rfl
 ·rw [H,o,Rs.bind_er];have aa:0<xs.length:=by
   grind [Nat.eq_zero_or_pos,ah5,bce]
  have w:IntKind.wrap .i64 ((xs.length:Int)-1)=((xs.length-1:Nat):Int):=by grind [adx]
  have O:((((PV.agg [PV.int ((j:Nat):Int),PV.int e]).fld 1).asInt) != (0:Int))=true:=bneI M;have U:((PV.agg [PV.int ((j:Nat):Int),PV.int e]).fld 0).asInt=(j:Int):=rfl;have V:((PV.agg [PV.int ((j:Nat):Int),PV.int e]).fld 1).asInt=e:=rfl;have W:(if ((xs.length-1:Nat):Int)<(j:Int) then ((xs.length-1:Nat):Int) else (j:Int))=((if xs.length-1<j then xs.length-1 else j:Nat):Int):=by grind
  have X:aaa ((if xs.length-1<j then xs.length-1 else j:Nat):Int) xs.length=true:=by grind [aab,decide_eq_true]
  have Y:xs.length-(ts xs j).length=j:=by rw [aej];omega
  simp only [Aa,aba,O,U,V,w,W,X,Ad,Ah,Y,bneI M];rfl
end
end Go.Ab
namespace Go.Ab
open Go
set_option maxRecDepth 100000
noncomputable section
def nm1 (s:Bo):Tk:=⟨1,s,0⟩
def sg1 (c:UInt8):Tk:=⟨4,[c],0⟩
def nu1 (n:Int):Tk:=⟨2,[],IntKind.wrap .i64 (n.toNat:Int)⟩
def tx1 (s:Bo):Tk:=⟨3,s,0⟩
theorem alu {s:Bo}{l:List Tk} (h:TksT s l):TksT (10::s) l:=.sp (Or.inr rfl) h
theorem afw (c:UInt8) (d:avo c=true) {s:Bo}{l:List Tk} (h:TksT s l):TksT (c::s) (sg1 c::l):=.tok (t:=[c]) (.sign d) h
theorem am7 {t s:Bo}{l:List Tk} (h:ac5 t=true) (d:endN s) (m:TksT s l):TksT (t++s) (nm1 t::l):=.tok (.name h d) m
theorem axm {n:Int} (o:0<=n) (z:n<=2147483647) {s:Bo}{l:List Tk} (d:endI s) (m:TksT s l):TksT (numT n++s) (nu1 n::l):=.tok (.int (u:=n.toNat) (by omega) d) m
theorem ao5 {t s:Bo}{l:List Tk} (h:t.length<=1048576) (d:TksT s l):TksT (abi t++s) (tx1 t::l):=.tok (.text h) d
theorem acx (w:Bo) (m:ac5 w=true) {s:Bo}{l:List Tk} (d:TksT s l):TksT (w++32::s) (nm1 w::l):=am7 m (abl (by decide) (by decide)) (aca d)
def afx (k:Int) (v:PV):List Tk:=
 bif k==0 then [nm1 (abn v)]
 else bif k==1 then [nm1 (bif aam v==1 then [116,114,117,101] else [102,97,108,115,101])]
 else bif k==7 then [tx1 (abn v)]
 else bif k==6||k==8 then [tx1 (af5 v)]
 else bif k==2||k==3 then aka (IntKind.wrap .i64 (aam v))
 else [nu1 (aam v)]
theorem bdg {k:Int} (z:k=1\/k=2\/k=3\/k=4\/k=5\/k=7) {v:PV} (O:aea v) (M:ac4 k v=true) {s:Bo}{l:List Tk} (m:endN s) (d:TksT s l):TksT (amm v++s) (afx k v++l):=by
 rw [a3z M];obtain ⟨_,H,U,V⟩:=O;have o:-9223372036854775808<=IntKind.wrap .i64 (aam v)/\IntKind.wrap .i64 (aam v)<=9223372036854775807:=by rw [IntKind.wrap_i64];omega
 rcases z with rfl | rfl | rfl | rfl | rfl | rfl
 ·show TksT ((bif aam v==1 then [116,114,117,101] else [102,97,108,115,101])++s) (nm1 (bif aam v==1 then [116,114,117,101] else [102,97,108,115,101])::l);cases (aam v==1) with
  | true=>exact am7 (t:=[116,114,117,101]) (by decide) m d
  | false=>exact am7 (t:=[102,97,108,115,101]) (by decide) m d
 ·exact aur o.1 o.2 (an4 m) d
 ·exact aur o.1 o.2 (an4 m) d
 ·exact .tok (.int (u:=(aam v).toNat) (by omega) (an4 m)) d
 ·exact .tok (.int (u:=(aam v).toNat) (by omega) (an4 m)) d
 ·exact ao5 H d
theorem bj1 {k:Int} (z:1<=k) (H:k<=8) {v:PV} (V:aea v) (m:ac4 k v=true) {s:Bo}{l:List Tk} (M:endN s) (U:TksT s l):TksT (litT v++s) (afx k v++l):=by
 rw [bjz m (by omega)];by_cases d:k=6\/k=8
 ·have e:((k==6)||(k==8))=true:=by grind
  have o:afx k v=[tx1 (af5 v)]:=by rcases d with rfl | rfl<;>rfl
  rw [e,o];have O:=(act m).1;grind [ao5,a1j]
 ·have e:((k==6)||(k==8))=false:=by
   grind
  rw [e,a33 m,beqI (show k≠6 by omega),beqI (show k≠8 by omega)];grind [bdg]
def ae3:List PV->List Tk
 | []=>[]
 | a::l=>sg1 91::(nTks a++ai6 l)
theorem bkh:∀ l:List PV,l.all abk=true->(∀ n,n∈l->acj n)->∀ {s:Bo}{r:List Tk},TksT s r->TksT (ag9 l++93::s) (ai6 l++r):=by
 intro l;induction l with
 | nil=>intro _ _ s r m;exact afw 93 (by decide) m
 | cons a l M=>
  intro d o s r m;simp only [A8,Ag] at d;simp only [ag9,ai6,An,As,At];have z:endN (ag9 l++93::s):=by
   cases l with
   | nil=>exact abl (by decide) (by decide)
   | cons y q=>exact abl (by decide) (by decide)
  exact afw 44 (by decide) (aca (a3e d.1 (o a (by simp)) z (M d.2 (λn H=>o n (by simp [H])) m)))
theorem apb {l:List PV} (d:l.all abk=true) (o:∀ n,n∈l->acj n) {s:Bo}{r:List Tk} (m:TksT s r):TksT (ab9 l++s) (ae3 l++r):=by
 cases l with
 | nil=>exact m
 | cons a l=>
  have z:(((a::l).length:Int)==(0:Int))=false:=by grind
  have e:ab9 (a::l)++s=32::91::(afj a++(ag9 l++93::s)):=by unfold ab9;rw [z,show a1i (a::l)=bif (a::l).all abk then [91]++(afj a++ag9 l)++[93] else [] from rfl,d];simp
  simp only [A8,Ag] at d;have H:endN (ag9 l++93::s):=by
   cases l with
   | nil=>exact abl (by decide) (by decide)
   | cons y q=>exact abl (by decide) (by decide)
  rw [e];simp only [ae3,An,As];exact aca (afw 91 (by decide) (a3e d.1 (o a (by simp)) H (bkh l d.2 (λn M=>o n (by simp [M])) m)))
def apz (c:Int):Bo:=bif c==1 then [114,101,113,117,105,114,101,100] else bif c==2 then [111,112,116,105,111,110,97,108] else bif c==3 then [112,108,97,105,110] else [108,105,115,116]
theorem bin (c:Int) {s:Bo}{l:List Tk} (d:TksT s l):TksT (azk c++s) (nm1 (apz c)::l):=by
 unfold azk apz;cases (c==1)<;>cases (c==2)<;>cases (c==3)<;>simp only [Ad,Ae];all_goals first
  | exact acx [114,101,113,117,105,114,101,100] (by decide) d
  | exact acx [111,112,116,105,111,110,97,108] (by decide) d
  | exact acx [112,108,97,105,110] (by decide) d
  | exact acx [108,105,115,116] (by decide) d
def az4 (x:PV):List Tk:=
 bif (x.fld 2).asInt==5 then [nm1 [109,97,112],sg1 60,nm1 (kw (x.fld 3).asInt),sg1 44,nm1 (afa (x.fld 4)),sg1 62]
 else bif (x.fld 5).asStr==[] then [nm1 (apz (x.fld 2).asInt),nm1 (afa (x.fld 4))] else [nm1 (afa (x.fld 4))]
theorem bjk {x:PV} (g:RowGood x) {s:Bo}{l:List Tk} (o:TksT s l):TksT (bao x++32::s) (az4 x++l):=by
 have z:=ayz g.type;have m:TksT (afa (x.fld 4)++32::s) (nm1 (afa (x.fld 4))::l):=acx _ z o;unfold bao az4;by_cases d:(x.fld 2).asInt=5
 ·have H:=key5 (by have:=g.key;rw [d] at this;exact this);rw [d];show TksT (([109,97,112,60]++(kw (x.fld 3).asInt++([44,32]++(afa (x.fld 4)++[62]))))++32::s) _;simp only [An,As,At];exact am7 (t:=[109,97,112]) (by decide) (abl (by decide) (by decide)) (afw 60 (by decide) (am7 (bbc H) (abl (by decide) (by decide)) (afw 44 (by decide) (aca (am7 z (abl (by decide) (by decide)) (afw 62 (by decide) (aca o)))))))
 ·rw [beqI d];cases ((x.fld 5).asStr==([]:Bo)) with
  | true=>simp only [Ae,Ad,An];exact bin _ m
  | false=>grind
def dfK (x:PV):List Tk:=bif (x.fld 6).asBool then nm1 [100,101,102,97,117,108,116]::afx ((x.fld 4).fld 0).asInt (x.fld 7) else []
theorem biu {x:PV} (g:RowGood x) (H:(x.fld 6).asBool=true) {s:Bo}{l:List Tk} (M:endN s) (O:TksT s l):TksT (litT (x.fld 7)++s) (afx ((x.fld 4).fld 0).asInt (x.fld 7)++l):=by
 have d:=g.right;unfold amg at d;rw [H] at d;simp only [Ap,Ae] at d;cases z:((x.fld 2).asInt==5) with
 | true=>grind
 | false=>
  rw [z] at d;simp only [Ae] at d;cases m:(((x.fld 4).fld 0).asInt==0) with
  | true=>
   rw [m] at d;have d:aln (x.fld 7)=true:=d;have e:litT (x.fld 7)=abn (x.fld 7):=by grind [litT]
   have V:afx ((x.fld 4).fld 0).asInt (x.fld 7)=[nm1 (abn (x.fld 7))]:=by grind [afx]
   unfold aln at d;simp only [Ag] at d;grind [am7,aja]
  | false=>
   rw [m] at d;simp only [Ae,Ag] at d;have o:=g.type;have U:((x.fld 4).fld 0).asInt≠0:=by grind
   exact bj1 (by have:=o.2.1;omega) o.2.2 g.ok.ok.dflt d.1 M O
def avv (x:PV):List Tk:=nm1 (x.fld 1).asStr::sg1 61::nu1 (x.fld 0).asInt::(dfK x++(ae3 (x.fld 8).asList++[sg1 59]))
def rowK (x:PV):List Tk:=az4 x++avv x
theorem bm3 {x:PV} (g:RowGood x) {s:Bo}{l:List Tk} (M:TksT s l):TksT (rowT x++s) (rowK x++l):=by
 have ok:=g.ok;have m:TksT (ab9 (x.fld 8).asList++59::s) (ae3 (x.fld 8).asList++sg1 59::l):=apb g.nt ok.ok.note (afw 59 (by decide) M);have d:endN (ab9 (x.fld 8).asList++59::s):=ang _ (by decide) (by decide) _;have z:TksT ((bif (x.fld 6).asBool then [32,100,101,102,97,117,108,116,32]++litT (x.fld 7) else [])++(ab9 (x.fld 8).asList++59::s)) (dfK x++(ae3 (x.fld 8).asList++sg1 59::l)):=by
  unfold dfK;cases o:(x.fld 6).asBool with
  | true=>simp only [Ad,An,As,At];exact aca (acx [100,101,102,97,117,108,116] (by decide) (biu g o d m))
  | false=>exact m
 have H:endI ((bif (x.fld 6).asBool then [32,100,101,102,97,117,108,116,32]++litT (x.fld 7) else [])++(ab9 (x.fld 8).asList++59::s)):=by
  cases (x.fld 6).asBool with
  | true=>exact aw2 (by decide)
  | false=>exact an4 d
 unfold rowT rowK avv;simp only [An,As,At];exact bjk g (am7 (aja g.name) (abl (by decide) (by decide)) (aca (afw 61 (by decide) (aca (axm ok.num0 (by have:=ok.num1;omega) H z)))))
def ar9 (u v:Bo):List Tk:=(bif !(u==[])&&!(v==u) then [sg1 125] else [])++(bif !(v==[])&&!(v==u) then [nm1 [117,110,105,111,110],nm1 v,sg1 123] else [])
theorem bks (u:Bo) {x:PV} (g:RowGood x) {s:Bo}{l:List Tk} (z:TksT s l):TksT (aym u x++s) (ar9 u (uT x)++(rowK x++l)):=by
 have M:TksT (rowT x++(10::s)) (rowK x++l):=bm3 g (alu z);unfold aym bf6 ar9;simp only [An,As,At];have d:TksT ((bif (uT x==[]) then [32,32] else [32,32,32,32])++(rowT x++10::s)) (rowK x++l):=by grind [uT,aca]
 have m:TksT ((bif !(uT x==[])&&!(uT x==u) then [32,32,117,110,105,111,110,32]++(uT x++[32,123,10]) else [])++((bif (uT x==[]) then [32,32] else [32,32,32,32])++(rowT x++10::s))) ((bif !(uT x==[])&&!(uT x==u) then [nm1 [117,110,105,111,110],nm1 (uT x),sg1 123] else [])++(rowK x++l)):=by
  cases o:(uT x==([]:Bo)) with
  | true=>grind
  | false=>
   rw [o] at d;have H:uT x≠[]:=by simpa using o
   cases (uT x==u) with
   | true=>exact d
   | false=>simp only [Ao,Bool.and_self,Ad,An,As,At];exact aca (aca (acx [117,110,105,111,110] (by decide) (acx _ (aja (g.union H)) (afw 123 (by decide) (alu d)))))
 simp only [An,As,At] at m;cases (!(u==[])&&!(uT x==u)) with
 | true=>exact aca (aca (afw 125 (by decide) (alu m)))
 | false=>exact m
def ab1:Bo->List PV->List Tk
 | _,[]=>[]
 | u,x::r=>ar9 u (uT x)++(rowK x++ab1 (uT x) r)
theorem bab:∀ (m:List PV) (u:Bo),(∀ x,x∈m->RowGood x)->∀ {s:Bo}{l:List Tk},TksT s l->TksT (aeq u m++s) (ab1 u m++l):=by
 intro m;induction m with
 | nil=>intro u _ s l d;exact d
 | cons x m o=>grind [aeq,ab1,List.append_assoc,bks]
def cloK (u:Bo):List Tk:=bif u==[] then [] else [sg1 125]
theorem bls (u:Bo) {s:Bo}{l:List Tk} (d:TksT s l):TksT (clo u++s) (cloK u++l):=by
 unfold clo cloK;cases (u==([]:Bo)) with
 | true=>exact d
 | false=>exact aca (aca (afw 125 (by decide) (alu d)))
def aou (g:PV->List Tk):List PV->List Tk
 | []=>[sg1 59]
 | x::r=>sg1 44::(g x++aou g r)
def resK (g:PV->List Tk):List PV->List Tk
 | []=>[]
 | x::r=>nm1 [114,101,115,101,114,118,101,100]::(g x++aou g r)
theorem bgg {g:PV->Bo}{h:PV->List Tk}{P:PV->Prop} (M:∀ x,P x->∀ {s:Bo}{l:List Tk},endN s->TksT s l->TksT (g x++s) (h x++l)):∀ m:List PV,(∀ x,x∈m->P x)->∀ {s:Bo}{l:List Tk},TksT s l->TksT (aot g m++59::s) (aou h m++l):=by
 intro m;induction m with
 | nil=>intro _ s l d;exact afw 59 (by decide) d
 | cons x m U=>
  intro o s l d;simp only [aot,aou,An,As,At];have H:endN (aot g m++59::s):=by
   cases m with
   | nil=>exact abl (by decide) (by decide)
   | cons y q=>exact abl (by decide) (by decide)
  exact afw 44 (by decide) (aca (M x (o x (by simp)) H (U (λz O=>o z (by simp [O])) d)))
theorem bcm {g:PV->Bo}{h:PV->List Tk}{P:PV->Prop} (d:∀ x,P x->∀ {s:Bo}{l:List Tk},endN s->TksT s l->TksT (g x++s) (h x++l)) (m:List PV) (o:∀ x,x∈m->P x) {s:Bo}{l:List Tk} (H:TksT s l):TksT (resT g m++s) (resK h m++l):=by
 cases m with
 | nil=>exact H
 | cons x m=>
  rw [bcl];have M:endN (aot g m++59::10::s):=by
   cases m with
   | nil=>exact abl (by decide) (by decide)
   | cons y q=>exact abl (by decide) (by decide)
  simp only [resK,As,An];exact aca (aca (acx resN (by decide) (d x (o x (by simp)) M (bgg d m (λz O=>o z (by simp [O])) (alu H)))))
def spK (x:PV):List Tk:=nu1 (x.fld 0).asInt::(bif (x.fld 0).asInt==(x.fld 1).asInt then [] else [sg1 45,nu1 (x.fld 1).asInt])
theorem bm8 (x:PV) (o:SpP x) {s:Bo}{l:List Tk} (d:endN s) (m:TksT s l):TksT (spT x++s) (spK x++l):=by
 obtain ⟨z,x1,H,M⟩:=o.nums;unfold spT spK;rw [An];cases ((x.fld 0).asInt==(x.fld 1).asInt) with
 | true=>grind [axm,an4]
 | false=>simp only [Ae,An,As,At];exact axm z x1 (aw2 (by decide)) (aca (afw 45 (by decide) (aca (axm H M (an4 d) m))))
def goK (x:PV):List Tk:=[tx1 x.asStr]
theorem a0t {d:Bo} (z:ac5 d=true) {m:List PV} (o:m.all abk=true) (M:∀ n,n∈m->acj n) {s:Bo}{l:List Tk} (H:TksT s l):TksT (d++(ab9 m++32::123::10::s)) (nm1 d::(ae3 m++sg1 123::l)):=
 am7 z (ang m (by decide) (by decide) _) (apb o M (aca (afw 123 (by decide) (alu H))))
theorem at5 {s:Bo}{l:List Tk} (d:TksT s l):TksT (125::10::s) (sg1 125::l):=afw 125 (by decide) (alu d)
def msgK (m:PV) (l:List Tk):List Tk:=nm1 [109,101,115,115,97,103,101]::nm1 (m.fld 0).asStr::(ae3 (m.fld 4).asList++sg1 123::(ab1 [] (m.fld 1).asList++(cloK (ad2 [] (m.fld 1).asList)++(resK spK (m.fld 2).asList++(resK goK (m.fld 3).asList++sg1 125::l)))))
theorem bmm {m:PV} (g:MsgGood m) {s:Bo}{l:List Tk} (d:TksT s l):TksT (msgT m++s) (msgK m l):=by rw [bbr];exact acx [109,101,115,115,97,103,101] (by decide) (a0t (aoy g.nm) g.nt g.ok.ok.note (bab _ _ g.rows (bls _ (bcm bm8 _ g.ok.span (bcm (h:=goK) (P:=λx=>x.asStr.length<=1048576) (λx o _ _ _ d=>ao5 o d) _ g.ok.ok.goneS (at5 d))))))
theorem amz {g:PV->Bo}{h:PV->List Tk->List Tk}{P:PV->Prop} (d:∀ x,P x->∀ {s:Bo}{l:List Tk},TksT s l->TksT (g x++s) (h x l)):∀ m:List PV,(∀ x,x∈m->P x)->∀ {s:Bo}{l:List Tk},TksT s l->TksT (m.flatMap g++s) (m.foldr h l):=by
 intro m;induction m with
 | nil=>grind
 | cons x m o=>grind
def am3 (x:PV) (l:List Tk):List Tk:=nm1 (x.fld 0).asStr::sg1 61::nu1 (x.fld 1).asInt::(ae3 (x.fld 2).asList++sg1 59::l)
theorem bjo (x:PV) (g:ItemGood x) {s:Bo}{l:List Tk} (d:TksT s l):TksT (am4 x++s) (am3 x l):=by rw [a6e];exact aca (aca (am7 (aja g.nm) (abl (by decide) (by decide)) (aca (afw 61 (by decide) (aca (axm g.num0 g.num1 (an4 (ang _ (by decide) (by decide) _)) (apb g.nt g.ok.note (afw 59 (by decide) (alu d)))))))))
def ahp (m:PV) (l:List Tk):List Tk:=(bif (m.fld 1).asBool then [nm1 [111,112,101,110]] else [])++nm1 [101,110,117,109]::nm1 (m.fld 0).asStr::(ae3 (m.fld 4).asList++sg1 123::((m.fld 2).asList.foldr am3 (resK spK (m.fld 3).asList++sg1 125::l)))
theorem bi2 {m:PV} (g:EnumGood m) {s:Bo}{l:List Tk} (d:TksT s l):TksT (agu m++s) (ahp m l):=by
 rw [a5m];have h:TksT ([101,110,117,109,32]++((m.fld 0).asStr++(ab9 (m.fld 4).asList++32::123::10::((m.fld 2).asList.flatMap am4++(resT spT (m.fld 3).asList++125::10::s))))) (nm1 [101,110,117,109]::nm1 (m.fld 0).asStr::(ae3 (m.fld 4).asList++sg1 123::((m.fld 2).asList.foldr am3 (resK spK (m.fld 3).asList++sg1 125::l)))):=
  acx [101,110,117,109] (by decide) (a0t (aoy g.nm) g.nt g.ok.ok.note (amz bjo _ g.items (bcm bm8 _ g.ok.span (at5 d))))
 unfold ahp;cases (m.fld 1).asBool with
 | true=>exact acx [111,112,101,110] (by decide) h
 | false=>exact h
def a7w (b:Bool) (t:Bo) (l:List Tk):List Tk:=sg1 40::((bif b then [nm1 [115,116,114,101,97,109]] else [])++nm1 t::sg1 41::l)
theorem bc0 (b:Bool) {t:Bo} (m:ac5 t=true) {s:Bo}{l:List Tk} (d:TksT s l):TksT (40::(ayg b t++41::s)) (a7w b t l):=by
 have h:TksT (t++41::s) (nm1 t::sg1 41::l):=am7 m (abl (by decide) (by decide)) (afw 41 (by decide) d);unfold ayg a7w;refine afw 40 (by decide) ?_;cases b with
 | true=>exact acx [115,116,114,101,97,109] (by decide) h
 | false=>exact h
def axt (x:PV) (l:List Tk):List Tk:=nm1 [114,112,99]::nm1 (x.fld 0).asStr::a7w (((x.fld 3).asInt==3)||((x.fld 3).asInt==4)) (x.fld 1).asStr (nm1 [114,101,116,117,114,110,115]::a7w (((x.fld 3).asInt==2)||((x.fld 3).asInt==4)) (x.fld 2).asStr (ae3 (x.fld 4).asList++sg1 59::l))
theorem bj3 (x:PV) (g:MethGood x) {s:Bo}{l:List Tk} (z:TksT s l):TksT (aos x++s) (axt x l):=by obtain ⟨d,m,o,_,_⟩:=g.parts;rw [a6p];simp only [As,At];exact aca (aca (acx [114,112,99] (by decide) (am7 (aja d) (abl (by decide) (by decide)) (bc0 _ m (aca (acx [114,101,116,117,114,110,115] (by decide) (bc0 _ o (apb g.nt g.ok.note (afw 59 (by decide) (alu z))))))))))
def svcK (m:PV) (l:List Tk):List Tk:=nm1 [115,101,114,118,105,99,101]::nm1 (m.fld 0).asStr::(ae3 (m.fld 2).asList++sg1 123::((m.fld 1).asList.foldr axt (sg1 125::l)))
theorem bnc {m:PV} (g:SvcGood m) {s:Bo}{l:List Tk} (d:TksT s l):TksT (svcT m++s) (svcK m l):=by rw [bda];exact acx [115,101,114,118,105,99,101] (by decide) (a0t (aoy g.nm) g.nt g.ok.ok.note (amz bj3 _ g.meths (at5 d)))
def ahc (f:PV):List Tk:=(f.fld 3).asList.foldr msgK ((f.fld 4).asList.foldr ahp ((f.fld 5).asList.foldr svcK []))
theorem bdc {f:PV} (g:FileGood f):TksT (a8e f) (ahc f):=by unfold a8e;rw [<-List.append_nil ((f.fld 5).asList.flatMap (nl svcT))];exact amz (g:=nl msgT) (h:=msgK) (P:=MsgGood) (λx m _ _ d=>alu (bmm m d)) _ g.msg (amz (g:=nl agu) (h:=ahp) (P:=EnumGood) (λx m _ _ d=>alu (bi2 m d)) _ g.enum (amz (g:=nl svcT) (h:=svcK) (P:=SvcGood) (λx m _ _ d=>alu (bnc m d)) _ g.svc .nil))
def impK (x:PV) (l:List Tk):List Tk:=nm1 [105,109,112,111,114,116]::tx1 x.asStr::sg1 59::l
def azy (f:PV):List Tk:=(bif (f.fld 1).asStr==[] then [] else [nm1 [115,112,97,99,101],nm1 (f.fld 1).asStr,sg1 59])++(f.fld 2).asList.foldr impK (ahc f)
theorem bni {f:PV} (g:FileGood f) {s:Bo}{l:List Tk} (d:TksT s l):TksT (topT f++s) ((bif (f.fld 1).asStr==[] then [] else [nm1 [115,112,97,99,101],nm1 (f.fld 1).asStr,sg1 59])++(f.fld 2).asList.foldr impK l):=by
 have m:TksT ((f.fld 2).asList.flatMap impT++s) ((f.fld 2).asList.foldr impK l):=amz (g:=impT) (h:=impK) (P:=λx=>x.asStr.length<=1048576) (λx z s l d=>by unfold impT;simp only [An,As,At];exact acx [105,109,112,111,114,116] (by decide) (ao5 z (afw 59 (by decide) (alu d)))) _ g.ok.ok.importS d
 unfold topT;rw [An];cases h:((f.fld 1).asStr==([]:Bo)) with
 | true=>exact m
 | false=>
  have o:(f.fld 1).asStr≠[]:=by simpa using h
  simp only [Ae,An,As,At];exact acx [115,112,97,99,101] (by decide) (am7 (aoy (g.nm.resolve_left o)) (abl (by decide) (by decide)) (afw 59 (by decide) (alu m)))
theorem a8f {t r:Bo} (M:Tok t r):∃ c p,t=c::p/\c≠10:=by
 cases M with
 | name m H=>
  rcases ans m with ⟨c,q,rfl,o,_⟩ | ⟨d,q,rfl,O,_⟩
  ·exact ⟨c,q,rfl,by rintro rfl;exact absurd o (by decide)⟩
  grind
 | int m H=>obtain ⟨c,q,z,o,_⟩:=amt m;exact ⟨c,q,z,by rintro rfl;exact absurd o (by decide)⟩
 | text m=>exact ⟨34,_,rfl,by decide⟩
 | sign m=>exact ⟨_,[],rfl,by rintro rfl;exact absurd m (by decide)⟩
theorem bjs {s:Bo}{l:List Tk} (h:TksT (10::s) l):TksT s l:=by
 generalize e:10::s=t at h;cases h with
 | nil=>cases e
 | sp o H=>grind
 | @tok t r k q d z=>exfalso;have m:=a8f d.tok;grind
theorem bjf {f:PV} (g:FileGood f):TksT (akq f) (azy f):=by
 rcases bae f with ⟨_,h⟩ | ⟨d,h⟩
 ·rw [h];exact bni g (bdc g)
 ·have e:azy f=ahc f:=by
   unfold topT at d;simp only [List.append_eq_nil_iff] at d;unfold azy;cases o:((f.fld 1).asStr==([]:Bo)) with
   | false=>grind
   | true=>
    cases m:(f.fld 2).asList with
    | nil=>rfl
    | cons x r=>grind [impT]
  grind [bdc,bjs]
end
end Go.Ab
namespace Go.Ab
open Go
set_option maxRecDepth 100000
noncomputable section
theorem bb9 {k:Int}{s:Bo}{v:PV×Int} (h:F239 0 k s=some v):parV k s=v:=by unfold parV;rw [h];rfl
theorem bmz {k:Int} (o:2<=k/\k<=5) (d:Bool) {u:Nat} (m:u<18446744073709551616):parV k ((bif d then ([45]:Bo) else [])++decB u)=numW k d u:=by rw [ard d m];refine bb9 ?_;unfold F239;rw [bb3 k o d u m];rcases (show k=2\/k=3\/k=4\/k=5 by omega) with rfl | rfl | rfl | rfl<;>rfl
theorem bas {k:Int} (o:2<=k/\k<=5) (d:Bool) {u:Nat} (m:u<18446744073709551616) (R:List Tk) {b:Int} (h:numW k d u=(mkV k b,0)):intS parV k d (⟨2,[],IntKind.wrap .i64 (u:Int)⟩::R)=.ok (mkV k b) R:=by unfold intS;rw [show aa0 (⟨2,[],IntKind.wrap .i64 (u:Int)⟩::R:List Tk)=2 from rfl,show anh (⟨2,[],IntKind.wrap .i64 (u:Int)⟩::R:List Tk)=IntKind.wrap .i64 (u:Int) from rfl,ay1 m,bmz o d m,h];rfl
theorem bkg (u:Nat) (o:u<18446744073709551616) (H:ab8 u=0->u=9221120237041090560):F306 0 (ab2 u)=some (ae2 6 (u:Int) [],0):=by
 by_cases M:ab8 u<=1
 ·rcases a5k M with h | h | h
  ·have e:u=9221120237041090560:=amv o (by decide) H (λ_=>rfl) (h.trans (by decide +kernel));subst e;rw [h];rfl
  ·have e:u=9218868437227405312:=amv o (by decide) H (λq=>absurd q (by decide +kernel)) (h.trans (by decide +kernel));subst e;rw [h];rfl
  ·have e:u=18442240474082181120:=amv o (by decide) H (λq=>absurd q (by decide +kernel)) (h.trans (by decide +kernel));subst e;rw [h];rfl
 ·have m:=azr M;have O:(ab2 u).length<=1048576:=by rw [m];have:=ali 16 u;simp only [Ak];omega
  obtain ⟨y,U,Y,z⟩:=a4c (ab2 u);have d:=a2y y (by omega);rw [z _ m,a0u u o] at d;rw [z _ m] at U;have V:ab2 u≠[110,97,110]:=by rw [m];simp
  have W:ab2 u≠[105,110,102]:=by rw [m];simp
  have X:ab2 u≠[45,105,110,102]:=by rw [m];simp
  unfold F306;rw [neLs V,neLs W,neLs X,U,Aa,d,Aa];simp only [af6,Ap,Ao,Ae,Ad,ap7 u o,Aa,Bk];rfl
theorem par7 (x:Bo) (H:x.length<=4096) (z:valid x=true):F308 0 7 (abi x)=some (ae2 7 0 x,0):=by have m:((7:Int)==8)=false:=rfl;have o:((7:Int)==7)=true:=rfl;have d:decide ((x.length:Int)>4096)=false:=Am (by omega);unfold F308;simp only [m,o,Ae,Ad,aq6 x (by omega),Aa,aph,z,d];rfl
theorem bk1 (x:Bo):uh (x.flatMap λb=>hex2 b.toNat)=some x:=by
 have h:=be9 x 0 0;obtain ⟨l,m⟩:=bdq (x.flatMap λb=>hex2 b.toNat) (λc d=>by rw [show hexN 0 0=[] from rfl,At] at h;rw [<-h] at d;exact be6 _ _ c d) (by rw [ajn];omega)
 rw [m,bfa l x (bdp _ _ m).1.symm]
theorem par8 (x:Bo) (M:x.length<=4096):F308 0 8 ([120]++abi (x.flatMap λb=>hex2 b.toNat))=some (ae2 8 0 x,0):=by
 have m:((8:Int)==8)=true:=rfl;have z:((8:Int)==7)=false:=rfl;have o:=ajn x;have d:decide ((x.length:Int)>4096)=false:=Am (by omega);have H:F356 0 (x.flatMap λb=>hex2 b.toNat)=some (x,0):=by rw [a4e _ (by omega)];unfold aje;rw [if_pos (by omega),bk1]
 unfold F308;rw [m,Ad,blv];simp only [As,At,Aa,aq6 _ (show (x.flatMap λb=>hex2 b.toNat).length<=16384 by omega),m,z,Ad,Ae,Ap,H,d];rfl
theorem bmy {k:Int} (Z:k=1\/k=6\/k=7\/k=8) {v:PV} (sv:aea v) (M:ac4 k v=true) (m:a6y v=aam v):parV k (bif k==7 then abi (abn v) else bif k==1 then (bif aam v==1 then [116,114,117,101] else [102,97,108,115,101]) else af5 v)=(ag2 v,0):=by
 obtain ⟨H,aa,d⟩:=act M;obtain ⟨_,_,b0,b1⟩:=sv;have W:=a33 M;have z:afi k=true->(abn v).length<=4096/\(k=8\/valid (abn v)=true):=λq=>by unfold ac4 at M;simp only [Ag] at M;have O:=M.2;rw [if_pos q] at O;simp only [Ag,Av,A2,Bi] at O;exact ⟨O.1.2,O.2⟩
 unfold ag2;rw [H];refine bb9 ?_;rcases Z with rfl | rfl | rfl | rfl
 ·have o:abn v=[]/\acb 1 (aam v)=true:=d;have hr:aam v<=1:=by have:=o.2;unfold acb at this;simpa using this
  rw [o.1];rcases (show aam v=0\/aam v=1 by omega) with h | h<;>rw [h]<;>rfl
 ·have o:abn v=[]:=d.1;obtain ⟨u,X⟩:∃ u:Nat,aam v=(u:Int):=⟨(aam v).toNat,by omega⟩;rw [o,W,X];show F239 0 6 (ab2 u)=_;have Y:ab8 u=0->u=9221120237041090560:=λq=>by
   unfold a6y at m;rw [H,X] at m;have m:(bif (ab8 u==0) then (9221120237041090560:Int) else (u:Int))=(u:Int):=m;rw [q] at m;have m:(9221120237041090560:Int)=(u:Int):=m;omega
  unfold F239;rw [bkg u (by omega) Y];rfl
 ·obtain ⟨U,o⟩:=z rfl;have V:aam v=0:=d;rw [V];show F239 0 7 (abi (abn v))=_;unfold F239;rw [par7 _ U (o.resolve_left (by decide))];rfl
 ·obtain ⟨U,_⟩:=z rfl;have V:aam v=0:=d;rw [V,W];show F239 0 8 ([120]++abi ((abn v).flatMap λb=>hex2 b.toNat))=_;unfold F239;rw [par8 _ U];rfl
theorem bme {k:Int} (aa:1<=k) (ab:k<=8) {v:PV} (sv:aea v) (hv:ac4 k v=true) (o:a6y v=aam v) (R:List Tk):litS parV k (afx k v++R)=.ok (ag2 v) R:=by
 by_cases m:k=1\/k=6\/k=7\/k=8
 ·have d:=bmy m sv hv o;rcases m with rfl | rfl | rfl | rfl
  ·have e:litS parV 1 (afx 1 v++R)=valS (parV 1 (bif aam v==1 then [116,114,117,101] else [102,97,108,115,101])) (afx 1 v++R) R:=by
    show (bif isS 1 [116,114,117,101] (nm1 (bif aam v==1 then [116,114,117,101] else [102,97,108,115,101])::R)||isS 1 [102,97,108,115,101] (nm1 (bif aam v==1 then [116,114,117,101] else [102,97,108,115,101])::R) then valS (parV 1 (bif aam v==1 then [116,114,117,101] else [102,97,108,115,101])) _ R else _)=_;cases (aam v==1)<;>rfl
   have d:parV 1 (bif aam v==1 then [116,114,117,101] else [102,97,108,115,101])=(ag2 v,0):=d;rw [e,d];rfl
  ·have d:parV 6 (af5 v)=(ag2 v,0):=d;show valS (parV 6 (af5 v)) _ R=_;rw [d];rfl
  ·have d:parV 7 (abi (abn v))=(ag2 v,0):=d;show valS (parV 7 (abi (abn v))) _ R=_;rw [d];rfl
  ·have d:parV 8 (af5 v)=(ag2 v,0):=d;show valS (parV 8 (af5 v)) _ R=_;rw [d];rfl
 ·obtain ⟨X,ad,V⟩:=act hv;obtain ⟨_,_,b0,b1⟩:=sv;have H:abn v=[]/\acb k (aam v)=true:=by
   rcases (show k=2\/k=3\/k=4\/k=5 by omega) with rfl | rfl | rfl | rfl<;>exact V
  have W:2<=k/\k<=5:=by omega
  have en:ag2 v=mkV k (aam v):=by unfold ag2;rw [X,H.1];rfl
  rw [en];by_cases z:k=2\/k=3
  ·have M:afx k v=aka (IntKind.wrap .i64 (aam v)):=by rcases z with rfl | rfl<;>rfl
   have O:∀ l,litS parV k l=bif isS 4 [45] l then intS parV k true l.tail else intS parV k false l:=λl=>by rcases z with rfl | rfl<;>rfl
   rw [M,O];unfold aka;by_cases o:IntKind.wrap .i64 (aam v)<0
   ·rw [Aj o];refine bas W true (u:=(IntKind.wrap .i64 (aam v)).natAbs) (by rw [IntKind.wrap_i64] at *;omega) R ?_;have Z:IntKind.wrap .i64 (aam v)=aam v-18446744073709551616:=by rw [IntKind.wrap_i64] at *;omega
    have Y:IntKind.wrap .u64 (-(((IntKind.wrap .i64 (aam v)).natAbs:Nat):Int))=aam v:=by rw [Z,IntKind.wrap_u64];omega
    unfold numW;rw [if_neg (by omega),if_pos z,if_pos rfl,if_neg (by rw [IntKind.wrap_i64] at o;omega),Y,H.2];rfl
   ·rw [Am o];have Z:IntKind.wrap .i64 (aam v)=aam v:=by rw [IntKind.wrap_i64] at *;omega
    have ae:aam v<9223372036854775808:=by rw [IntKind.wrap_i64] at o;omega
    have U:(((IntKind.wrap .i64 (aam v)).toNat:Nat):Int)=aam v:=by rw [Z];omega
    refine bas W false (u:=(IntKind.wrap .i64 (aam v)).toNat) (by omega) R ?_;unfold numW;rw [if_neg (by simp),if_pos z,if_neg (by simp),if_neg (by omega),U,H.2];rfl
  ·have M:afx k v=[nu1 (aam v)]:=by rcases (show k=4\/k=5 by omega) with rfl | rfl<;>rfl
   have O:∀ l,litS parV k l=bif isS 4 [45] l then intS parV k true l.tail else intS parV k false l:=λl=>by rcases (show k=4\/k=5 by omega) with rfl | rfl<;>rfl
   rw [M,O];refine bas W false (u:=(aam v).toNat) (by omega) R ?_;have U:(((aam v).toNat:Nat):Int)=aam v:=by omega
   unfold numW;rw [if_neg (by simp),if_neg z,if_neg (by simp),U,H.2];rfl
theorem aed (c:UInt8) (R:List Tk):eatS 4 [c] (sg1 c::R)=.ok () R:=by unfold eatS isS sg1;simp
theorem asq (w:Bo) (R:List Tk):eatS 1 w (nm1 w::R)=.ok () R:=by unfold eatS isS nm1;simp
theorem anr {p:Bo->Bool}{s:Bo} (h:p s=true) (R:List Tk):ajc 1 p (nm1 s::R)=.ok s R:=by show (bif (1:Int)==1 then (bif p s then Rs.ok s R else _) else _)=_;rw [h];rfl
theorem aq3 {s:Bo} (h:af4 s=true) (R:List Tk):aq2 (nm1 s::R)=.ok s R:=anr h R
theorem a3h {n most:Int} (m:0<=n) (o:n<=most) (z:most<=2147483647) (R:List Tk):numS most (nu1 n::R)=.ok n R:=by
 have e:nu1 n=⟨2,[],n⟩:=by unfold nu1;congr 1;rw [IntKind.wrap_i64];omega
 have d:decide (0<=n/\n<=most)=true:=Aj ⟨m,o⟩;rw [e];show (bif (2:Int)==2 then (bif decide (0<=n/\n<=most) then Rs.ok n R else _) else _)=_;rw [d];rfl
theorem ba1 (k:Int) (s:Bo) (c:UInt8) (R:List Tk):isS k s (sg1 c::R)=(4==k&&[c]==s):=rfl
theorem axj (k:Int) (s w:Bo) (R:List Tk):isS k s (nm1 w::R)=(1==k&&w==s):=rfl
def al6 (t:PV):PV:=PV.agg [PV.int (t.fld 0).asInt,PV.str (t.fld 1).asStr]
theorem av2 {k:Int} (h:adv k=true):aem (kw k)=k:=by unfold adv at h;simp only [Ag,Av] at h;rcases bjr h.1 h.2 with rfl | rfl | rfl | rfl | rfl | rfl | rfl | rfl<;>(unfold kw;kernel_rfl)
theorem bma:kw 1=[98,111,111,108]/\kw 2=[105,51,50]/\kw 3=[105,54,52]/\kw 4=[117,51,50]/\kw 5=[117,54,52]/\kw 6=[100,111,117,98,108,101]/\kw 7=[116,101,120,116]/\kw 8=[98,121,116,101,115]:=by unfold kw;refine ⟨?_,?_,?_,?_,?_,?_,?_,?_⟩<;>kernel_rfl
theorem bhn {s:Bo} (h:noKw s=true):aem s=0:=by obtain ⟨d,m,o,z,H,M,O,U⟩:=bma;unfold aem;rw [neLs (d▸ai2 h (k:=1) rfl),neLs (m▸ai2 h (k:=2) rfl),neLs (o▸ai2 h (k:=3) rfl),neLs (z▸ai2 h (k:=4) rfl),neLs (H▸ai2 h (k:=5) rfl),neLs (M▸ai2 h (k:=6) rfl),neLs (O▸ai2 h (k:=7) rfl),neLs (U▸ai2 h (k:=8) rfl)];rfl
theorem ty_bk {t:PV} (h:TyOk t):tyOf (afa t)=al6 t:=by
 unfold tyOf al6;rcases ato h with ⟨d,z,m⟩ | ⟨d,_,m,H⟩
 ·have o:(t.fld 0).asInt≠0:=by intro q;rw [q] at d;exact absurd d (by decide)
  rw [m,av2 d,beqI o,z];rfl
 ·rw [H,bhn m,d];rfl
theorem bdo {t:PV} (h:TyOk t) (R:List Tk):typS (nm1 (afa t)::R)=.ok (al6 t) R:=by unfold typS ade;rw [anr (ayz h),Rs.bind_ok,ty_bk h]
theorem ajw {l:List PV} (m:l.all abk=true) (o:∀ n,n∈l->acj n) (R:List Tk) (d:isS 4 [91] R=false):adk parV aad (ae3 l++R)=.ok (l.map ava) R:=by
 cases l with
 | nil=>show adk parV aad R=_;unfold adk;rw [d];rfl
 | cons a l=>exact a7d m o R
theorem bb1 {k:Int}{s:Bo} (d:(4==k&&[91]==s)=false) (l:List PV) {R:List Tk} (m:isS k s R=false):isS k s (ae3 l++R)=false:=by
 cases l with
 | nil=>exact m
 | cons a l=>exact d
def bbx (x:PV):PV:=bif (x.fld 6).asBool then ag2 (x.fld 7) else ah6
def af1 (l:List PV):List PV:=l.map ava
def al5 (x:PV):PV:=akp (x.fld 0).asInt (x.fld 1).asStr (x.fld 2).asInt (x.fld 3).asInt (al6 (x.fld 4)) (x.fld 5).asStr (x.fld 6).asBool (bbx x) (af1 (x.fld 8).asList)
theorem bis {x:PV} (g:RowGood x) (m:Bool) (V:m=false->(x.fld 6).asBool=false) (R:List Tk) (W:isS 1 [100,101,102,97,117,108,116] R=false):ar1 parV m ((x.fld 4).fld 0).asInt (dfK x++R)=.ok ((x.fld 6).asBool,bbx x) R:=by
 unfold ar1 dfK bbx;cases O:(x.fld 6).asBool with
 | false=>show (bif m&&isS 1 [100,101,102,97,117,108,116] R then _ else Rs.ok (false,ah6) R)=_;rw [W,Bool.and_false];rfl
 | true=>
  have H:m=true:=by
   cases m with
   | true=>rfl
   | false=>rw [O] at V;exact absurd (V rfl) (by decide)
  have d:=g.right;unfold amg at d;rw [O] at d;simp only [Ap,Ae] at d;show (bif m&&isS 1 [100,101,102,97,117,108,116] (nm1 [100,101,102,97,117,108,116]::(afx ((x.fld 4).fld 0).asInt (x.fld 7)++R)) then (litS parV ((x.fld 4).fld 0).asInt (afx ((x.fld 4).fld 0).asInt (x.fld 7)++R)).bind λv r=>Rs.ok (true,v) r else _)=_;rw [H,axj];have key:litS parV ((x.fld 4).fld 0).asInt (afx ((x.fld 4).fld 0).asInt (x.fld 7)++R)=.ok (ag2 (x.fld 7)) R:=by
   cases M:((x.fld 2).asInt==5) with
   | true=>rw [M] at d;cases d
   | false=>
    rw [M] at d;simp only [Ae] at d;cases o:(((x.fld 4).fld 0).asInt==0) with
    | true=>
     rw [o] at d;have d:aln (x.fld 7)=true:=d;have z:((x.fld 4).fld 0).asInt=0:=by simpa using o
     unfold aln at d;simp only [Ag,Bi,Av] at d;rw [z];show (aq2 (nm1 (abn (x.fld 7))::R)).bind (λs r=>Rs.ok (a0e s) r)=_;rw [aq3 d.1.1.2,Rs.bind_ok];unfold ag2;rw [d.1.1.1,d.1.2];rfl
    | false=>
     rw [o] at d;simp only [Ae,Ag,Bi] at d;have U:=g.type;have X:((x.fld 4).fld 0).asInt≠0:=by intro q;rw [q] at o;cases o
     exact bme (by have:=U.2.1;omega) U.2.2 g.ok.ok.dflt d.1 d.2 R
  rw [key];rfl
theorem a1h {x:PV} (g:RowGood x) (card key:Int) (un:Bo) (d:Bool) (z:d=false->(x.fld 6).asBool=false) (R:List Tk):aj6 parV aad card key (al6 (x.fld 4)) un d (avv x++R)=.ok (akp (x.fld 0).asInt (x.fld 1).asStr card key (al6 (x.fld 4)) un (x.fld 6).asBool (bbx x) (af1 (x.fld 8).asList)) R:=by have ok:=g.ok;have m:=ajw g.nt ok.ok.note (sg1 59::R) rfl;have o:=bis g d z (ae3 (x.fld 8).asList++sg1 59::R) (bb1 rfl _ rfl);unfold aj6 avv;simp only [As,An,At,aq3 g.name,Rs.bind_ok,aed,a3h ok.num0 ok.num1 (by decide)];show (ar1 parV d ((x.fld 4).fld 0).asInt (dfK x++(ae3 (x.fld 8).asList++sg1 59::R))).bind _=_;rw [o,Rs.bind_ok,m,Rs.bind_ok,aed,Rs.bind_ok];rfl
theorem a9g {c:Int} (h:c=1\/c=2\/c=3\/c=4):akj (apz c)=c:=by rcases h with rfl | rfl | rfl | rfl<;>rfl
theorem bmi {c:Int}:(apz c==[109,97,112])=false:=by unfold apz;cases (c==1)<;>cases (c==2)<;>cases (c==3)<;>rfl
theorem bm1 {x:PV} (g:RowGood x) (O:uT x=[]) (R:List Tk):afb parV aad (rowK x++R)=.ok (al5 x) R:=by
 have O:(x.fld 5).asStr=[]:=O;have W:=g.type;unfold rowK az4 al5;rw [O];by_cases m:(x.fld 2).asInt=5
 ·have d:=key5 (by have:=g.key;rw [m] at this;exact this);have z:(x.fld 3).asInt≠0:=by intro q;rw [q] at d;exact absurd d (by decide)
  have X:(x.fld 6).asBool=false:=by
   have H:=g.right;unfold amg at H;rw [m] at H;cases h:(x.fld 6).asBool with
   | false=>rfl
   | true=>rw [h] at H;cases H
  have e:((1:Int)==1&&!(aem (kw (x.fld 3).asInt)==0))=true:=by rw [av2 d,beqI z];rfl
  rw [m];show afb parV aad (nm1 [109,97,112]::sg1 60::nm1 (kw (x.fld 3).asInt)::sg1 44::nm1 (afa (x.fld 4))::sg1 62::(avv x++R))=_;unfold afb;simp only [axj,Bk,Bool.and_self,Ad,List.tail_cons,aed,Rs.bind_ok];show (bif (1:Int)==1&&!(aem (kw (x.fld 3).asInt)==0) then (eatS 4 [44] (sg1 44::nm1 (afa (x.fld 4))::sg1 62::(avv x++R))).bind (λ_ Y=>(typS Y).bind λU Z=>(eatS 4 [62] Z).bind λ_ r4=>aj6 parV aad 5 (aem (kw (x.fld 3).asInt)) U [] false r4) else _)=_;rw [e,Ad,aed,Rs.bind_ok,bdo W,Rs.bind_ok,aed,Rs.bind_ok,av2 d,a1h g 5 _ [] false (λ_=>X)]
 ·have V:(x.fld 2).asInt=1\/(x.fld 2).asInt=2\/(x.fld 2).asInt=3\/(x.fld 2).asInt=4:=by have:=g.cards;omega
  have M:=key0 g.key m;have o:(x.fld 2).asInt≠0:=by omega
  have e:((1:Int)==1&&!(akj (apz (x.fld 2).asInt)==0))=true:=by rw [a9g V,beqI o];rfl
  rw [beqI m,M];show afb parV aad (nm1 (apz (x.fld 2).asInt)::nm1 (afa (x.fld 4))::(avv x++R))=_;unfold afb;rw [axj,bmi];show (bif (1:Int)==1&&!(akj (apz (x.fld 2).asInt)==0) then (typS (nm1 (afa (x.fld 4))::(avv x++R))).bind (λU r=>aj6 parV aad (akj (apz (x.fld 2).asInt)) 0 U [] true r) else _)=_;rw [e,Ad,bdo W,Rs.bind_ok,a9g V,a1h g _ 0 [] true (λh=>by cases h)]
theorem bbq {x:PV} (g:RowGood x) (z:uT x≠[]) (un:Bo) (M:uT x=un) (R:List Tk) (d:List PV):ac1 parV aad un (rowK x++R) d=bif isS 4 [125] R then .ok (d++[al5 x]) R.tail else ac1 parV aad un R (d++[al5 x]):=by
 have m:=g.un z;have o:=key0 g.key (by rw [m];decide);have H:(x.fld 6).asBool=false:=by
  have h:=g.ar;unfold agr a4f at h;simp only [Ag,A2,Bi,Bool.not_eq_true'] at h;rcases h.1.2 with q | q
  ·exact absurd q z
  ·exact q.2
 have e:rowK x=nm1 (afa (x.fld 4))::avv x:=by have O:((x.fld 5).asStr==([]:Bo))=false:=neLs z;unfold rowK az4;rw [m,O];rfl
 have U:al5 x=akp (x.fld 0).asInt (x.fld 1).asStr 2 0 (al6 (x.fld 4)) un (x.fld 6).asBool (bbx x) (af1 (x.fld 8).asList):=by unfold al5;rw [m,o,show (x.fld 5).asStr=un from M]
 rw [e,anb,As,bdo g.type,Rs.bind_ok,a1h g 2 0 un false (λ_=>H),Rs.bind_ok,U]
end
end Go.Ab
namespace Go.Ab
open Go
set_option maxRecDepth 100000
noncomputable section
def mb (d:Nat) (m:Bo) (ts:List Tk) (b:MB):Rs MB:=adu parV aad (msgS parV aad d) m ts b
theorem bbp (d:Nat) (m:Bo) (ts:List Tk) (b:MB):mb d m ts b=
 bif isS 4 [125] ts then .ok b ts.tail
 else bif isS 1 [117,110,105,111,110] ts then (amn parV aad ts).bind λl r=>mb d m r { b with fs:=b.fs++l }
 else bif isS 1 [109,101,115,115,97,103,101] ts then (msgS parV aad d m b.ms b.es ts).bind λx r=>mb d m r { b with ms:=x.1,es:=x.2 }
 else bif isS 1 [101,110,117,109] ts||isS 1 [111,112,101,110] ts then (ar3 parV aad m ts).bind λx r=>mb d m r { b with es:=b.es++[x] }
 else bif isS 1 [114,101,115,101,114,118,101,100] ts then
  (bif aa0 ts.tail==3 then (goneS ts.tail []).bind λl r=>mb d m r { b with gs:=b.gs++l }
   else (adc 65535 ts.tail []).bind λl r=>mb d m r { b with rs:=b.rs++l })
 else (afb parV aad ts).bind λx r=>mb d m r { b with fs:=b.fs++[x] }:=auz parV aad _ (axv parV aad d) m ts b
theorem ata {x:PV} (g:RowGood x) (d:uT x=[]):∃ w r,rowK x=nm1 w::r/\(w=[109,97,112]\/w=[114,101,113,117,105,114,101,100]\/w=[111,112,116,105,111,110,97,108]\/w=[112,108,97,105,110]\/w=[108,105,115,116]):=by
 have d:(x.fld 5).asStr=[]:=d;unfold rowK az4;rw [d];cases ((x.fld 2).asInt==5) with
 | true=>exact ⟨_,_,rfl,Or.inl rfl⟩
 | false=>refine ⟨_,_,rfl,Or.inr ?_⟩;grind [apz,asInt]
theorem bmj (d:Nat) (m:Bo) {x:PV} (g:RowGood x) (o:uT x=[]) (R:List Tk) (b:MB):mb d m (rowK x++R) b=mb d m R { b with fs:=b.fs++[al5 x] }:=by
 have t:∀ w:Bo,w≠[109,97,112]->w≠[114,101,113,117,105,114,101,100]->w≠[111,112,116,105,111,110,97,108]->w≠[112,108,97,105,110]->w≠[108,105,115,116]->isS 1 w (rowK x++R)=false:=λw H M O U V=>by obtain ⟨v,r,h,W⟩:=ata g o;rw [h,As,axj];grind
 have z:isS 4 [125] (rowK x++R)=false:=by obtain ⟨v,r,h,_⟩:=ata g o;rw [h];rfl
 rw [bbp,z,t [117,110,105,111,110] (by decide) (by decide) (by decide) (by decide) (by decide),t [109,101,115,115,97,103,101] (by decide) (by decide) (by decide) (by decide) (by decide),t [101,110,117,109] (by decide) (by decide) (by decide) (by decide) (by decide),t [111,112,101,110] (by decide) (by decide) (by decide) (by decide) (by decide),t [114,101,115,101,114,118,101,100] (by decide) (by decide) (by decide) (by decide) (by decide),bm1 g o R];rfl
theorem as7 (u:Bo):ar9 u u=[]:=by unfold ar9;simp
theorem bkf {v:Bo} (h:v≠[]):ar9 [] v=[nm1 [117,110,105,111,110],nm1 v,sg1 123]:=by unfold ar9;grind
theorem bb5 {u v:Bo} (d:u≠[]) (h:v≠u):ar9 u v=sg1 125::ar9 [] v:=by unfold ar9;grind
theorem bip {u:Bo} (d:u≠[]):cloK u=[sg1 125]:=by unfold cloK;grind
theorem baa (d:Nat) (o:Bo) (R:List Tk):∀ m:List PV,(∀ x,x∈m->RowGood x)->
 (∀ b:MB,mb d o (ab1 [] m++(cloK (ad2 [] m)++R)) b=mb d o R { b with fs:=b.fs++m.map al5 })/\
 (∀ (u:Bo) (H:List PV) (b:MB),u≠[]->((bif isS 4 [125] (ab1 u m++(cloK (ad2 u m)++R)) then Rs.ok H (ab1 u m++(cloK (ad2 u m)++R)).tail else ac1 parV aad u (ab1 u m++(cloK (ad2 u m)++R)) H).bind λl r=>mb d o r { b with fs:=b.fs++l })=mb d o R { b with fs:=b.fs++(H++m.map al5) }):=by
 intro m
 induction m with
 | nil=>
  intro _
  refine ⟨λb=>?_,λu H b M=>?_⟩
  ·simp [ab1,ad2,cloK]
  grind [ab1,cloK,ad2,sg1,bip,ba1,Rs.bind]
 | cons x m ih=>
  intro W
  have V:=W x (by simp)
  obtain ⟨aa,U⟩:=ih λz hz=>W z (by simp [hz])
  have A:∀ b:MB,mb d o (ab1 [] (x::m)++(cloK (ad2 [] (x::m))++R)) b=mb d o R { b with fs:=b.fs++(x::m).map al5 }:=λb=>by
   by_cases M:uT x=[]
   ·grind [ab1,cloK,ad2,rowK,as7,List.append_assoc,bmj]
   ·have e:ab1 [] (x::m)++(cloK (ad2 [] (x::m))++R)=nm1 [117,110,105,111,110]::nm1 (uT x)::sg1 123::(rowK x++(ab1 (uT x) m++(cloK (ad2 (uT x) m)++R))):=by
     simp only [ab1,ad2,bkf M,An,As,At]
    rw [e,bbp,axj,axj];show (amn parV aad (nm1 [117,110,105,111,110]::nm1 (uT x)::sg1 123::(rowK x++(ab1 (uT x) m++(cloK (ad2 (uT x) m)++R))))).bind (λl r=>mb d o r { b with fs:=b.fs++l })=_;have X:amn parV aad (nm1 [117,110,105,111,110]::nm1 (uT x)::sg1 123::(rowK x++(ab1 (uT x) m++(cloK (ad2 (uT x) m)++R))))=ac1 parV aad (uT x) (rowK x++(ab1 (uT x) m++(cloK (ad2 (uT x) m)++R))) []:=by unfold amn;rw [asq,Rs.bind_ok,aq3 (V.union M),Rs.bind_ok,aed,Rs.bind_ok]
    rw [X,bbq V M _ rfl,U (uT x) _ b M];simp
  refine ⟨A,λu H b M=>?_⟩
  by_cases hx:uT x=u
  ·have O:uT x≠[]:=by grind
   have e:ab1 u (x::m)++(cloK (ad2 u (x::m))++R)=rowK x++(ab1 u m++(cloK (ad2 u m)++R)):=by grind [ab1,ad2,as7,List.append_assoc]
   have Y:isS 4 [125] (rowK x++(ab1 u m++(cloK (ad2 u m)++R)))=false:=by have Z:=V.un O;have hq:((x.fld 5).asStr==([]:Bo))=false:=neLs O;unfold rowK az4;rw [Z,hq];rfl
   rw [e,Y,Ae,bbq V O _ hx,U u _ b M];simp
  grind [ab1,cloK,ad2,sg1,bb5,List.append_assoc,ba1,bind,Rs.bind_ok]
def aku (x:PV):PV:=PV.agg [PV.int (x.fld 0).asInt,PV.int (x.fld 1).asInt]
def anf (x:PV):PV:=PV.str x.asStr
theorem bcp {k:Int}{s:Bo} (d:(4==k&&[59]==s)=false) (m:(4==k&&[44]==s)=false) (g:PV->List Tk) (l:List PV) (R:List Tk):isS k s (aou g l++R)=false:=by
 cases l with
 | nil=>exact d
 | cons x l=>exact m
theorem bc3 {most:Int} (m:most<=2147483647) {x:PV} (h:ae7 most x=true) {R:List Tk} (O:isS 4 [45] R=false):avr most (spK x++R)=.ok (aku x) R:=by
 unfold ae7 at h;obtain ⟨o,z,H,M⟩:=of_decide_eq_true h;unfold avr spK aku;simp only [As,a3h o z m,Rs.bind_ok];by_cases d:(x.fld 0).asInt=(x.fld 1).asInt
 ·rw [d,Bk];show (bif isS 4 [45] R then numS most R.tail else Rs.ok (x.fld 1).asInt R).bind _=_;rw [O];rfl
 ·rw [beqI d];show (numS most (nu1 (x.fld 1).asInt::R)).bind _=_;rw [a3h H M m];rfl
theorem a3x {most:Int} (o:most<=2147483647) (R:List Tk):∀ (l:List PV) (x:PV) (d:List PV),ae7 most x=true->(∀ y,y∈l->ae7 most y=true)->adc most (spK x++(aou spK l++R)) d=.ok (d++(x::l).map aku) R:=by
 intro l;induction l with
 | nil=>intro x d m _;rw [apd,bc3 o m (bcp rfl rfl _ _ _),Rs.bind_ok];rfl
 | cons y l M=>intro x d m H;rw [apd,bc3 o m (bcp rfl rfl _ _ _),Rs.bind_ok];show (eatS 4 [44] (sg1 44::(spK y++aou spK l++R))).bind (λ_ z=>adc most z (d++[aku x]))=_;grind [aed,Rs.bind_ok,List.append_assoc]
theorem bji (R:List Tk):∀ (l:List PV) (x:PV) (d:List PV),goneS (goK x++(aou goK l++R)) d=.ok (d++(x::l).map anf) R:=by
 intro l;induction l with
 | nil=>intro x d;rw [alg];rfl
 | cons y l o=>intro x d;rw [alg];show (eatS 4 [44] (sg1 44::(goK y++aou goK l++R))).bind (λ_ m=>goneS m (d++[PV.str x.asStr]))=_;grind [aed,Rs.bind_ok,List.append_assoc,anf]
theorem bfu (d:Nat) (m:Bo) (R:List Tk) (l:List PV) (h:∀ x,x∈l->ae7 65535 x=true) (b:MB):mb d m (resK spK l++R) b=mb d m R { b with rs:=b.rs++l.map aku }:=by
 cases l with
 | nil=>simp [resK]
 | cons x l=>have e:=a3x (most:=65535) (by decide) R l x [] (h x (by simp)) λy o=>h y (by simp [o]);rw [bbp];show (adc 65535 (spK x++aou spK l++R) []).bind (λl r=>mb d m r { b with rs:=b.rs++l })=_;grind [List.append_assoc,Rs.bind_ok]
theorem bj2 (d:Nat) (m:Bo) (R:List Tk) (l:List PV) (b:MB):mb d m (resK goK l++R) b=mb d m R { b with gs:=b.gs++l.map anf }:=by
 cases l with
 | nil=>simp [resK]
 | cons x l=>have e:=bji R l x [];rw [bbp];show (goneS (goK x++aou goK l++R) []).bind (λl r=>mb d m r { b with gs:=b.gs++l })=_;grind [List.append_assoc,Rs.bind_ok]
theorem au1 {s:Bo} (h:defP s=true) (R:List Tk):aof [] (nm1 s::R)=.ok s R:=by
 have d:aoe [] s=true:=by grind [aoe]
 unfold aof;rw [anr d,Rs.bind_ok];rfl
def a0r (m:PV):PV:=aqs (m.fld 0).asStr ((m.fld 1).asList.map al5) ((m.fld 2).asList.map aku) ((m.fld 3).asList.map anf) (af1 (m.fld 4).asList)
theorem bmk (d:Nat) {m:PV} (g:MsgGood m) (H:∀ x,x∈(m.fld 2).asList->ae7 65535 x=true) (R:List Tk) (ms es:List PV):msgS parV aad (d+1) [] ms es (msgK m R)=.ok (ms++[a0r m],es) R:=by
 have z:=ajw g.nt g.ok.ok.note (sg1 123::(ab1 [] (m.fld 1).asList++(cloK (ad2 [] (m.fld 1).asList)++(resK spK (m.fld 2).asList++(resK goK (m.fld 3).asList++sg1 125::R))))) rfl;have o:mb d (m.fld 0).asStr (ab1 [] (m.fld 1).asList++(cloK (ad2 [] (m.fld 1).asList)++(resK spK (m.fld 2).asList++(resK goK (m.fld 3).asList++sg1 125::R)))) ⟨[],[],[],ms++[aqs (m.fld 0).asStr [] [] [] []],es⟩=.ok ⟨(m.fld 1).asList.map al5,(m.fld 2).asList.map aku,(m.fld 3).asList.map anf,ms++[aqs (m.fld 0).asStr [] [] [] []],es⟩ R:=by rw [(baa d _ _ _ g.rows).1,bfu _ _ _ _ H,bj2,bbp,ba1];simp
 unfold msgS msgK;rw [asq,Rs.bind_ok,au1 g.nm,Rs.bind_ok,z,Rs.bind_ok,aed,Rs.bind_ok];show (mb d (m.fld 0).asStr _ _).bind _=_;rw [o,Rs.bind_ok];show Rs.ok ((ms++[aqs (m.fld 0).asStr [] [] [] []]).set ms.length (a0r m),es) R=_;simp
theorem bj8 {s:Bo} (h:af4 s=true) {w:Bo} (m:ajh w=true) (k:Int) (R:List Tk):isS k w (nm1 s::R)=false:=by
 have d:s≠w:=by rintro rfl;grind [af4]
 rw [axj,neLs d,Bool.and_false]
def a7a (x:PV):PV:=PV.agg [PV.str (x.fld 0).asStr,PV.int (x.fld 1).asInt,PV.slice (af1 (x.fld 2).asList)]
theorem bjn {x:PV} (g:ItemGood x) (R:List Tk):a6d parV aad (am3 x R)=.ok (a7a x) R:=by have d:=ajw g.nt g.ok.note (sg1 59::R) rfl;unfold a6d am3;rw [aq3 g.nm,Rs.bind_ok,aed,Rs.bind_ok,a3h g.num0 g.num1 (by decide),Rs.bind_ok,d,Rs.bind_ok,aed,Rs.bind_ok];rfl
theorem bfh (R:List Tk):∀ (l d rs:List PV),(∀ x,x∈l->ItemGood x)->ads parV aad (l.foldr am3 R) d rs=ads parV aad R (d++l.map a7a) rs:=by
 intro l;induction l with
 | nil=>grind
 | cons x l O=>intro d rs h;have m:=h x (by simp);rw [List.foldr_cons,alo];have o:isS 4 [125] (am3 x (l.foldr am3 R))=false:=rfl;have H:isS 1 [114,101,115,101,114,118,101,100] (am3 x (l.foldr am3 R))=false:=bj8 m.nm bgf 1 _;rw [o,H,Ae,Ae,bjn m,Rs.bind_ok,O _ _ λz M=>h z (by simp [M])];simp
def a6z (m:PV):PV:=PV.agg [PV.str (m.fld 0).asStr,PV.bool (m.fld 1).asBool,PV.slice ((m.fld 2).asList.map a7a),PV.slice ((m.fld 3).asList.map aku),PV.slice (af1 (m.fld 4).asList)]
theorem bjl (R:List Tk) (l d rs:List PV) (h:∀ x,x∈l->SpP x):ads parV aad (resK spK l++R) d rs=ads parV aad R d (rs++l.map aku):=by
 cases l with
 | nil=>simp [resK]
 | cons x l=>have e:=a3x (most:=2147483647) (by decide) R l x [] (h x (by simp)) λy m=>h y (by simp [m]);rw [alo];show (adc 2147483647 (spK x++aou spK l++R) []).bind (λl r=>ads parV aad r d (rs++l))=_;grind [List.append_assoc,Rs.bind_ok]
theorem bi0 {m:PV} (g:EnumGood m) (R:List Tk):ar3 parV aad [] (ahp m R)=.ok (a6z m) R:=by
 have z:=ajw g.nt g.ok.ok.note (sg1 123::((m.fld 2).asList.foldr am3 (resK spK (m.fld 3).asList++sg1 125::R))) rfl;have o:ads parV aad ((m.fld 2).asList.foldr am3 (resK spK (m.fld 3).asList++sg1 125::R)) [] []=.ok ((m.fld 2).asList.map a7a,(m.fld 3).asList.map aku) R:=by rw [bfh _ _ _ _ g.items,bjl _ _ _ _ g.ok.span,alo,ba1];simp
 have e:(bif isS 1 [111,112,101,110] (ahp m R) then (ahp m R).tail else ahp m R)=nm1 [101,110,117,109]::nm1 (m.fld 0).asStr::(ae3 (m.fld 4).asList++sg1 123::((m.fld 2).asList.foldr am3 (resK spK (m.fld 3).asList++sg1 125::R))):=by unfold ahp;cases (m.fld 1).asBool<;>rfl
 have d:isS 1 [111,112,101,110] (ahp m R)=(m.fld 1).asBool:=by unfold ahp;cases (m.fld 1).asBool<;>rfl
 unfold ar3;rw [e,d,asq,Rs.bind_ok,au1 g.nm,Rs.bind_ok,z,Rs.bind_ok,aed,Rs.bind_ok,o,Rs.bind_ok];rfl
theorem bcz {b:Bool}{t:Bo} (m:ac5 t=true) (z:t≠strm) (R:List Tk):ayf (a7w b t R)=.ok (b,t) R:=by
 have d:(t==[115,116,114,101,97,109])=false:=neLs z;have o:∀ r,isS 1 [115,116,114,101,97,109] (nm1 t::r)=false:=λr=>by rw [axj,d];rfl
 unfold ayf a7w;rw [aed,Rs.bind_ok];cases b with
 | true=>show (ade (nm1 t::sg1 41::R)).bind _=_;unfold ade;rw [anr m,Rs.bind_ok,aed,Rs.bind_ok];rfl
 | false=>show (ade (bif isS 1 [115,116,114,101,97,109] (nm1 t::sg1 41::R) then (nm1 t::sg1 41::R).tail else nm1 t::sg1 41::R)).bind (λs H=>(eatS 4 [41] H).bind λ_ M=>Rs.ok (isS 1 [115,116,114,101,97,109] (nm1 t::sg1 41::R),s) M)=_;unfold ade;rw [o,Ae,anr m,Rs.bind_ok,aed,Rs.bind_ok]
def bby (x:PV):PV:=PV.agg [PV.str (x.fld 0).asStr,PV.str (x.fld 1).asStr,PV.str (x.fld 2).asStr,PV.int (x.fld 3).asInt,PV.slice (af1 (x.fld 4).asList)]
theorem bgm {a:Int} (d:1<=a) (m:a<=4):bcw ((a==3)||(a==4)) ((a==2)||(a==4))=a:=by rcases (show a=1\/a=2\/a=3\/a=4 by omega) with rfl | rfl | rfl | rfl<;>rfl
theorem bm5 {x:PV} (g:MethGood x) (R:List Tk):rpcS parV aad (axt x R)=.ok (bby x) R:=by obtain ⟨d,m,o,z,H⟩:=g.parts;have M:=ajw g.nt g.ok.note (sg1 59::R) rfl;unfold rpcS axt;rw [asq,Rs.bind_ok,aq3 d,Rs.bind_ok,bcz m z,Rs.bind_ok,asq,Rs.bind_ok,bcz o H,Rs.bind_ok,M,Rs.bind_ok,aed,Rs.bind_ok,bgm g.sh0 g.sh1];rfl
theorem bkl (R:List Tk):∀ (l d:List PV),(∀ x,x∈l->MethGood x)->arc parV aad (l.foldr axt (sg1 125::R)) d=.ok (d++l.map bby) R:=by
 intro l;induction l with
 | nil=>grind [avm,ba1]
 | cons x l H=>intro d h;rw [List.foldr_cons,avm];have m:isS 4 [125] (axt x (l.foldr axt (sg1 125::R)))=false:=rfl;rw [m,Ae,bm5 (h x (by simp)),Rs.bind_ok,H _ λz o=>h z (by simp [o])];simp
def as2 (m:PV):PV:=PV.agg [PV.str (m.fld 0).asStr,PV.slice ((m.fld 1).asList.map bby),PV.slice (af1 (m.fld 2).asList)]
theorem bna {m:PV} (g:SvcGood m) (R:List Tk):svcS parV aad (svcK m R)=.ok (as2 m) R:=by have o:=ajw g.nt g.ok.ok.note (sg1 123::((m.fld 1).asList.foldr axt (sg1 125::R))) rfl;have d:=bkl R _ [] g.meths;unfold svcS svcK;rw [asq,Rs.bind_ok,au1 g.nm,Rs.bind_ok,o,Rs.bind_ok,aed,Rs.bind_ok,d,Rs.bind_ok];rfl
theorem a9q (l:List PV):∀ b:FB,(∀ x,x∈l->SvcGood x)->af7 parV aad (l.foldr svcK []) b=.ok { b with ss:=b.ss++l.map as2 } []:=by
 induction l with
 | nil=>intro b _;rw [List.foldr_nil,amu];simp
 | cons x l d=>intro b h;rw [List.foldr_cons,amu];show (svcS parV aad (svcK x (l.foldr svcK []))).bind (λx r=>af7 parV aad r { b with ss:=b.ss++[x] })=_;grind [bna,Rs.bind_ok]
theorem a5h (R:List Tk) (l:List PV):∀ b:FB,(∀ x,x∈l->EnumGood x)->af7 parV aad (l.foldr ahp R) b=af7 parV aad R { b with es:=b.es++l.map a6z }:=by
 induction l with
 | nil=>intro b _;simp
 | cons x l M=>
  intro b h;rw [List.foldr_cons,amu];have e:∀ r,(ahp x r).isEmpty=false/\isS 1 [109,101,115,115,97,103,101] (ahp x r)=false/\(isS 1 [101,110,117,109] (ahp x r)||isS 1 [111,112,101,110] (ahp x r))=true:=λr=>by unfold ahp;cases (x.fld 1).asBool<;>exact ⟨rfl,rfl,rfl⟩
  obtain ⟨d,m,o⟩:=e (l.foldr ahp R);rw [d,m,o,Ae,Ae,Ad,bi0 (h x (by simp)),Rs.bind_ok,M _ λz H=>h z (by simp [H])];simp
theorem a9p (R:List Tk) (l:List PV):∀ b:FB,(∀ x,x∈l->MsgGood x/\∀ y,y∈(x.fld 2).asList->ae7 65535 y=true)->af7 parV aad (l.foldr msgK R) b=af7 parV aad R { b with ms:=b.ms++l.map a0r }:=by
 induction l with
 | nil=>intro b _;simp
 | cons x l d=>intro b h;rw [List.foldr_cons,amu];show (msgS parV aad 16 [] b.ms b.es (msgK x (l.foldr msgK R))).bind (λx r=>af7 parV aad r { b with ms:=x.1,es:=x.2 })=_;grind [bmk,Rs.bind_ok]
theorem bdb (f:PV) {w:Bo} (d:w≠[109,101,115,115,97,103,101]) (m:w≠[101,110,117,109]) (o:w≠[111,112,101,110]) (z:w≠[115,101,114,118,105,99,101]):isS 1 w (ahc f)=false:=by
 unfold ahc;cases (f.fld 3).asList with
 | cons x l=>exact (by rw [List.foldr_cons];show ((1:Int)==1&&[109,101,115,115,97,103,101]==w)=false;grind)
 | nil=>
  cases (f.fld 4).asList with
  | cons x l=>
   rw [List.foldr_nil,List.foldr_cons];unfold ahp;cases (x.fld 1).asBool
   ·show ((1:Int)==1&&[101,110,117,109]==w)=false;grind
   ·show ((1:Int)==1&&[111,112,101,110]==w)=false;grind
  | nil=>
   cases (f.fld 5).asList with
   | cons x l=>exact (by rw [List.foldr_nil,List.foldr_nil,List.foldr_cons];show ((1:Int)==1&&[115,101,114,118,105,99,101]==w)=false;grind)
   | nil=>rfl
theorem a57 (f:PV):∀ (l d:List PV),ady (l.foldr impK (ahc f)) d=.ok (d++l.map anf) (ahc f):=by
 intro l;induction l with
 | nil=>intro d;rw [List.foldr_nil,ajo,bdb f (by decide) (by decide) (by decide) (by decide)];simp
 | cons x l o=>intro d;rw [List.foldr_cons,ajo];show (eatS 4 [59] (sg1 59::l.foldr impK (ahc f))).bind (λ_ m=>ady m (d++[PV.str x.asStr]))=_;grind [aed,Rs.bind_ok,anf]
def apa (d:Bo) (f:PV):PV:=PV.agg [PV.str d,PV.str (f.fld 1).asStr,PV.slice ((f.fld 2).asList.map anf),PV.slice ((f.fld 3).asList.map a0r),PV.slice ((f.fld 4).asList.map a6z),PV.slice ((f.fld 5).asList.map as2)]
theorem bje (d:Bo) {f:PV} (g:FileGood f) (O:∀ x,x∈(f.fld 3).asList->∀ y,y∈(x.fld 2).asList->ae7 65535 y=true):bac parV aad d (azy f)=.ok (apa d f) []:=by
 have H:=a57 f (f.fld 2).asList [];have z:af7 parV aad (ahc f) ⟨[],[],[]⟩=.ok ⟨(f.fld 3).asList.map a0r,(f.fld 4).asList.map a6z,(f.fld 5).asList.map as2⟩ []:=by unfold ahc;rw [a9p _ _ _ λx o=>⟨g.msg x o,O x o⟩,a5h _ _ _ g.enum,a9q _ _ g.svc];simp
 have m:ate (azy f)=.ok (f.fld 1).asStr ((f.fld 2).asList.foldr impK (ahc f)):=by
  unfold ate azy;cases h:((f.fld 1).asStr==([]:Bo)) with
  | true=>
   have U:(f.fld 1).asStr=[]:=by simpa using h
   have e:isS 1 [115,112,97,99,101] ((f.fld 2).asList.foldr impK (ahc f))=false:=by
    cases (f.fld 2).asList with
    | nil=>exact bdb f (by decide) (by decide) (by decide) (by decide)
    | cons x l=>rfl
   grind
  | false=>
   have M:(f.fld 1).asStr≠[]:=by simpa using h
   show (ajc 1 defP (nm1 (f.fld 1).asStr::sg1 59::(f.fld 2).asList.foldr impK (ahc f))).bind _=_;rw [anr (g.nm.resolve_left M),Rs.bind_ok,aed,Rs.bind_ok]
 unfold bac;rw [m,Rs.bind_ok,H,Rs.bind_ok,z,Rs.bind_ok];rfl
end
end Go.Ab
namespace Go.Ab
open Go
set_option maxRecDepth 100000
noncomputable section
theorem bg9 {s:Bo}{l:List Tk} (h:TksT s l):∀ k,k∈l->k.s.length<=s.length:=by
 induction h with
 | nil=>intro k d;cases d
 | sp _ _ m=>intro k d;have:=m k d;simp only [Ak];omega
 | tok o _ m=>
  intro k d;rw [Al];rcases Bl.1 d with rfl | d
  ·cases o with
   | name _ _=>exact Nat.le_add_right _ _
   | int _ _=>exact Nat.zero_le _
   | text _=>exact Nat.le_trans (avh _) (Nat.le_add_right _ _)
   | sign _=>exact Nat.le_add_right _ _
  ·have:=m k d;omega
theorem a9h {f:PV} (d:chkF f=0):aeo f=true/\(akq f).length<=16384:=by
 unfold chkF at d;cases o:al3 f<;>rw [o] at d
 ·cases d
 cases z:aeo f<;>rw [z] at d
 ·cases d
 cases H:ars f<;>rw [H] at d
 ·cases d
 simp only [Ap,Ae] at d;by_cases m:ag4 f=0
 ·rw [m,show ((0:Int) != 0)=false from rfl,Ae] at d;cases M:aij f<;>rw [M] at d
  ·cases d
  simp only [Ap,Ae] at d;refine ⟨rfl,?_⟩;by_cases O:((akq f).length:Int)>16384
  ·rw [Aj O] at d;cases d
  ·omega
 ·rw [bneI m] at d;exact absurd d m
theorem bm0 (d:Bo) {f:PV} (h:OkFile f) (W:chkF f=0):F15 0 d (akq f)=some (apa d f,0,0):=by
 have g:=aw9 h W;obtain ⟨H,Y⟩:=a9h W;have Z:∀ x,x∈(f.fld 3).asList->∀ y,y∈(x.fld 2).asList->ae7 65535 y=true:=λx m y hy=>by unfold aeo at H;simp only [Ag] at H;have:=Bc.1 H.1.1 x m;unfold apr at this;simp only [Ag] at this;exact Bc.1 this.2 y hy
 have M:=bjf g;obtain ⟨xs,s2,V,X⟩:=bgl Y M;have o:=bkw M;have U:=bg9 M;rw [<-V,List.length_map] at o;have z:∀ x,x∈xs->(x.fld 1).asStr.length<=16384:=λx m=>by have:=U (tkOf x) (by rw [<-V];exact List.mem_map_of_mem m);have e:(tkOf x).s=(x.fld 1).asStr:=rfl;rw [e] at this;omega
 have ht:TNum xs:={ len:=by omega,txt:=λx m=>(X x m).2,num:=λx m=>(X x m).1,sml:=z };have O:ts xs 0=azy f:=by unfold ts;rw [A4,V]
 rw [ax1 parOk d (akq f) xs 0 s2 ht (by omega)];unfold bjd;rw [O,bje d g Z]
theorem bcf (f:PV) (h:OkFile f) (H:aar f<=1048576) (M:∃ b,F38 0 f=some b) (U:chkF f=0->apa (f.fld 0).asStr f=f):F12 0 f=some true:=by
 obtain ⟨r,O⟩:=M;unfold F12;simp only [O,Aa,bhu f h,aov];cases r
 ·rfl
 by_cases d:chkF f=0
 ·have m:=bga f h;have o:=bm0 (f.fld 0).asStr h d;have z:=bgh f f H;rw [azx] at z;rw [U d] at o;rw [d] at m;have m:F41 0 f=some (akq f):=m;simp only [d,m,o,Aa,z,Ap,Ae,show ((0:Int) != 0)=false from rfl,Bk,Ad];rfl
 ·simp [d,bneI d]
end
end Go.Ab
namespace Go.Ab
open Go Go.Proofs Go.Proofs.YtcpkdafleaddlaaGreatDoor
theorem ac0 {P:Program}{n:Nat}{T:TypeId}{v:PV}{fs:Array Field} (h:aax P n T v) (M:P.underlying T=some (.struct fs)) (i:Nat) (f:Field) (o:fs[i]?=some f):∃ m,aax P m f.type (v.fld i):=by
 obtain ⟨d,m,rfl,H,O⟩:=abt h M;have z:i<d.length:=by rw [H];exact (Array.getElem?_eq_some_iff.1 o).1
 refine ⟨m,O i _ f ?_ o⟩;show d[i]?=some (d.getD i .bad);rw [afp z];exact Ar z
theorem akr {P:Program}{n:Nat}{T E:TypeId}{v:PV} (h:aax P n T v) (o:P.underlying T=some (.slice E)):∀ x,x∈v.asList->∃ m,aax P m E x:=by obtain ⟨xs,m,rfl,z⟩:=afq h o;exact λx d=>⟨m,z x d⟩
theorem bfld {v:PV}{n:Nat} (d:aar v<=n) (i:Nat):aar (v.fld i)<=n:=Nat.le_trans (awn v i) d
theorem bel {v:PV}{n:Nat} (z:aar v<=n):∀ x,x∈v.asList->aar x<=n:=λx d=>by have m:=asm v;have o:=aki d;omega
theorem bstr {v:PV}{n:Nat} (d:aar v<=n):v.asStr.length<=n:=by have:=a2a v;omega
theorem aif {v:PV}{n:Nat} (d:aar v<=n):v.asList.length<=n:=by have:=aig v;omega
theorem aru {n:Nat}{v:PV} (h:aax Tryz.prog n 51 v) (o:aar v<=1048576):aea v:=by
 obtain ⟨M,m,rfl,H,z⟩:=abt h Tryz.underlying51;match M,H with
 | [a0,a1,a2,a3,a4,a5,a6],_=>
  obtain ⟨b,rfl,d⟩:=a2n (z 1 a1 _ rfl rfl) Tryz.underlying45;have U:=aig a3;have V:=aig a4;have W:=aig a5;have X:=aig a6;have O:=a2a a2;have d:=bounds_u64 d;simp only [aar,abq] at o;refine ⟨?_,?_,?_,?_⟩
  ·show a3.asList.length+a4.asList.length+a5.asList.length+a6.asList.length<=1048576;omega
  ·show a2.asStr.length<=1048576;omega
  ·exact d.1
  ·show b<18446744073709551616;omega
theorem a7c {n:Nat}{v:PV} (h:aax Tryz.prog n 116 v) (d:aar v<=1048576):acj v:=by obtain ⟨m,g⟩:=ac0 h Tryz.underlying116 1 _ rfl;exact ⟨aru g (bfld d 1),bstr (bfld d 0)⟩
theorem ajx {n:Nat}{v:PV} (h:aax Tryz.prog n 52 v) (o:aar v<=1048576):∀ x,x∈v.asList->acj x:=λx d=>by obtain ⟨m,g⟩:=akr h Tryz.underlying52 x d;exact a7c g (bel o x d)
theorem bl2 {n:Nat}{x:PV} (h:aax Tryz.prog n 54 x) (d:aar x<=1048576):OkFld x:=by obtain ⟨z,m⟩:=ac0 h Tryz.underlying54 7 _ rfl;obtain ⟨H,o⟩:=ac0 h Tryz.underlying54 8 _ rfl;exact ⟨bstr (bfld d 1),bstr (bfld (bfld d 4) 1),bstr (bfld d 5),aru m (bfld d 7),aif (bfld d 8),ajx o (bfld d 8)⟩
theorem bmn {n:Nat}{x:PV} (h:aax Tryz.prog n 63 x) (d:aar x<=1048576):OkMsg x:=by obtain ⟨M,z⟩:=ac0 h Tryz.underlying63 1 _ rfl;obtain ⟨O,H⟩:=ac0 h Tryz.underlying63 4 _ rfl;refine ⟨bstr (bfld d 0),aif (bfld d 1),λy o=>?_,aif (bfld d 2),aif (bfld d 3),λy o=>bstr (bel (bfld d 3) y o),aif (bfld d 4),ajx H (bfld d 4)⟩;obtain ⟨m,g⟩:=akr z Tryz.underlying60 y o;exact bl2 g (bel (bfld d 1) y o)
theorem bjp {n:Nat}{x:PV} (h:aax Tryz.prog n 182 x) (d:aar x<=1048576):OkItem x:=by obtain ⟨o,m⟩:=ac0 h Tryz.underlying182 2 _ rfl;exact ⟨bstr (bfld d 0),aif (bfld d 2),ajx m (bfld d 2)⟩
theorem bi3 {n:Nat}{x:PV} (h:aax Tryz.prog n 127 x) (d:aar x<=1048576):OkEnum x:=by obtain ⟨M,z⟩:=ac0 h Tryz.underlying127 2 _ rfl;obtain ⟨O,H⟩:=ac0 h Tryz.underlying127 4 _ rfl;refine ⟨bstr (bfld d 0),aif (bfld d 2),λy o=>?_,aif (bfld d 3),aif (bfld d 4),ajx H (bfld d 4)⟩;obtain ⟨m,g⟩:=akr z Tryz.underlying125 y o;exact bjp g (bel (bfld d 2) y o)
theorem bj4 {n:Nat}{x:PV} (h:aax Tryz.prog n 188 x) (d:aar x<=1048576):OkMeth x:=by obtain ⟨o,m⟩:=ac0 h Tryz.underlying188 4 _ rfl;exact ⟨bstr (bfld d 0),bstr (bfld d 1),bstr (bfld d 2),aif (bfld d 4),ajx m (bfld d 4)⟩
theorem bnf {n:Nat}{x:PV} (h:aax Tryz.prog n 130 x) (d:aar x<=1048576):OkSvc x:=by obtain ⟨M,z⟩:=ac0 h Tryz.underlying130 1 _ rfl;obtain ⟨O,H⟩:=ac0 h Tryz.underlying130 2 _ rfl;refine ⟨bstr (bfld d 0),aif (bfld d 1),λy o=>?_,aif (bfld d 2),ajx H (bfld d 2)⟩;obtain ⟨m,g⟩:=akr z Tryz.underlying128 y o;exact bj4 g (bel (bfld d 1) y o)
theorem aq4 (i:Nat):∀ l:List PV,aeh l i<=2*abq l:=by
 intro l;induction l with
 | nil=>exact Nat.le_refl _
 | cons m r z=>have d:=aif (bfld (Nat.le_refl (aar m)) i);have o:=amr m;show (m.fld i).asList.length+1+aeh r i<=2*(aar m+abq r);omega
theorem bhx {n:Nat}{f:PV} (h:aax Tryz.prog n 28 f) (d:aar f<=1048576):OkFile f:=by
 obtain ⟨O,z⟩:=ac0 h Tryz.underlying28 3 _ rfl;obtain ⟨U,H⟩:=ac0 h Tryz.underlying28 4 _ rfl;obtain ⟨V,M⟩:=ac0 h Tryz.underlying28 5 _ rfl;refine ⟨bstr (bfld d 1),aif (bfld d 2),λy o=>bstr (bel (bfld d 2) y o),aif (bfld d 3),λy o=>?_,aif (bfld d 4),λy o=>?_,aif (bfld d 5),λy o=>?_,?_⟩
 ·obtain ⟨m,g⟩:=akr z Tryz.underlying24 y o;exact bmn g (bel (bfld d 3) y o)
 ·obtain ⟨m,g⟩:=akr H Tryz.underlying25 y o;exact bi3 g (bel (bfld d 4) y o)
 ·obtain ⟨m,g⟩:=akr M Tryz.underlying26 y o;exact bnf g (bel (bfld d 5) y o)
 ·have W:=aq4 1 (f.fld 3).asList;have X:=aq4 2 (f.fld 4).asList;have Y:=aq4 1 (f.fld 5).asList;have Z:=bsub d 3;have q4:=bsub d 4;have q5:=bsub d 5;omega
end Go.Ab
namespace Go.Ab
open Go Go.Proofs Go.Proofs.YtcpkdafleaddlaaGreatDoor
theorem acq {P:Program}{n:Nat}{T:TypeId}{v:PV} (h:aax P n T v) (d:P.underlying T=some .string):v=.str v.asStr:=by
 cases n with
 | zero=>cases h
 | succ n=>simp only [aax,d] at h;obtain ⟨s,rfl⟩:=h;rfl
theorem axf {P:Program}{n:Nat}{T:TypeId}{v:PV} (h:aax P n T v) (d:P.underlying T=some .bool):v=.bool v.asBool:=by
 cases n with
 | zero=>cases h
 | succ n=>simp only [aax,d] at h;obtain ⟨s,rfl⟩:=h;rfl
theorem aev {P:Program}{n:Nat}{T:TypeId}{k:IntKind}{v:PV} (h:aax P n T v) (d:P.underlying T=some (.int k)):v=.int v.asInt:=by obtain ⟨m,rfl,_⟩:=a2n h d;rfl
theorem alh {P:Program}{n:Nat}{T E:TypeId}{v:PV} (h:aax P n T v) (d:P.underlying T=some (.slice E)):v=.slice v.asList:=by obtain ⟨xs,m,rfl,_⟩:=afq h d;rfl
theorem list0 {v:PV} (h:v=.slice v.asList) (d:v.asList.length=0):v=.slice []:=by grind
theorem ao6 {d:Type}{f:d->d}:∀ (l:List d),(∀ x,x∈l->f x=x)->l.map f=l:=by
 intro l;induction l with
 | nil=>intro _;rfl
 | cons x l m=>grind
theorem bhw {n:Nat}{v:PV} (h:aax Tryz.prog n 51 v) (z:vLists v=0):ag2 v=v:=by
 obtain ⟨H,m,rfl,o,d⟩:=abt h Tryz.underlying51;match H,o with
 | [a0,a1,a2,a3,a4,a5,a6],_=>have M:=aev (d 0 a0 _ rfl rfl) Tryz.underlying3;have O:=aev (d 1 a1 _ rfl rfl) Tryz.underlying45;have U:=acq (d 2 a2 _ rfl rfl) Tryz.underlying9;have V:=alh (d 3 a3 _ rfl rfl) Tryz.underlying46;have W:=alh (d 4 a4 _ rfl rfl) Tryz.underlying47;have X:=alh (d 5 a5 _ rfl rfl) Tryz.underlying48;have Y:=alh (d 6 a6 _ rfl rfl) Tryz.underlying49;have z:a3.asList.length+a4.asList.length+a5.asList.length+a6.asList.length=0:=z;show PV.agg [PV.int a0.asInt,PV.int a1.asInt,PV.str a2.asStr,.slice [],.slice [],.slice [],.slice []]=_;grind [list0]
theorem bi9 {n:Nat}{v:PV} (h:aax Tryz.prog n 116 v) (M:abk v=true):ava v=v:=by
 obtain ⟨O,m,rfl,d,o⟩:=abt h Tryz.underlying116;match O,d with
 | [a0,a1],_=>have z:=acq (o 0 a0 _ rfl rfl) Tryz.underlying9;have H:=bhw (o 1 a1 _ rfl rfl) (a03 M);show PV.agg [PV.str a0.asStr,ag2 a1]=_;rw [<-z,H]
theorem ajl {n:Nat}{v:PV} (h:aax Tryz.prog n 52 v) (o:v.asList.all abk=true):PV.slice (af1 v.asList)=v:=by obtain ⟨xs,m,rfl,z⟩:=afq h Tryz.underlying52;show PV.slice (xs.map ava)=_;rw [ao6 xs λx d=>bi9 (z x d) (Bc.1 o x d)]
theorem bjb {n:Nat}{v:PV} (h:aax Tryz.prog n 40 v):al6 v=v:=by
 obtain ⟨z,m,rfl,d,o⟩:=abt h Tryz.underlying40;match z,d with
 | [a0,a1],_=>have H:=aev (o 0 a0 _ rfl rfl) Tryz.underlying3;have M:=acq (o 1 a1 _ rfl rfl) Tryz.underlying9;show PV.agg [PV.int a0.asInt,PV.str a1.asStr]=_;grind
theorem blw {n:Nat}{x:PV} (h:aax Tryz.prog n 54 x) (g:RowGood x):al5 x=x:=by
 have O:=g.lists;have d:=g.right;have U:=g.nt;obtain ⟨V,m,rfl,z,o⟩:=abt h Tryz.underlying54;match V,z with
 | [a0,a1,a2,a3,a4,a5,a6,a7,a8],_=>
  have W:=aev (o 0 a0 _ rfl rfl) Tryz.underlying3;have X:=acq (o 1 a1 _ rfl rfl) Tryz.underlying9;have Y:=aev (o 2 a2 _ rfl rfl) Tryz.underlying3;have Z:=aev (o 3 a3 _ rfl rfl) Tryz.underlying3;have h4:=bjb (o 4 a4 _ rfl rfl);have h5:=acq (o 5 a5 _ rfl rfl) Tryz.underlying9;have h6:=axf (o 6 a6 _ rfl rfl) Tryz.underlying4;have H:=bhw (o 7 a7 _ rfl rfl) O;have h8:=ajl (o 8 a8 _ rfl rfl) U;have hd:(bif a6.asBool then ag2 a7 else ah6)=a7:=by
   cases M:a6.asBool with
   | true=>exact H
   | false=>have d:(bif !a6.asBool then isV 0 0 [] a7 else _)=true:=d;rw [M] at d;have d:isV 0 0 [] a7=true:=d;unfold isV at d;simp only [Ag,Bi] at d;rw [<-H];unfold ag2;rw [d.1.1.1,d.1.1.2,d.1.2];rfl
  show PV.agg [PV.int a0.asInt,PV.str a1.asStr,PV.int a2.asInt,PV.int a3.asInt,al6 a4,PV.str a5.asStr,PV.bool a6.asBool,(bif a6.asBool then ag2 a7 else ah6),PV.slice (af1 a8.asList)]=_;grind
theorem bja {n:Nat}{v:PV} (h:aax Tryz.prog n 234 v):aku v=v:=by
 obtain ⟨z,m,rfl,d,o⟩:=abt h Tryz.underlying234;match z,d with
 | [a0,a1],_=>have H:=aev (o 0 a0 _ rfl rfl) Tryz.underlying3;have M:=aev (o 1 a1 _ rfl rfl) Tryz.underlying3;show PV.agg [PV.int a0.asInt,PV.int a1.asInt]=_;grind
theorem a2j {n:Nat}{v:PV} (h:aax Tryz.prog n 61 v):PV.slice (v.asList.map aku)=v:=by obtain ⟨xs,m,rfl,d⟩:=afq h Tryz.underlying61;show PV.slice (xs.map aku)=_;grind [ao6,bja]
theorem a94 {n:Nat}{v:PV} (h:aax Tryz.prog n 23 v):PV.slice (v.asList.map anf)=v:=by obtain ⟨xs,m,rfl,d⟩:=afq h Tryz.underlying23;show PV.slice (xs.map anf)=_;grind [ao6,anf,acq,Tryz.underlying9]
theorem amw {n:Nat}{T E:TypeId}{v:PV} (h:aax Tryz.prog n T v) (H:Tryz.prog.underlying T=some (.slice E)) {f:PV->PV}{P:PV->Prop} (z:∀ x,x∈v.asList->P x) (o:∀ m x,aax Tryz.prog m E x->P x->f x=x):PV.slice (v.asList.map f)=v:=by obtain ⟨xs,m,rfl,M⟩:=afq h H;show PV.slice (xs.map f)=_;rw [ao6 xs λx d=>o _ x (M x d) (z x d)]
theorem blx {n:Nat}{x:PV} (h:aax Tryz.prog n 63 x) (g:MsgGood x):a0r x=x:=by
 have z:=g.nt;have M:=g.rows;obtain ⟨U,m,rfl,o,d⟩:=abt h Tryz.underlying63;match U,o with
 | [a0,a1,a2,a3,a4],_=>have V:=acq (d 0 a0 _ rfl rfl) Tryz.underlying9;have W:=amw (d 1 a1 _ rfl rfl) Tryz.underlying60 M λm x O H=>blw O H;have X:=a2j (d 2 a2 _ rfl rfl);have Y:=a94 (d 3 a3 _ rfl rfl);have Z:=ajl (d 4 a4 _ rfl rfl) z;show PV.agg [PV.str a0.asStr,PV.slice (a1.asList.map al5),PV.slice (a2.asList.map aku),PV.slice (a3.asList.map anf),PV.slice (af1 a4.asList)]=_;grind
theorem bi7 {n:Nat}{x:PV} (h:aax Tryz.prog n 182 x) (g:ItemGood x):a7a x=x:=by
 have z:=g.nt;obtain ⟨H,m,rfl,o,d⟩:=abt h Tryz.underlying182;match H,o with
 | [a0,a1,a2],_=>have M:=acq (d 0 a0 _ rfl rfl) Tryz.underlying9;have O:=aev (d 1 a1 _ rfl rfl) Tryz.underlying3;have U:=ajl (d 2 a2 _ rfl rfl) z;show PV.agg [PV.str a0.asStr,PV.int a1.asInt,PV.slice (af1 a2.asList)]=_;grind
theorem bi5 {n:Nat}{x:PV} (h:aax Tryz.prog n 127 x) (g:EnumGood x):a6z x=x:=by
 have z:=g.nt;have M:=g.items;obtain ⟨U,m,rfl,o,d⟩:=abt h Tryz.underlying127;match U,o with
 | [a0,a1,a2,a3,a4],_=>have V:=acq (d 0 a0 _ rfl rfl) Tryz.underlying9;have W:=axf (d 1 a1 _ rfl rfl) Tryz.underlying4;have X:=amw (d 2 a2 _ rfl rfl) Tryz.underlying125 M λm x O H=>bi7 O H;have Y:=a2j (d 3 a3 _ rfl rfl);have Z:=ajl (d 4 a4 _ rfl rfl) z;show PV.agg [PV.str a0.asStr,PV.bool a1.asBool,PV.slice (a2.asList.map a7a),PV.slice (a3.asList.map aku),PV.slice (af1 a4.asList)]=_;grind
theorem bi8 {n:Nat}{x:PV} (h:aax Tryz.prog n 188 x) (g:MethGood x):bby x=x:=by
 have z:=g.nt;obtain ⟨H,m,rfl,o,d⟩:=abt h Tryz.underlying188;match H,o with
 | [a0,a1,a2,a3,a4],_=>have M:=acq (d 0 a0 _ rfl rfl) Tryz.underlying9;have O:=acq (d 1 a1 _ rfl rfl) Tryz.underlying9;have U:=acq (d 2 a2 _ rfl rfl) Tryz.underlying9;have V:=aev (d 3 a3 _ rfl rfl) Tryz.underlying3;have W:=ajl (d 4 a4 _ rfl rfl) z;show PV.agg [PV.str a0.asStr,PV.str a1.asStr,PV.str a2.asStr,PV.int a3.asInt,PV.slice (af1 a4.asList)]=_;grind
theorem bly {n:Nat}{x:PV} (h:aax Tryz.prog n 130 x) (g:SvcGood x):as2 x=x:=by
 have z:=g.nt;have M:=g.meths;obtain ⟨U,m,rfl,o,d⟩:=abt h Tryz.underlying130;match U,o with
 | [a0,a1,a2],_=>have V:=acq (d 0 a0 _ rfl rfl) Tryz.underlying9;have W:=amw (d 1 a1 _ rfl rfl) Tryz.underlying128 M λm x O H=>bi8 O H;have X:=ajl (d 2 a2 _ rfl rfl) z;show PV.agg [PV.str a0.asStr,PV.slice (a1.asList.map bby),PV.slice (af1 a2.asList)]=_;grind
theorem bi6 {n:Nat}{f:PV} (h:aax Tryz.prog n 28 f) (g:FileGood f):apa (f.fld 0).asStr f=f:=by
 have O:=g.msg;have M:=g.enum;have U:=g.svc;obtain ⟨V,m,rfl,H,d⟩:=abt h Tryz.underlying28;match V,H with
 | [a0,a1,a2,a3,a4,a5],_=>have W:=acq (d 0 a0 _ rfl rfl) Tryz.underlying9;have X:=acq (d 1 a1 _ rfl rfl) Tryz.underlying9;have Y:=a94 (d 2 a2 _ rfl rfl);have Z:=amw (d 3 a3 _ rfl rfl) Tryz.underlying24 O λm x z o=>blx z o;have h4:=amw (d 4 a4 _ rfl rfl) Tryz.underlying25 M λm x z o=>bi5 z o;have h5:=amw (d 5 a5 _ rfl rfl) Tryz.underlying26 U λm x z o=>bly z o;show PV.agg [PV.str a0.asStr,PV.str a1.asStr,PV.slice (a2.asList.map anf),PV.slice (a3.asList.map a0r),PV.slice (a4.asList.map a6z),PV.slice (a5.asList.map as2)]=_;grind
end Go.Ab
