/- Go's library: contracts of the functions that are not printed. -/
import Derived.Test.YtodichgnoiaanaaGreatDoorAbBldE
import Derived.Lib.ItoaNum
import Derived.Lib.Join
import Derived.Lib.Repeat
import Derived.Sort.Grow
import Derived.Lib.LaidTab
set_option linter.unusedVariables false
set_option linter.unusedSimpArgs false
set_option linter.unnecessarySimpa false
namespace Go.Ab
open Go Go.Proofs Go.RowKit
theorem aev {P:Program}{f:FuncId}{args rs:List SV} (he:amw P f) (h:∀ (D:Dom) (ow:Own) (μ:Nat->Nat) (w:World) (z:Array Value),Pre P D ow μ [] w args z->Calls P f z w λe w'=>∃ v,e=.returned v/\a1j P D w' (adg rs) v/\Below w.heap.size w w'):Meets P f args [] rs []:=by refine ⟨he,λD ow μ w z I=>(h D ow μ w z I).mono ?_⟩;rintro e w' ⟨v,rfl,Z,H⟩;obtain ⟨M,O⟩:=afa (Z (λ_=>none) μ []);refine ⟨v,D,O.symm,λ_ _ d=>d,λ_ _ d=>Or.inl d,⟨λ_=>none,μ,⟨λk b h=>(by simp at h),λb k h=>(by cases h),λb o d=>Az (I.dlt b o d) H.size,λb k x h=>(by cases h)⟩,M,λb k h=>(by cases h),λk b h=>(by simp at h),λk E g xs ys h=>(by simp at h)⟩,H.os,H.tape,H.output,H.size,λb J _=>H.block b J,Keeps.of_heap λb o d=>H.block b (I.dlt b o d)⟩
theorem ap7 (w:World) (k:Nat) (h:Array Obj):Below w.heap.size w (Sort.grow (w.drewN k) h):=by refine ⟨rfl,rfl,rfl,by simp_all,λb o=>?_⟩;show ((w.drewN k).heap++h)[b]?=_;rw [Array.getElem?_append_left (by exact o)];rfl
def decF:Nat->Nat->Bo
 | 0,_=>[]
 | f+1,u=>bif Nat.ble u 9 then [UInt8.ofNat (48+u)] else decF f (u / 10)++[UInt8.ofNat (48+u%10)]
theorem bb1:∀ (f u:Nat),u<10^(f+1)->decF (f+1) u=Lib.decDigits u:=by
 intro f;induction f with
 | zero=>
  intro u z;have o:Nat.ble u 9=true:=by rw [Nat.ble_eq];omega
  rw [Lib.decDigits,dif_pos (by omega)];simp only [decF,o,Af]
 | succ f H=>
  intro u z;rw [Lib.decDigits];by_cases h:u<10
  ·have o:Nat.ble u 9=true:=by rw [Nat.ble_eq];omega
   rw [dif_pos h,decF,o];rfl
  ·have o:Nat.ble u 9=false:=by rw [<-Bool.not_eq_true,Nat.ble_eq];omega
   rw [dif_neg h,decF,o];grind
def decB (u:Nat):Bo:=decF 20 u
theorem aq7 {u:Nat} (h:u<100000000000000000000):decB u=Lib.decDigits u:=bb1 19 u (by simpa using h)
def apm (n:Int):Bo:=bif decide (n<0) then 45::decB n.natAbs else decB n.toNat
theorem a8t {n:Int} (o:-9223372036854775808<=n) (z:n<=9223372036854775807):apm n=Lib.itoa n:=by
 unfold apm Lib.itoa;by_cases h:n<0
 ·simp only [h,decide_true,Af,A9];grind [aq7]
 ·simp only [h,decide_false,Ah,Bb];grind [aq7]
theorem ber {ow:Own}{w:World} (h:Tabs Tryz.prog ow w):Lib.TabIs Tryz.prog w "internal/strconv.uint64pow10" .u64 Lib.pow10Tab:=by
 have z:Tryz.prog.globalNamed "internal/strconv.uint64pow10"=some 1:=by kernel_rfl
 obtain ⟨_,cs,T,I,H,o⟩:=h _ (List.mem_cons_self ..) _ z;have o:cs=((List.range 20).map λi=>Value.int .u64 ((10^i:Nat):Int)).toArray:=o;subst o;simp [Lib.TabIs,World.var?,z,H,Lib.pow10Tab]
theorem bev {P:Program}{D:Dom}{ow:Own}{μ:Nat->Nat}{st:List BX}{w:World}{s:SV}{h:Array Value} (o:Pre P D ow μ st w [s] h):∃ v,h=#[v]/\SRep P D w ow μ st s v:=by
 have:=o.size;match h,this,o with
 | ⟨[a]⟩,_,o=>exact ⟨a,rfl,o.arg 0 _ a rfl rfl⟩
theorem bax {P:Program}{D:Dom}{ow:Own}{μ:Nat->Nat}{st:List BX}{w:World}{s t:SV}{o:Array Value} (h:Pre P D ow μ st w [s,t] o):∃ u v,o=#[u,v]/\SRep P D w ow μ st s u/\SRep P D w ow μ st t v:=by
 have:=h.size;match o,this,h with
 | ⟨[a,b]⟩,_,h=>exact ⟨a,b,rfl,h.arg 0 _ a rfl rfl,h.arg 1 _ b rfl rfl⟩
def as2 (h:Nat) (n:Int):Option Bo:=bif decide (-9223372036854775808<=n)&&decide (n<=9223372036854775807) then some (apm n) else none
def a1l (h:Nat):CallE:={ f:=37,A:=⟨1,[],[.int .i64]⟩,R:=⟨1,[],[.str]⟩,F:=λx=>as2 h x,dflt:=[] }
theorem a1m (o:Nat):(a1l o).Ok Tryz.prog:=by intro n y h;have h:as2 o n=some y:=h;unfold as2 at h;obtain ⟨z,rfl⟩:=aaz h;simp only [Aj,A4] at z;refine aev (aa4 Tryz.func37 (by kernel_rfl) (by kernel_rfl)) (λD ow μ w I H=>?_);obtain ⟨v,rfl,J⟩:=bev H;cases J;refine (Tryz.strconv_Itoa n z.1 z.2 w (ber H.tabs)).mono ?_;rintro e w' ⟨rfl,k,M,rfl⟩;refine ⟨_,rfl,λO Z st'=>?_,ap7 w k M⟩;rw [<-a8t z.1 z.2];exact .str
theorem a5q {P:Program}{D:Dom}{w:World}{T:TypeId}{p:PV}{cs:List Value} (h:Rep P D w T p cs) (o:P.underlying T=some .string):cs=[.string ⟨p.asStr.toArray⟩]:=by
 cases h with
 | str _=>rfl
 | raw h=>simp [rawT,o] at h
 | bool h=>grind
 | int h=>grind
 | nil h=>grind
 | slice h=>grind
 | agg h=>grind
 | arr h=>grind
 | mapnil h=>grind
 | map _ _ h=>grind
theorem bes {L:List Value}{j:Nat}{v:Value} (h:(L.drop (j*1)).take 1=[v]):L[j]?=some v:=by
 have o:((L.drop (j*1)).take 1)[0]?=some v:=by rw [h];rfl
 grind
def a7b (o:Nat) (xs:List PV) (h:Bo):Option Bo:=
 bif Nat.ble xs.length 140737488355328&&Nat.ble (h.intercalate (xs.map PV.asStr)).length 140737488355328 then some (h.intercalate (xs.map PV.asStr)) else none
def ba0 (h:Nat):CallE:={ f:=35,A:=⟨2,[],[.slice 9,.str]⟩,R:=⟨1,[],[.str]⟩,F:=λx=>a7b h x.1 x.2,dflt:=[] }
theorem bbn (I:Nat):(ba0 I).Ok Tryz.prog:=by
 intro x y h;obtain ⟨xs,o⟩:=x;have h:a7b I xs o=some y:=h;unfold a7b at h;obtain ⟨hb,rfl⟩:=aaz h;simp only [Aj,Nat.ble_eq] at hb;refine aev (aa4 Tryz.func35 (by kernel_rfl) (by kernel_rfl)) (λD ow μ w ag ab=>?_);obtain ⟨v,u,rfl,M,h2⟩:=bax ab;cases h2;cases M with
 | slice M=>
  cases M with
  | @nil a c _=>refine (Tryz.strings_Join_none a c ⟨o.toArray⟩ w).mono ?_;rintro e w' ⟨rfl,rfl⟩;exact ⟨_,rfl,λaa ad st'=>.str,Below.refl _ _⟩
  | @mk b off cap _ L Z hL hr hh=>
   have O:Tryz.prog.cellsOf 9=1:=by kernel_rfl
   by_cases h0:xs.length=0
   ·have:xs=[]:=List.length_eq_zero_iff.1 h0;subst this;refine (Tryz.strings_Join_none (some ⟨b,off,none⟩) cap ⟨o.toArray⟩ w).mono ?_;rintro e w' ⟨rfl,rfl⟩;exact ⟨_,rfl,λaa ad st'=>.str,Below.refl _ _⟩
   ·have J:(xs.map λx=>(⟨x.asStr.toArray⟩:ByteArray)).map (λb=>b.data.toList)=xs.map PV.asStr:=by simp
    have H:∀ (j:Nat) x,(xs.map λx=>(⟨x.asStr.toArray⟩:ByteArray))[j]?=some x->w.cell? ⟨b,off+j,none⟩=some (.string x):=by intro j x hx;simp only [Bh,Option.map_eq_some_iff] at hx;obtain ⟨p,hp,rfl⟩:=hx;have z:=hr j p hp;rw [O] at z;have M:=bes (a5q z Tryz.underlying9);exact (hh j _ M).2
    have ae:b<w.heap.size:=by have hp:xs[0]?=some xs[0]:=Am (by omega);have z:=hr 0 _ hp;rw [O] at z;exact ab.dlt b _ (hh 0 _ (bes (a5q z Tryz.underlying9))).1
    have af:(Lib.join ((xs.map λx=>(⟨x.asStr.toArray⟩:ByteArray)).map (·.data.toList)) (⟨o.toArray⟩:ByteArray).data.toList)=o.intercalate (xs.map PV.asStr):=by rw [J];rfl
    have:=Tryz.strings_Join b off cap (xs.map λx=>(⟨x.asStr.toArray⟩:ByteArray)) ⟨o.toArray⟩ w H ae (by simpa using hb.1) (by simpa using Z) (by grind);rw [af,List.length_map] at this;refine this.mono ?_;rintro e w' ⟨rfl,hb⟩;exact ⟨_,rfl,λaa ad st'=>.str,hb⟩
def ak2 (h:Nat) (s:Bo) (c:Int):Option Bo:=
 bif decide (0<=c)&&decide (c<=9223372036854775807)&&Nat.ble (s.length*c.toNat) 140737488355328 then some (Lib.repeatL s c.toNat) else none
def ax2 (h:Nat):CallE:={ f:=237,A:=⟨2,[],[.str,.int .i64]⟩,R:=⟨1,[],[.str]⟩,F:=λx=>ak2 h x.1 x.2,dflt:=[] }
theorem a1n (o:Nat):(ax2 o).Ok Tryz.prog:=by intro x y h;obtain ⟨s,c⟩:=x;have h:ak2 o s c=some y:=h;unfold ak2 at h;obtain ⟨z,rfl⟩:=aaz h;simp only [Aj,Nat.ble_eq,A4] at z;obtain ⟨⟨O,h1⟩,h2⟩:=z;obtain ⟨n,rfl⟩:∃ n:Nat,c=(n:Int):=⟨c.toNat,(Int.toNat_of_nonneg O).symm⟩;refine aev (aa4 Tryz.func237 (by kernel_rfl) (by kernel_rfl)) (λD ow μ w I H=>?_);obtain ⟨v,u,rfl,J,M⟩:=bax H;cases J;cases M;refine (Tryz.strings_Repeat ⟨s.toArray⟩ n w (by omega) (by grind [ByteArray.size])).mono ?_;rintro e w' ⟨rfl,z⟩;exact ⟨_,rfl,λZ aa st'=>.str,z⟩
def abr (h:Nat) (s bs:Bo):Option (Int×Value×Bo):=bif Nat.ble (bs.length+s.length) 140737488355328 then some ((s.length:Int),.nilIface,bs++s) else none
def aqw (h:Nat) (bs:Bo):Option (Bo×Bo):=some (bs,bs)
def ad6 (h:Nat):CallE:={ f:=34,A:=⟨2,[.bld 93],[.con (.bref 0 93),.str,.str]⟩,R:=⟨2,[.bld 93],[.int .i64,.raw,.str]⟩,F:=λx=>abr h x.2.1 x.2.2,dflt:=(0,undef,[]) }
theorem ax6:bbl 93:=⟨by kernel_rfl,by decide,by kernel_rfl⟩
theorem afx (o:Nat):(ad6 o).Ok Tryz.prog:=by intro x y h;obtain ⟨_,s,bs⟩:=x;have h:abr o s bs=some y:=h;unfold abr at h;obtain ⟨z,rfl⟩:=aaz h;exact al3 ax6 bs s (by simpa using z)
def ajc (h:Nat):CallE:={ f:=39,A:=⟨1,[.bld 93],[.con (.bref 0 93),.str]⟩,R:=⟨1,[.bld 93],[.str,.str]⟩,F:=λx=>aqw h x.2,dflt:=([],[]) }
theorem al4 (o:Nat):(ajc o).Ok Tryz.prog:=by intro x y h;obtain ⟨_,bs⟩:=x;have h:some (bs,bs)=some y:=h;cases h;exact avb ax6 bs
end Go.Ab
