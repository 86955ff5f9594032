/- strings.Cut; slices.Compact at []string, on a row of the call's own. -/
import Derived.Test.YtjogoleiodbfdaaGreatDoorAbLibE
import Derived.Sort.EncStr
set_option linter.unusedVariables false
set_option linter.unusedSimpArgs false
set_option linter.unnecessarySimpa false
namespace Go.Ab
open Go Go.Proofs Go.Shelf Go.RowKit Go.Sort Go.Lib
theorem a6h {P:Program}{D:Dom}{ow:Own}{μ:Nat->Nat}{st:List BX}{w:World}{s t:SV}{o:Array Value} (h:Pre P D ow μ st w [s,t] o):∃ u v,o=#[u,v]/\SRep P D w ow μ st s u/\SRep P D w ow μ st t v:=by
 have:=h.size;match o,this,h with
 | ⟨[a,b]⟩,_,h=>exact ⟨a,b,rfl,h.arg 0 _ a rfl rfl,h.arg 1 _ b rfl rfl⟩
theorem a1b {P:Program}{ow:Own}{w:World} (I:Tabs P ow w) {g:Nat} (h:P.globalNamed "internal/bytealg.MaxLen"=some g):∃ m,w.cell? ⟨g,0,none⟩=some (.int .i64 m):=by obtain ⟨_,cs,T,J,o,m,H⟩:=I ("internal/bytealg.MaxLen",λcs=>∃ m,cs[0]?=some (.int .i64 m)) (by simp [amv]) g h;exact ⟨m,by simp [World.cell?,o,H]⟩
def Lcut (o:Nat) (s h:Bt):Option (Bt×Bt×Bool):=bif decide (s.length<4294967281) then some (Lib.cut s h) else none
def a7f (h:Nat):CallE:={ f:=68,A:=⟨2,[],[.str,.str]⟩,R:=⟨3,[],[.str,.str,.bool]⟩,F:=λx=>Lcut h x.1 x.2,dflt:=([],[],false) }
theorem a6m (o:Nat):(a7f o).Ok Tryz.prog:=by
 intro x y h;obtain ⟨s,M⟩:=x;have h:Lcut o s M=some y:=h;obtain ⟨O,rfl⟩:=aa3 h;have O:=of_decide_eq_true O;refine afy (abf Tryz.func68 (by kernel_rfl) (by kernel_rfl)) (λD ow μ w Z J=>?_);obtain ⟨u,v,rfl,h1,h2⟩:=a6h J;cases h1;cases h2;obtain ⟨m,hm⟩:=a1b (g:=0) J.tabs (by kernel_rfl);refine (Tryz.strings_Cut ⟨s.toArray⟩ ⟨M.toArray⟩ m w O hm).mono ?_;rintro e w' ⟨rfl,n,rfl⟩;refine ⟨_,rfl,λaa ab st'=>?_,⟨rfl,rfl,rfl,Nat.le_refl _,λb O=>rfl⟩⟩;refine .tup rfl (λi s' v' H I=>?_);match i,H,I with
 | 0,H,I=>cases H;cases I;exact .str
 | 1,H,I=>cases H;cases I;exact .str
 | 2,H,I=>cases H;cases I;exact .bool
end Go.Ab
