/- Clones that the awake wants. -/
import Derived.Test.YtofplaamkkpciaaGreatDoorGenR
set_option linter.unusedVariables false
set_option linter.unusedSimpArgs false
set_option linter.unnecessarySimpa false
namespace Go.Ab
open Go Go.Proofs
set_option maxRecDepth 100000
noncomputable section
def K43(m:Unit):Option Unit:=some ()
def K43c:KT:=xg 43 ⟨1,[],[.con .nils]⟩ ⟨1,[],[.con .nils]⟩ K43 [] [] true [] L0
def a2d(m:List PV):Option (Unit×(List PV)):=bif decide (m.length<=accMax)then some ((),m)else none
def K43_v1c:KT:=xg 43 ⟨1,[],[.sln 31]⟩ ⟨1,[.arr 31 1],[(.con (.arr 0 1 31)),.slice 31]⟩ a2d [] [] true [] L0
def bjh(m:List PV):Option (Unit×(List PV)):=a2d m
def K43_v2e:CallE:=⟨43,⟨1,[],[.slice 31]⟩,⟨1,[.arr 31 1],[(.con (.arr 0 1 31)),.slice 31]⟩,λx=>bjh x,((),[])⟩
theorem bc1:K43_v2e.Ok Tryz.prog:=by
 intro x y h
 have h:a2d x=some y:=h
 have m:=K43_v1c.ok x y h
 unfold a2d at h
 obtain⟨o,rfl⟩:=aaz h
 exact aeb (λ_=>K43c.ok () () rfl) m
def K43_v2c:KC Tryz.prog:=⟨K43_v2e,bc1⟩
def K47(m:Unit):Option Unit:=some ()
def K47c:KT:=xg 47 ⟨1,[],[.con .nils]⟩ ⟨1,[],[.con .nils]⟩ K47 [] [] true [] L0
def a2e(m:List PV):Option (Unit×(List PV)):=bif decide (m.length<=accMax)then some ((),m)else none
def K47_v1c:KT:=xg 47 ⟨1,[],[.sln 40]⟩ ⟨1,[.arr 40 1],[(.con (.arr 0 1 40)),.slice 40]⟩ a2e [] [] true [] L0
def bji(m:List PV):Option (Unit×(List PV)):=a2e m
def K47_v2e:CallE:=⟨47,⟨1,[],[.slice 40]⟩,⟨1,[.arr 40 1],[(.con (.arr 0 1 40)),.slice 40]⟩,λx=>bji x,((),[])⟩
theorem bc2:K47_v2e.Ok Tryz.prog:=by
 intro x y h
 have h:a2e x=some y:=h
 have m:=K47_v1c.ok x y h
 unfold a2e at h
 obtain⟨o,rfl⟩:=aaz h
 exact aeb (λ_=>K47c.ok () () rfl) m
def K47_v2c:KC Tryz.prog:=⟨K47_v2e,bc2⟩
end
end Go.Ab
namespace Go.Ab
open Go Go.Proofs
set_option maxRecDepth 100000
noncomputable def S39:RSet:={ P:=Tryz.prog,calls:=[ad9 0,ah8 0,as3 0,ab0 0,ah9 0,af4 0,as0 0,as2 0,aop 0,bgi 0,ao8 0,F117c.c,F117_v1c.c,F117_v2c.c,F81c.c,F81_v1c.c,F81_v2c.c,F82c.c,F82_v1c.c,F82_v2c.c,F83c.c,F83_v1c.c,F83_v2c.c,K43c.c,K43_v1c.c,K43_v2c.c,K47c.c,K47_v1c.c,K47_v2c.c],ps:=[],known:=190536410541747572716161940294993060653600974039061292918797881555784098308429370598905140014949630154179037503294624814485410100697536397312,mask:=168161160241433899741709726934755455783885192954162173489847720570204904003324535260438674623927620316848166228317304680952950585575212056160,own:=1578458245055033890054156274446106624,rounds:=200 }
theorem bb2:S39.fit=true:=by kernel_rfl
theorem ayr:∀c,c∈S39.calls->c.Ok Tryz.prog:=
 qc (afm 0)<|qc (ak5 0)<|qc (ay9 0)<|qc (ab8 0)<|qc (ak6 0)<|qc (ag3 0)<|qc (ao5 0)<|qc (ao6 0)<|qc (ao7 0)<|qc (a7o 0)<|qc (aoq 0)<|qc F117c.ok<|qc F117_v1c.ok<|qc F117_v2c.ok<|qc F81c.ok<|qc F81_v1c.ok<|qc F81_v2c.ok<|qc F82c.ok<|qc F82_v1c.ok<|qc F82_v2c.ok<|qc F83c.ok<|qc F83_v1c.ok<|qc F83_v2c.ok<|qc K43c.ok<|qc K43_v1c.ok<|qc K43_v2c.ok<|qc K47c.ok<|qc K47_v1c.ok<|qc K47_v2c.ok<|q0
noncomputable def M39(m:Memo):RSet:={ S39 with memo:=m }
theorem alx{m l:Memo}(h:MemoOk Tryz.prog m)(r:l.all (aod (M39 m) 60)=true):MemoOk Tryz.prog (l++m):=
 (a1f (S:=M39 m) (a2w bb2) ayr (λc o=>nomatch o) h r).app h
def fld(k:Int):PV:=.agg [.int 1,.str [120],.int 3,.int 0,.agg [.int k,.str []],.str [],.bool false,.agg [.int 0,.int 0,.str [],.slice [],.slice [],.slice [],.slice []],.slice []]
def msg(k:Int):PV:=.agg [.str [97,46,77],.slice [fld k],.slice [],.slice [],.slice []]
def sch(k:Int):PV:=.agg [.slice [msg k],.slice [],.slice []]
def vs(k:Int):SV:=.data 37 (sch k)
def txt(d e:UInt8):Bn:=[109,101,115,115,97,103,101,32,97,46,77,32,123,10,32,32,112,108,97,105,110,32,105,d,e,32,120,32,61,32,49,59,10,125,10]
def l1:Memo:=[(55,[vs 2],[.bool true]),(55,[vs 3],[.bool true])]
def l2:Memo:=[(57,[vs 2],[.str (txt 51 50)]),(57,[vs 3],[.str (txt 54 52)]),(46,[vs 2],[vs 2]),(46,[vs 3],[vs 3])]
def l3:Memo:=[(48,[vs 2],[.int .u64 13703777543635910281]),(48,[vs 3],[.int .u64 6389818952390684994]),(64,[vs 2,vs 2],[.bool true]),(64,[vs 3,vs 3],[.bool true]),(45,[vs 3,vs 2],[.bool false]),(45,[vs 2,vs 3],[.bool false]),(45,[vs 3,vs 3],[.bool true])]
def l4:Memo:=[(17,[vs 3],[.int .u64 6389818952390684994])]
def fnd:PV:=.agg [.str [97,46,77],.int 1,.int 6,.slice []]
def bt(a b m:Int)(r:List PV):FuncId×List SV×List SV:=(87,[vs a,vs b,.str [97,46,77],.int .i64 m,.int .i64 1],[.slice 60 r])
def l5:Memo:=[bt 2 3 1 [],bt 3 2 1 [fnd],bt 3 3 1 [],bt 2 3 2 [fnd],(51,[vs 2,vs 3,.str [97,46,77],.int .i64 1],[.bool true])]
noncomputable def m2:Memo:=l2++(l1++mPrm)
noncomputable def m5:Memo:=l5++(l4++(l3++m2))
theorem r1:l1.all (aod (M39 mPrm) 60)=true:=by kernel_rfl
theorem r2:l2.all (aod (M39 (l1++mPrm)) 60)=true:=by kernel_rfl
theorem r3:l3.all (aod (M39 m2) 60)=true:=by kernel_rfl
theorem r4:l4.all (aod (M39 (l3++m2)) 60)=true:=by kernel_rfl
theorem r5:l5.all (aod (M39 (l4++(l3++m2))) 60)=true:=by kernel_rfl
theorem m5_ok:MemoOk Tryz.prog m5:=alx (alx (alx (alx (alx bie r1) r2) r3) r4) r5
theorem bi5:av5 (M39 m5) 60 5=true:=by kernel_rfl
def at7(m:Nat):Option Bool:=some true
def awp(m:Nat):CallE:=blv 5
theorem a4j(m:Nat):(awp m).Ok Tryz.prog:=
 bga (av6 (S:=M39 m5) (a2w bb2) ayr (λc o=>nomatch o) m5_ok bi5)
end Go.Ab
namespace Go.Ab
open Go Go.Proofs
set_option maxRecDepth 100000
noncomputable section
def F3(m:PV):Option Bool:=(F4 m).bind λt=>bif (!t)then(at7 0).bind λz=>some z else(F6 m).bind λG=>(F7 m).bind λH=>let o:=G==H;(bif o then at7 0 else some false).bind λI=>some (bif o then I else false)
def F3c:KT:=xj 3 ⟨1,[],[.data 24]⟩ ⟨1,[],[.bool]⟩ F3 [F4c,⟨awp 0,a4j 0⟩,F6c,F7c]
end
end Go.Ab
