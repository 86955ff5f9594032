/- format.every: all elements of a list pass a test. -/
import Derived.Test.YtodichgnoiaanaaGreatDoorPValsT
set_option linter.unusedVariables false
set_option linter.unusedSimpArgs false
set_option linter.unnecessarySimpa false
namespace Go.Ab
open Go
set_option maxRecDepth 100000
end Go.Ab
namespace Go.Ab
open Go
set_option maxRecDepth 100000
theorem bce {k:Int} (h:1<=k) (o:k<=8):k=1\/k=2\/k=3\/k=4\/k=5\/k=6\/k=7\/k=8:=by omega
theorem a4h {k:Int} (h:k<1\/8<k):(bif (decide (k<(1:Int))) then true else (decide (k>(8:Int))))=true:=by grind
noncomputable def kw (k:Int):Bo:=(F164 0 k).getD []
theorem aqf {k:Int} (h:k<1\/8<k):F164 0 k=some []:=by grind [F164,a4h]
theorem bcf (k:Int):F164 0 k=some (kw k):=by
 unfold kw;by_cases h:k<1\/8<k
 ·rw [aqf h];rfl
 ·rcases bce (k:=k) (by omega) (by omega) with rfl | rfl | rfl | rfl | rfl | rfl | rfl | rfl<;>kernel_rfl
theorem a9q (k:Int):F179 0 k=some (kw k):=by
 unfold kw;by_cases h:k<1\/8<k
 ·grind [aqf,F179,a4h]
 ·rcases bce (k:=k) (by omega) (by omega) with rfl | rfl | rfl | rfl | rfl | rfl | rfl | rfl<;>kernel_rfl
theorem bcg:((List.range 8).all λi=>Nat.ble (kw ((i:Int)+1)).length 10&&!(kw ((i:Int)+1)==[]))=true:=by kernel_rfl
theorem bbd {k:Int} (h:¬(k<1\/8<k)):(kw k).length<=10/\kw k≠[]:=by obtain ⟨i,o,rfl⟩:∃ i:Nat,i<8/\k=(i:Int)+1:=⟨(k-1).toNat,by omega,by omega⟩;have:=Bj.1 bcg i (List.mem_range.2 o);simp_all
theorem a4g (k:Int):(kw k).length<=10:=by grind [kw,aqf,bbd]
def aop (k:Int):Bool:=decide (1<=k)&&decide (k<=8)
theorem a9j (k:Int):F185 0 k=some (aop k):=by unfold F185 aop;grind
theorem bd2 (k:Int):(!(kw k==([]:Bo)))=aop k:=by grind [aop,kw,aqf,decide_eq_false,decide_eq_true,beq_eq_false_iff_ne,bbd]
theorem axw (s:Bo) (hs:s.length<=1048576):((F200 0 s ([46]:Bo)).bind λM=>(F199 0 M).bind λO=>some O)=some (avj s):=by
 have J:F200 0 s ([46]:Bo)=some (match s with | []=>[] | c::r=>bif c==46 then r else c::r):=by
  unfold F200 F216 F195;cases s with
  | nil=>rfl
  | cons c r=>
   have h:decide (((c::r).length:Int)>=(([46]:Bo).length:Int))=true:=Ag (by grind);have o:decide ((0:Int)<=(0:Int)/\(0:Int)<=(([46]:Bo).length:Int)/\(([46]:Bo).length:Int)<=((c::r).length:Int))=true:=Ag (by grind);have z:decide ((0:Int)<=(([46]:Bo).length:Int)/\(([46]:Bo).length:Int)<=((c::r).length:Int)/\((c::r).length:Int)<=((c::r).length:Int))=true:=Ag (by grind);have H:(((c::r).take (([46]:Bo).length:Int).toNat).drop (0:Int).toNat==([46]:Bo))=(c==46):=by simp_all
   have I:(((c::r).take ((c::r).length:Int).toNat).drop (([46]:Bo).length:Int).toNat)=r:=by simp_all
   simp only [h,o,z,H,I,imp,Af,Aa];grind
 rw [J,Aa];cases s with
 | nil=>rw [at4 _ (by simp)];rfl
 | cons c r=>
  have Z:(bif c==46 then r else c::r).length<=1048576:=by grind
  grind [at4,avj]
theorem a3u (s:Bo) (h:s.length<=1048576):F186 0 s=some (avj s):=axw s h
theorem bar (s:Bo) (J:s.length<=1048576):F180 0 s=some (avj s):=by
 unfold F180;cases s with
 | nil=>simp only [aiu ([]:Bo) (by simp)];rfl
 | cons c r=>
  have h:((c::r)==([]:Bo))=false:=rfl;have o:aab (0:Int) (c::r).length=true:=by rw [show (0:Int)=((0:Nat):Int) from rfl,aaa];simp
  have z:((((c::r).getD (0:Int).toNat 0).toNat:Int)==(46:Int))=(c==46):=(eqB c.toNat 46).trans (bbv c 46);have H:decide ((0:Int)<=(1:Int)/\(1:Int)<=((c::r).length:Int)/\((c::r).length:Int)<=((c::r).length:Int))=true:=Ag (by grind);have I:(((c::r).take ((c::r).length:Int).toNat).drop (1:Int).toNat)=r:=by simp_all
  simp only [Ax] at J;simp only [h,o,z,H,I,imp,Av,Af,aiu r (by omega),aiu (c::r) (by simp;omega),Aa,avj];grind
structure OkFld (x:PV):Prop where
 name:(x.fld 1).asStr.length<=1048576
 type:((x.fld 4).fld 1).asStr.length<=1048576
 union:(x.fld 5).asStr.length<=1048576
 dflt:ac7 (x.fld 7)
 notes:(x.fld 8).asList.length<=1048576
 note:∀ n,n∈(x.fld 8).asList->ahe n
structure OkMsg (m:PV):Prop where
 name:(m.fld 0).asStr.length<=1048576
 fields:(m.fld 1).asList.length<=1048576
 field:∀ x,x∈(m.fld 1).asList->OkFld x
 spans:(m.fld 2).asList.length<=1048576
 gone:(m.fld 3).asList.length<=1048576
 goneS:∀ x,x∈(m.fld 3).asList->x.asStr.length<=1048576
 notes:(m.fld 4).asList.length<=1048576
 note:∀ n,n∈(m.fld 4).asList->ahe n
structure OkItem (x:PV):Prop where
 name:(x.fld 0).asStr.length<=1048576
 notes:(x.fld 2).asList.length<=1048576
 note:∀ n,n∈(x.fld 2).asList->ahe n
structure OkEnum (m:PV):Prop where
 name:(m.fld 0).asStr.length<=1048576
 items:(m.fld 2).asList.length<=1048576
 item:∀ x,x∈(m.fld 2).asList->OkItem x
 spans:(m.fld 3).asList.length<=1048576
 notes:(m.fld 4).asList.length<=1048576
 note:∀ n,n∈(m.fld 4).asList->ahe n
structure OkMeth (x:PV):Prop where
 name:(x.fld 0).asStr.length<=1048576
 inn:(x.fld 1).asStr.length<=1048576
 out:(x.fld 2).asStr.length<=1048576
 notes:(x.fld 4).asList.length<=1048576
 note:∀ n,n∈(x.fld 4).asList->ahe n
structure OkSvc (m:PV):Prop where
 name:(m.fld 0).asStr.length<=1048576
 meths:(m.fld 1).asList.length<=1048576
 meth:∀ x,x∈(m.fld 1).asList->OkMeth x
 notes:(m.fld 2).asList.length<=1048576
 note:∀ n,n∈(m.fld 2).asList->ahe n
end Go.Ab
