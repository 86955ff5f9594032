/- format.every: all elements of a list pass a test. -/
import Derived.Test.YthokbeimbdnnoaaGreatDoorPName0T
import Derived.Test.YthokbeimbdnnoaaGreatDoorPValsT
set_option linter.unusedVariables false
set_option linter.unusedSimpArgs false
set_option linter.unnecessarySimpa false
namespace Go.Ab
open Go
set_option maxRecDepth 100000
end Go.Ab
namespace Go.Ab
open Go
set_option maxRecDepth 100000
noncomputable def kw (k:Int):List UInt8:=(F214 0 k).getD []
theorem kind8 {k:Int} (h:1<=k) (h2:k<=8):k=1∨k=2∨k=3∨k=4∨k=5∨k=6∨k=7∨k=8:=by omega
theorem a3g {k:Int} (h:k<1∨8<k):(bif (decide (k<(1:Int))) then true else (decide (k>(8:Int))))=true:=by
 rcases h with h | h
 ·rw [decide_eq_true h];rfl
 ·rw [decide_eq_false (by omega),decide_eq_true (by omega)];rfl
theorem a1y {k:Int} (h:k<1∨8<k):F214 0 k=some []:=by
 unfold F214
 rw [a3g h]
 rfl
theorem a3e (k:Int):F214 0 k=some (kw k):=by
 unfold kw
 by_cases h:k<1∨8<k
 ·rw [a1y h];rfl
 ·rcases kind8 (k:=k) (by omega) (by omega) with rfl | rfl | rfl | rfl | rfl | rfl | rfl | rfl<;>kernel_rfl
theorem a3f:((List.range 8).all fun i=>Nat.ble (kw ((i:Int)+1)).length 10&&!(kw ((i:Int)+1)==[]))=true:=by kernel_rfl
theorem a5d {k:Int} (h:¬(k<1∨8<k)):(kw k).length<=10/\kw k≠[]:=by
 obtain ⟨i,hi,rfl⟩:∃ i:Nat,i<8/\k=(i:Int)+1:=⟨(k-1).toNat,by omega,by omega⟩
 have:=List.all_eq_true.1 a3f i (List.mem_range.2 hi)
 simp only [Bool.and_eq_true,Nat.ble_eq,Bool.not_eq_true',beq_eq_false_iff_ne] at this
 exact this
theorem axm (k:Int):(kw k).length<=10:=by
 by_cases h:k<1∨8<k
 ·unfold kw
  rw [a1y h];simp
 ·exact (a5d h).1
def atr (k:Int):Bool:=decide (1<=k)&&decide (k<=8)
theorem a0r (k:Int):F247 0 k=some (atr k):=by
 unfold F247 atr
 have:decide (k≥(1:Int))=decide (1<=k):=rfl
 rw [this]
 cases decide (1<=k)<;>rfl
theorem asp (s:List UInt8) (hs:s.length<=1048576):((F281 0 s ([46]:List UInt8)).bind fun y1=>(F280 0 y1).bind fun y2=>some y2)=some (ay0 s):=by
 have ht:F281 0 s ([46]:List UInt8)=some (match s with | []=>[] | c::r=>bif c==46 then r else c::r):=by
  unfold F281 F301 F257
  cases s with
  | nil=>rfl
  | cons c r=>
   have e1:decide (((c::r).length:Int)≥(([46]:List UInt8).length:Int))=true:=decide_eq_true (by simp only [List.length_cons,List.length_nil];omega)
   have e2:decide ((0:Int)<=(0:Int)/\(0:Int)<=(([46]:List UInt8).length:Int)/\(([46]:List UInt8).length:Int)<=((c::r).length:Int))=true:=decide_eq_true (by simp only [List.length_cons,List.length_nil];omega)
   have e3:decide ((0:Int)<=(([46]:List UInt8).length:Int)/\(([46]:List UInt8).length:Int)<=((c::r).length:Int)/\((c::r).length:Int)<=((c::r).length:Int))=true:=decide_eq_true (by simp only [List.length_cons,List.length_nil];omega)
   have e4:(((c::r).take (([46]:List UInt8).length:Int).toNat).drop (0:Int).toNat==([46]:List UInt8))=(c==46):=by
    show ([c]==([46]:List UInt8))=_
    simp
   have e5:(((c::r).take ((c::r).length:Int).toNat).drop (([46]:List UInt8).length:Int).toNat)=r:=by
    show ((c::r).take (c::r).length).drop 1=r
    rw [List.take_length];rfl
   simp only [e1,e2,e3,e4,e5,imp,cond_true,Option.bind_some]
   cases (c==46)<;>rfl
 rw [ht,Option.bind_some]
 cases s with
 | nil=>rw [apg _ (by simp)];rfl
 | cons c r=>
  have hl:(bif c==46 then r else c::r).length<=1048576:=by
   simp only [List.length_cons] at hs
   cases (c==46)
   ·simp only [cond_false,List.length_cons];omega
   ·simp only [cond_true];omega
  simp only [apg _ hl,Option.bind_some,ay0]
  cases (c==46)<;>rfl
theorem axb (s:List UInt8) (hs:s.length<=1048576):F248 0 s=some (ay0 s):=asp s hs
structure OkFld (x:PV):Prop where
 name:(x.fld 1).asStr.length<=1048576
 type:((x.fld 4).fld 1).asStr.length<=1048576
 union:(x.fld 5).asStr.length<=1048576
 dflt:adm (x.fld 7)
 notes:(x.fld 8).asList.length<=1048576
 note:∀ n,n∈(x.fld 8).asList->af3 n
structure OkMsg (m:PV):Prop where
 name:(m.fld 0).asStr.length<=1048576
 fields:(m.fld 1).asList.length<=1048576
 field:∀ x,x∈(m.fld 1).asList->OkFld x
 spans:(m.fld 2).asList.length<=1048576
 gone:(m.fld 3).asList.length<=1048576
 goneS:∀ x,x∈(m.fld 3).asList->x.asStr.length<=1048576
 notes:(m.fld 4).asList.length<=1048576
 note:∀ n,n∈(m.fld 4).asList->af3 n
structure OkItem (x:PV):Prop where
 name:(x.fld 0).asStr.length<=1048576
 notes:(x.fld 2).asList.length<=1048576
 note:∀ n,n∈(x.fld 2).asList->af3 n
structure OkEnum (m:PV):Prop where
 name:(m.fld 0).asStr.length<=1048576
 items:(m.fld 2).asList.length<=1048576
 item:∀ x,x∈(m.fld 2).asList->OkItem x
 spans:(m.fld 3).asList.length<=1048576
 notes:(m.fld 4).asList.length<=1048576
 note:∀ n,n∈(m.fld 4).asList->af3 n
structure OkMeth (x:PV):Prop where
 name:(x.fld 0).asStr.length<=1048576
 inn:(x.fld 1).asStr.length<=1048576
 out:(x.fld 2).asStr.length<=1048576
 notes:(x.fld 4).asList.length<=1048576
 note:∀ n,n∈(x.fld 4).asList->af3 n
structure OkSvc (m:PV):Prop where
 name:(m.fld 0).asStr.length<=1048576
 meths:(m.fld 1).asList.length<=1048576
 meth:∀ x,x∈(m.fld 1).asList->OkMeth x
 notes:(m.fld 2).asList.length<=1048576
 note:∀ n,n∈(m.fld 2).asList->af3 n
end Go.Ab
