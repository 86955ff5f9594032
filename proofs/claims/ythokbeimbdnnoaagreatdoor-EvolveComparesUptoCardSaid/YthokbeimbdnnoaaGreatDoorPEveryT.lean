/- format.every: all elements of a list pass a test. -/
import Derived.Test.YthokbeimbdnnoaaGreatDoorPValsT
set_option linter.unusedVariables false
set_option linter.unusedSimpArgs false
set_option linter.unnecessarySimpa false
namespace Go.Ab
open Go
set_option maxRecDepth 100000
end Go.Ab
namespace Go.Ab
open Go
set_option maxRecDepth 100000
noncomputable def kw (k:Int):Bq:=(F214 0 k).getD []
theorem a5t {k:Int} (h:1<=k) (o:k<=8):k=1\/k=2\/k=3\/k=4\/k=5\/k=6\/k=7\/k=8:=by omega
theorem ayv {k:Int} (h:k<1\/8<k):(bif (decide (k<(1:Int))) then true else (decide (k>(8:Int))))=true:=by
 rcases h with h | h
 ·rw [Ag h];rfl
 ·rw [An (by omega),Ag (by omega)];rfl
theorem anr {k:Int} (h:k<1\/8<k):F214 0 k=some []:=by unfold F214;rw [ayv h];rfl
theorem a5u (k:Int):F214 0 k=some (kw k):=by
 unfold kw;by_cases h:k<1\/8<k
 ·rw [anr h];rfl
 ·rcases a5t (k:=k) (by omega) (by omega) with rfl | rfl | rfl | rfl | rfl | rfl | rfl | rfl<;>kernel_rfl
theorem a2m (k:Int):F218 0 k=some (kw k):=by
 unfold kw;by_cases h:k<1\/8<k
 ·rw [anr h];unfold F218;rw [ayv h];rfl
 ·rcases a5t (k:=k) (by omega) (by omega) with rfl | rfl | rfl | rfl | rfl | rfl | rfl | rfl<;>kernel_rfl
theorem a5v:((List.range 8).all λi=>Nat.ble (kw ((i:Int)+1)).length 10&&!(kw ((i:Int)+1)==[]))=true:=by kernel_rfl
theorem a4g {k:Int} (h:¬(k<1\/8<k)):(kw k).length<=10/\kw k≠[]:=by obtain ⟨i,o,rfl⟩:∃ i:Nat,i<8/\k=(i:Int)+1:=⟨(k-1).toNat,by omega,by omega⟩;have:=List.all_eq_true.1 a5v i (List.mem_range.2 o);simp only [Ai,Nat.ble_eq,Bool.not_eq_true',Bn] at this;exact this
theorem ayu (k:Int):(kw k).length<=10:=by
 by_cases h:k<1\/8<k
 ·unfold kw;rw [anr h];simp
 ·exact (a4g h).1
def ame (k:Int):Bool:=decide (1<=k)&&decide (k<=8)
theorem a2i (k:Int):F247 0 k=some (ame k):=by unfold F247 ame;have:decide (k>=(1:Int))=decide (1<=k):=rfl;rw [this];cases decide (1<=k)<;>rfl
theorem a7r (k:Int):(!(kw k==([]:Bq)))=ame k:=by
 unfold ame;by_cases h:k<1\/8<k
 ·unfold kw;rw [anr h];rcases h with h | h
  ·rw [An (by omega)];rfl
  ·rw [An (show ¬k<=8 by omega)];simp
 ·rw [Ag (show 1<=k by omega),Ag (show k<=8 by omega),Bn.2 (a4g h).2];rfl
theorem atw (s:Bq) (M:s.length<=1048576):((F281 0 s ([46]:Bq)).bind λZ=>(F280 0 Z).bind λy2=>some y2)=some (aru s):=by
 have O:F281 0 s ([46]:Bq)=some (match s with | []=>[] | c::r=>bif c==46 then r else c::r):=by
  unfold F281 F301 F257;cases s with
  | nil=>rfl
  | cons c r=>
   have h:decide (((c::r).length:Int)>=(([46]:Bq).length:Int))=true:=Ag (by simp only [Am,Ao];omega);have o:decide ((0:Int)<=(0:Int)/\(0:Int)<=(([46]:Bq).length:Int)/\(([46]:Bq).length:Int)<=((c::r).length:Int))=true:=Ag (by simp only [Am,Ao];omega);have z:decide ((0:Int)<=(([46]:Bq).length:Int)/\(([46]:Bq).length:Int)<=((c::r).length:Int)/\((c::r).length:Int)<=((c::r).length:Int))=true:=Ag (by simp only [Am,Ao];omega);have H:(((c::r).take (([46]:Bq).length:Int).toNat).drop (0:Int).toNat==([46]:Bq))=(c==46):=by show ([c]==([46]:Bq))=_;simp
   have I:(((c::r).take ((c::r).length:Int).toNat).drop (([46]:Bq).length:Int).toNat)=r:=by show ((c::r).take (c::r).length).drop 1=r;rw [List.take_length];rfl
   simp only [h,o,z,H,I,imp,Af,Ae];cases (c==46)<;>rfl
 rw [O,Ae];cases s with
 | nil=>rw [aqq _ (by simp)];rfl
 | cons c r=>
  have J:(bif c==46 then r else c::r).length<=1048576:=by
   simp only [Am] at M;cases (c==46)
   ·simp only [Ah,Am];omega
   ·simp only [Af];omega
  simp only [aqq _ J,Ae,aru];cases (c==46)<;>rfl
theorem ayk (s:Bq) (h:s.length<=1048576):F248 0 s=some (aru s):=atw s h
theorem a3m (s:Bq) (J:s.length<=1048576):F219 0 s=some (aru s):=by
 unfold F219;cases s with
 | nil=>simp only [ahr ([]:Bq) (by simp)];rfl
 | cons c r=>
  have h:((c::r)==([]:Bq))=false:=rfl;have o:aaa (0:Int) (c::r).length=true:=by rw [show (0:Int)=((0:Nat):Int) from rfl,aab];simp
  have z:((((c::r).getD (0:Int).toNat 0).toNat:Int)==(46:Int))=(c==46):=(eqB c.toNat 46).trans (a4y c 46);have H:decide ((0:Int)<=(1:Int)/\(1:Int)<=((c::r).length:Int)/\((c::r).length:Int)<=((c::r).length:Int))=true:=Ag (by simp only [Am];omega);have I:(((c::r).take ((c::r).length:Int).toNat).drop (1:Int).toNat)=r:=by rw [Aj,List.take_length];rfl
  simp only [Am] at J;simp only [h,o,z,H,I,imp,Az,Af,ahr r (by omega),ahr (c::r) (by simp;omega),Ae,aru];cases (c==46)<;>rfl
structure OkFld (x:PV):Prop where
 name:(x.fld 1).asStr.length<=1048576
 type:((x.fld 4).fld 1).asStr.length<=1048576
 union:(x.fld 5).asStr.length<=1048576
 dflt:acv (x.fld 7)
 notes:(x.fld 8).asList.length<=1048576
 note:∀ n,n∈(x.fld 8).asList->agd n
structure OkMsg (m:PV):Prop where
 name:(m.fld 0).asStr.length<=1048576
 fields:(m.fld 1).asList.length<=1048576
 field:∀ x,x∈(m.fld 1).asList->OkFld x
 spans:(m.fld 2).asList.length<=1048576
 gone:(m.fld 3).asList.length<=1048576
 goneS:∀ x,x∈(m.fld 3).asList->x.asStr.length<=1048576
 notes:(m.fld 4).asList.length<=1048576
 note:∀ n,n∈(m.fld 4).asList->agd n
structure OkItem (x:PV):Prop where
 name:(x.fld 0).asStr.length<=1048576
 notes:(x.fld 2).asList.length<=1048576
 note:∀ n,n∈(x.fld 2).asList->agd n
structure OkEnum (m:PV):Prop where
 name:(m.fld 0).asStr.length<=1048576
 items:(m.fld 2).asList.length<=1048576
 item:∀ x,x∈(m.fld 2).asList->OkItem x
 spans:(m.fld 3).asList.length<=1048576
 notes:(m.fld 4).asList.length<=1048576
 note:∀ n,n∈(m.fld 4).asList->agd n
structure OkMeth (x:PV):Prop where
 name:(x.fld 0).asStr.length<=1048576
 inn:(x.fld 1).asStr.length<=1048576
 out:(x.fld 2).asStr.length<=1048576
 notes:(x.fld 4).asList.length<=1048576
 note:∀ n,n∈(x.fld 4).asList->agd n
structure OkSvc (m:PV):Prop where
 name:(m.fld 0).asStr.length<=1048576
 meths:(m.fld 1).asList.length<=1048576
 meth:∀ x,x∈(m.fld 1).asList->OkMeth x
 notes:(m.fld 2).asList.length<=1048576
 note:∀ n,n∈(m.fld 2).asList->agd n
end Go.Ab
