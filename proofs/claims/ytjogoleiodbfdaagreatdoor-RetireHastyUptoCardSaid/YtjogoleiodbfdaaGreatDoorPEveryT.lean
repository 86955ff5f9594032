/- format.every: all elements of a list pass a test. -/
import Derived.Test.YtjogoleiodbfdaaGreatDoorPValsT
set_option linter.unusedVariables false
set_option linter.unusedSimpArgs false
set_option linter.unnecessarySimpa false
namespace Go.Ab
open Go
set_option maxRecDepth 100000
end Go.Ab
namespace Go.Ab
open Go
set_option maxRecDepth 100000
noncomputable def kw (k:Int):Bt:=(F132 0 k).getD []
theorem a8o {k:Int} (h:1<=k) (o:k<=8):k=1\/k=2\/k=3\/k=4\/k=5\/k=6\/k=7\/k=8:=by omega
theorem a0w {k:Int} (h:k<1\/8<k):(bif (decide (k<(1:Int))) then true else (decide (k>(8:Int))))=true:=by
 rcases h with h | h
 ·rw [Ag h];rfl
 ·rw [An (by omega),Ag (by omega)];rfl
theorem aor {k:Int} (h:k<1\/8<k):F132 0 k=some []:=by unfold F132;rw [a0w h];rfl
theorem a8p (k:Int):F132 0 k=some (kw k):=by
 unfold kw;by_cases h:k<1\/8<k
 ·rw [aor h];rfl
 ·rcases a8o (k:=k) (by omega) (by omega) with rfl | rfl | rfl | rfl | rfl | rfl | rfl | rfl<;>kernel_rfl
theorem a5k (k:Int):F141 0 k=some (kw k):=by
 unfold kw;by_cases h:k<1\/8<k
 ·rw [aor h];unfold F141;rw [a0w h];rfl
 ·rcases a8o (k:=k) (by omega) (by omega) with rfl | rfl | rfl | rfl | rfl | rfl | rfl | rfl<;>kernel_rfl
theorem a8q:((List.range 8).all λi=>Nat.ble (kw ((i:Int)+1)).length 10&&!(kw ((i:Int)+1)==[]))=true:=by kernel_rfl
theorem a6v {k:Int} (h:¬(k<1\/8<k)):(kw k).length<=10/\kw k≠[]:=by obtain ⟨i,o,rfl⟩:∃ i:Nat,i<8/\k=(i:Int)+1:=⟨(k-1).toNat,by omega,by omega⟩;have:=Bs.1 a8q i (List.mem_range.2 o);simp only [Aj,Nat.ble_eq,Bool.not_eq_true',Bl] at this;exact this
theorem a0v (k:Int):(kw k).length<=10:=by
 by_cases h:k<1\/8<k
 ·unfold kw;rw [aor h];simp
 ·exact (a6v h).1
def ane (k:Int):Bool:=decide (1<=k)&&decide (k<=8)
theorem a5g (k:Int):F175 0 k=some (ane k):=by unfold F175 ane;have:decide (k>=(1:Int))=decide (1<=k):=rfl;rw [this];cases decide (1<=k)<;>rfl
theorem bao (k:Int):(!(kw k==([]:Bt)))=ane k:=by
 unfold ane;by_cases h:k<1\/8<k
 ·unfold kw;rw [aor h];rcases h with h | h
  ·rw [An (by omega)];rfl
  ·rw [An (show ¬k<=8 by omega)];simp
 ·rw [Ag (show 1<=k by omega),Ag (show k<=8 by omega),Bl.2 (a6v h).2];rfl
theorem avf (s:Bt) (O:s.length<=1048576):((F195 0 s ([46]:Bt)).bind λy1=>(F194 0 y1).bind λy2=>some y2)=some (as6 s):=by
 have Z:F195 0 s ([46]:Bt)=some (match s with | []=>[] | c::r=>bif c==46 then r else c::r):=by
  unfold F195 F212 F228;cases s with
  | nil=>rfl
  | cons c r=>
   have h:decide (((c::r).length:Int)>=(([46]:Bt).length:Int))=true:=Ag (by simp only [Am,Ao];omega);have o:decide ((0:Int)<=(0:Int)/\(0:Int)<=(([46]:Bt).length:Int)/\(([46]:Bt).length:Int)<=((c::r).length:Int))=true:=Ag (by simp only [Am,Ao];omega);have H:decide ((0:Int)<=(([46]:Bt).length:Int)/\(([46]:Bt).length:Int)<=((c::r).length:Int)/\((c::r).length:Int)<=((c::r).length:Int))=true:=Ag (by simp only [Am,Ao];omega);have I:(((c::r).take (([46]:Bt).length:Int).toNat).drop (0:Int).toNat==([46]:Bt))=(c==46):=by show ([c]==([46]:Bt))=_;simp
   have J:(((c::r).take ((c::r).length:Int).toNat).drop (([46]:Bt).length:Int).toNat)=r:=by show ((c::r).take (c::r).length).drop 1=r;rw [List.take_length];rfl
   simp only [h,o,H,I,J,imp,Af,Aa];cases (c==46)<;>rfl
 rw [Z,Aa];cases s with
 | nil=>rw [arz _ (by simp)];rfl
 | cons c r=>
  have M:(bif c==46 then r else c::r).length<=1048576:=by
   simp only [Am] at O;cases (c==46)
   ·simp only [Ah,Am];omega
   ·simp only [Af];omega
  simp only [arz _ M,Aa,as6];cases (c==46)<;>rfl
theorem a0l (s:Bt) (h:s.length<=1048576):F176 0 s=some (as6 s):=avf s h
theorem a6i (s:Bt) (M:s.length<=1048576):F142 0 s=some (as6 s):=by
 unfold F142;cases s with
 | nil=>simp only [ah9 ([]:Bt) (by simp)];rfl
 | cons c r=>
  have h:((c::r)==([]:Bt))=false:=rfl;have o:aaa (0:Int) (c::r).length=true:=by rw [show (0:Int)=((0:Nat):Int) from rfl,aab];simp
  have H:((((c::r).getD (0:Int).toNat 0).toNat:Int)==(46:Int))=(c==46):=(eqB c.toNat 46).trans (a7p c 46);have I:decide ((0:Int)<=(1:Int)/\(1:Int)<=((c::r).length:Int)/\((c::r).length:Int)<=((c::r).length:Int))=true:=Ag (by simp only [Am];omega);have J:(((c::r).take ((c::r).length:Int).toNat).drop (1:Int).toNat)=r:=by rw [Ai,List.take_length];rfl
  simp only [Am] at M;simp only [h,o,H,I,J,imp,Ay,Af,ah9 r (by omega),ah9 (c::r) (by simp;omega),Aa,as6];cases (c==46)<;>rfl
structure OkFld (x:PV):Prop where
 name:(x.fld 1).asStr.length<=1048576
 type:((x.fld 4).fld 1).asStr.length<=1048576
 union:(x.fld 5).asStr.length<=1048576
 dflt:ac3 (x.fld 7)
 notes:(x.fld 8).asList.length<=1048576
 note:∀ n,n∈(x.fld 8).asList->agt n
structure OkMsg (m:PV):Prop where
 name:(m.fld 0).asStr.length<=1048576
 fields:(m.fld 1).asList.length<=1048576
 field:∀ x,x∈(m.fld 1).asList->OkFld x
 spans:(m.fld 2).asList.length<=1048576
 gone:(m.fld 3).asList.length<=1048576
 goneS:∀ x,x∈(m.fld 3).asList->x.asStr.length<=1048576
 notes:(m.fld 4).asList.length<=1048576
 note:∀ n,n∈(m.fld 4).asList->agt n
structure OkItem (x:PV):Prop where
 name:(x.fld 0).asStr.length<=1048576
 notes:(x.fld 2).asList.length<=1048576
 note:∀ n,n∈(x.fld 2).asList->agt n
structure OkEnum (m:PV):Prop where
 name:(m.fld 0).asStr.length<=1048576
 items:(m.fld 2).asList.length<=1048576
 item:∀ x,x∈(m.fld 2).asList->OkItem x
 spans:(m.fld 3).asList.length<=1048576
 notes:(m.fld 4).asList.length<=1048576
 note:∀ n,n∈(m.fld 4).asList->agt n
structure OkMeth (x:PV):Prop where
 name:(x.fld 0).asStr.length<=1048576
 inn:(x.fld 1).asStr.length<=1048576
 out:(x.fld 2).asStr.length<=1048576
 notes:(x.fld 4).asList.length<=1048576
 note:∀ n,n∈(x.fld 4).asList->agt n
structure OkSvc (m:PV):Prop where
 name:(m.fld 0).asStr.length<=1048576
 meths:(m.fld 1).asList.length<=1048576
 meth:∀ x,x∈(m.fld 1).asList->OkMeth x
 notes:(m.fld 2).asList.length<=1048576
 note:∀ n,n∈(m.fld 2).asList->agt n
end Go.Ab
