/- format.every: all elements of a list pass a test. -/
import Derived.Test.YtjogoleiodbfdaaGreatPName0T
import Derived.Test.YtjogoleiodbfdaaGreatPValsT
set_option linter.unusedVariables false
set_option linter.unusedSimpArgs false
set_option linter.unnecessarySimpa false
namespace Go.Ab
open Go
set_option maxRecDepth 100000
end Go.Ab
namespace Go.Ab
open Go
set_option maxRecDepth 100000
structure OkFld (x:PV):Prop where
 name:(x.fld 1).asStr.length<=1048576
 type:((x.fld 4).fld 1).asStr.length<=1048576
 union:(x.fld 5).asStr.length<=1048576
 dflt:ajt (x.fld 7)
 notes:(x.fld 8).asList.length<=1048576
 note:∀ n,n∈(x.fld 8).asList->afn n
structure OkMsg (m:PV):Prop where
 name:(m.fld 0).asStr.length<=1048576
 fields:(m.fld 1).asList.length<=1048576
 field:∀ x,x∈(m.fld 1).asList->OkFld x
 spans:(m.fld 2).asList.length<=1048576
 gone:(m.fld 3).asList.length<=1048576
 goneS:∀ x,x∈(m.fld 3).asList->x.asStr.length<=1048576
 notes:(m.fld 4).asList.length<=1048576
 note:∀ n,n∈(m.fld 4).asList->afn n
structure OkItem (x:PV):Prop where
 name:(x.fld 0).asStr.length<=1048576
 notes:(x.fld 2).asList.length<=1048576
 note:∀ n,n∈(x.fld 2).asList->afn n
structure OkEnum (m:PV):Prop where
 name:(m.fld 0).asStr.length<=1048576
 items:(m.fld 2).asList.length<=1048576
 item:∀ x,x∈(m.fld 2).asList->OkItem x
 spans:(m.fld 3).asList.length<=1048576
 notes:(m.fld 4).asList.length<=1048576
 note:∀ n,n∈(m.fld 4).asList->afn n
structure OkMeth (x:PV):Prop where
 name:(x.fld 0).asStr.length<=1048576
 inn:(x.fld 1).asStr.length<=1048576
 out:(x.fld 2).asStr.length<=1048576
 notes:(x.fld 4).asList.length<=1048576
 note:∀ n,n∈(x.fld 4).asList->afn n
structure OkSvc (m:PV):Prop where
 name:(m.fld 0).asStr.length<=1048576
 meths:(m.fld 1).asList.length<=1048576
 meth:∀ x,x∈(m.fld 1).asList->OkMeth x
 notes:(m.fld 2).asList.length<=1048576
 note:∀ n,n∈(m.fld 2).asList->afn n
end Go.Ab
