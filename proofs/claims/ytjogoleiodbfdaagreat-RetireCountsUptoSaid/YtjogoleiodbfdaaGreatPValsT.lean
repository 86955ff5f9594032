/- Doubles and bytes: their texts, the same in the program and the specification. -/
import Derived.Test.YtjogoleiodbfdaaGreatPQuoteT
import Derived.Test.YtjogoleiodbfdaaGreatPName0T
import Derived.Test.YtjogoleiodbfdaaGreatAbUtf
set_option linter.unusedVariables false
set_option linter.unusedSimpArgs false
set_option linter.unnecessarySimpa false
namespace Go.Ab
open Go
set_option maxRecDepth 100000
theorem ar9 (u:Nat):F129 0 (u:Int)=some (av9 u):=by
 have h1:(u:Int).tmod (9223372036854775808:Int)=((u%9223372036854775808:Nat):Int):=rfl
 have c1:decide (((u%9223372036854775808:Nat):Int)>(9218868437227405312:Int))=decide (9218868437227405312<u%9223372036854775808):=by rw [decide_eq_decide];omega
 have c2:(((u%9223372036854775808:Nat):Int)==(9218868437227405312:Int))=decide (u%9223372036854775808=9218868437227405312):=nbeq _ 9218868437227405312
 have c3:(((u%9223372036854775808:Nat):Int)==(0:Int))=decide (u%9223372036854775808=0):=nbeq _ 0
 have c4:decide (((u%9223372036854775808:Nat):Int)<(4503599627370496:Int))=decide (u%9223372036854775808<4503599627370496):=by rw [decide_eq_decide];omega
 unfold F129 av9
 simp only [h1,c1,c2,c3,c4]
 by_cases d1:9218868437227405312<u%9223372036854775808
 ·simp [d1]
 ·by_cases d2:u%9223372036854775808=9218868437227405312
  ·simp [d2]
  ·by_cases d3:u%9223372036854775808=0
   ·simp [d3]
   ·by_cases d4:u%9223372036854775808<4503599627370496
    ·simp [d1,d2,d3,d4]
    ·simp [d1,d2,d3,d4]
end Go.Ab
