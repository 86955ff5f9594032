/- A part of the proof: lemmas on how the program runs over plain data. -/
import Derived.Test.YtodichgnoiaanaaGreatGenZa
import Derived.KernelRfl
set_option linter.unusedVariables false
set_option linter.unusedSimpArgs false
set_option linter.unnecessarySimpa false
namespace Go.Ab
open Go Go.Proofs
set_option maxRecDepth 100000
noncomputable section
abbrev S79_6x:=(List UInt8)×Int×Unit×Int×Int×PV
abbrev S79_6y:=((List UInt8)×PV)⊕((List UInt8)×Int×Unit×Int×PV)
def S79_6 (uu:Nat) (a9:List UInt8) (a10:Int) (a11:Unit) (a12:Int) (a13:Int) (a14:PV):Option (S79_6x⊕S79_6y):=
 let x15:=(a14.fld 1).asList
 bif aaa a12 x15.length then
 let x19:=((x15.getD a12.toNat .bad).fld 0).asStr==a9
 let x20:=(a14.fld 1).asList
 bif imp x19 (aaa a12 x20.length) then
 bif (bif x19 then (decide (a13<(((x20.getD a12.toNat .bad).fld 2).asList.length:Int))) else false) then
 let x27:=(a14.fld 1).asList
 bif aaa a12 x27.length then
 let x30:=((x27.getD a12.toNat .bad).fld 2).asList
 bif aaa a13 x30.length then
 bif ((IntKind.wrap .u64 ((x30.getD a13.toNat .bad).fld 1).asInt)==a10) then
 let x36:=(a14.fld 1).asList
 bif aaa a12 x36.length then
 let x39:=((x36.getD a12.toNat .bad).fld 2).asList
 bif aaa a13 x39.length then
 some (.inr (.inl (((x39.getD a13.toNat .bad).fld 0).asStr,a14)))
 else none
 else none
 else
 some (.inl (a9,a10,(),a12,(IntKind.wrap .i64 (a13+(1:Int))),a14))
 else none
 else none
 else
 some (.inr (.inr (a9,a10,(),a12,a14)))
 else none
 else none
def S79_6step (uu:Nat) (x:S79_6x):Option (S79_6x⊕S79_6y):=S79_6 uu x.1 x.2.1 x.2.2.1 x.2.2.2.1 x.2.2.2.2.1 x.2.2.2.2.2
abbrev S79_3x:=(List UInt8)×Int×Unit×Int×PV
abbrev S79_3y:=((List UInt8)×PV)⊕(PV)
def S79_3 (uu:Nat) (a1:List UInt8) (a2:Int) (a3:Unit) (a4:Int) (a5:PV):Option (S79_3x⊕S79_3y):=
 bif (decide (a4<(((a5.fld 1).asList).length:Int))) then
 (aaf uu (S79_6step uu) (a1,a2,(),a4,(0:Int),a5)).bind fun z=>sumE (fun y44=>
 some (.inr (.inl (y44.1,y44.2)))
 ) (fun y45=>
 some (.inl (y45.1,y45.2.1,(),(IntKind.wrap .i64 (y45.2.2.2.1+(1:Int))),y45.2.2.2.2))
 ) z
 else
 some (.inr (.inr a5))
def S79_3step (uu:Nat) (x:S79_3x):Option (S79_3x⊕S79_3y):=S79_3 uu x.1 x.2.1 x.2.2.1 x.2.2.2.1 x.2.2.2.2
def F79 (uu:Nat) (a0:PV) (a1:List UInt8) (a2:Int):Option ((List UInt8)):=
 (aaf uu (S79_3step uu) (a1,a2,(),(0:Int),a0)).bind fun z=>sumE (fun y48=>
 some y48.1
 ) (fun y49=>
 some ([]:List UInt8)
 ) z
def S79_6l (uu:Nat):LoopE:=⟨6,⟨[1,2,3,7,8],bx14,.str::(.int .u64)::(.con (.ref 0 [] 39))::(.int .i64)::sv29⟩,[(.ret,⟨[6],bx14,[.str,(.data 39)]⟩),(.exit 2,⟨[1,2,3,7],bx14,.str::(.int .u64)::sv28⟩)],S79_6step uu⟩
def S79_3l (uu:Nat):LoopE:=⟨3,⟨[1,2,3,7],bx14,.str::(.int .u64)::sv28⟩,[(.ret,⟨[6],bx14,[.str,(.data 39)]⟩),(.exit 0,⟨[],bx14,[(.data 39)]⟩)],S79_3step uu⟩
def F79C (uu:Nat):Cfg:=cfg Tryz.prog 60 0 [] [S79_6l uu,S79_3l uu] uu
def F79c (uu:Nat):CallE:=⟨79,⟨3,[],[(.data 39),.str,(.int .u64)]⟩,⟨1,[],[.str]⟩,fun x=>F79 uu x.1 x.2.1 x.2.2,[]⟩
theorem F79k (uu:Nat):aai (F79C uu):=aac (q0) (p0)
theorem S79_6ok (uu:Nat):LoopOk (F79C uu) (lp (lp (aag Tryz.f79) 0) 0):=okL (F79k uu) uu (S79_6l uu) L0
theorem S79_3ok (uu:Nat):LoopOk (F79C uu) (lp (aag Tryz.f79) 0):=okL (F79k uu) uu (S79_3l uu) (L1 (S79_6ok uu))
theorem F79ok (uu:Nat):(F79c uu).Ok Tryz.prog:=okE Tryz.f79 (F79k uu) (L1 (S79_3ok uu))
abbrev S53_9x:=Unit×Unit×Unit×Int×Unit×Unit×Int×PV×(List UInt8)×(List UInt8)×(List PV)×(List PV)×(List PV)×(List PV)×(List UInt8)×(List UInt8)×(List PV)×(List PV)×(List PV)×(List PV)×(List UInt8)×(List PV)×(List PV)×(List PV)×(List PV)×(List UInt8)×(List PV)×(List PV)×(List PV)×(List PV)
abbrev S53_9y:=(Unit×Unit×Unit×Int×Unit×PV×(List UInt8)×(List UInt8)×(List PV)×(List PV)×(List PV)×(List PV)×(List UInt8)×(List UInt8)×(List PV)×(List PV)×(List PV)×(List PV)×(List UInt8)×(List PV)×(List PV)×(List PV)×(List PV)×(List UInt8)×(List PV)×(List PV)×(List PV)×(List PV))
def S53_9 (uu:Nat) (a15:Unit) (a16:Unit) (a17:Unit) (a18:Int) (a19:Unit) (a20:Unit) (a21:Int) (s:PV×(List UInt8)×(List UInt8)×(List PV)×(List PV)×(List PV)×(List PV)×(List UInt8)×(List UInt8)×(List PV)×(List PV)×(List PV)×(List PV)×(List UInt8)×(List PV)×(List PV)×(List PV)×(List PV)×(List UInt8)×(List PV)×(List PV)×(List PV)×(List PV)):Option (S53_9x⊕S53_9y):=
 bif (decide (a21<(s.2.2.2.2.2.2.2.2.2.2.2.2.2.2.1.length:Int))) then
 bif aaa a21 s.2.2.2.2.2.2.2.2.2.2.2.2.2.2.1.length then
 let x24:=s.2.2.2.2.2.2.2.2.2.2.2.2.2.2.1.getD a21.toNat .bad
 bif (bif ((((x24.fld 4).fld 0).asInt)==(9:Int)) then ((x24.fld 6).asBool) else false) then
 (F79 uu s.1 (((x24.fld 4).fld 1).asStr) (((x24.fld 7).fld 1).asInt)).bind fun y31=>
 bif (bif ((((x24.fld 4).fld 0).asInt)==(9:Int)) then true else ((((x24.fld 4).fld 0).asInt)==(10:Int))) then
 let x37:=((x24.fld 4).fld 1).asStr
 bif decide (([46]:List UInt8).length+x37.length<=aad) then
 let x38:=(x24.fld 0).asInt
 let x39:=(x24.fld 1).asStr
 let x40:=(x24.fld 2).asInt
 let x41:=(x24.fld 3).asInt
 let x42:=(x24.fld 5).asStr
 let x43:=(x24.fld 6).asBool
 let x44:=(x24.fld 8).asList
 bif decide (s.2.2.2.2.2.2.2.2.2.2.2.2.2.2.2.2.2.2.2.1.length+[(PV.agg [(PV.int x38),(PV.str x39),(PV.int x40),(PV.int x41),(PV.agg [(PV.int (0:Int)),(PV.str (([46]:List UInt8)++x37))]),(PV.str x42),(PV.bool x43),(PV.agg [(PV.int (9:Int)),(PV.int (0:Int)),(PV.str y31),(PV.slice []),(PV.slice []),(PV.slice []),(PV.slice [])]),(PV.slice x44)])].length<=aao) then
 let x45:=s.2.2.2.2.2.2.2.2.2.2.2.2.2.2.2.2.2.2.2.1++[(PV.agg [(PV.int x38),(PV.str x39),(PV.int x40),(PV.int x41),(PV.agg [(PV.int (0:Int)),(PV.str (([46]:List UInt8)++x37))]),(PV.str x42),(PV.bool x43),(PV.agg [(PV.int (9:Int)),(PV.int (0:Int)),(PV.str y31),(PV.slice []),(PV.slice []),(PV.slice []),(PV.slice [])]),(PV.slice x44)])]
 some (.inl ((),(),(),a18,(),(),(IntKind.wrap .i64 (a21+(1:Int))),s.1,s.2.1,s.2.2.1,s.2.2.2.1,s.2.2.2.2.1,s.2.2.2.2.2.1,s.2.2.2.2.2.2.1,s.2.2.2.2.2.2.2.1,s.2.2.2.2.2.2.2.2.1,s.2.2.2.2.2.2.2.2.2.1,s.2.2.2.2.2.2.2.2.2.2.1,s.2.2.2.2.2.2.2.2.2.2.2.1,s.2.2.2.2.2.2.2.2.2.2.2.2.1,s.2.2.2.2.2.2.2.2.2.2.2.2.2.1,s.2.2.2.2.2.2.2.2.2.2.2.2.2.2.1,s.2.2.2.2.2.2.2.2.2.2.2.2.2.2.2.1,s.2.2.2.2.2.2.2.2.2.2.2.2.2.2.2.2.1,s.2.2.2.2.2.2.2.2.2.2.2.2.2.2.2.2.2.1,s.2.2.2.2.2.2.2.2.2.2.2.2.2.2.2.2.2.2.1,x45,s.2.2.2.2.2.2.2.2.2.2.2.2.2.2.2.2.2.2.2.2))
 else none
 else none
 else
 let x47:=(x24.fld 0).asInt
 let x48:=(x24.fld 1).asStr
 let x49:=(x24.fld 2).asInt
 let x50:=(x24.fld 3).asInt
 let x51:=x24.fld 4
 let x52:=(x24.fld 5).asStr
 let x53:=(x24.fld 6).asBool
 let x54:=(x24.fld 8).asList
 bif decide (s.2.2.2.2.2.2.2.2.2.2.2.2.2.2.2.2.2.2.2.1.length+[(PV.agg [(PV.int x47),(PV.str x48),(PV.int x49),(PV.int x50),x51,(PV.str x52),(PV.bool x53),(PV.agg [(PV.int (9:Int)),(PV.int (0:Int)),(PV.str y31),(PV.slice []),(PV.slice []),(PV.slice []),(PV.slice [])]),(PV.slice x54)])].length<=aao) then
 let x55:=s.2.2.2.2.2.2.2.2.2.2.2.2.2.2.2.2.2.2.2.1++[(PV.agg [(PV.int x47),(PV.str x48),(PV.int x49),(PV.int x50),x51,(PV.str x52),(PV.bool x53),(PV.agg [(PV.int (9:Int)),(PV.int (0:Int)),(PV.str y31),(PV.slice []),(PV.slice []),(PV.slice []),(PV.slice [])]),(PV.slice x54)])]
 some (.inl ((),(),(),a18,(),(),(IntKind.wrap .i64 (a21+(1:Int))),s.1,s.2.1,s.2.2.1,s.2.2.2.1,s.2.2.2.2.1,s.2.2.2.2.2.1,s.2.2.2.2.2.2.1,s.2.2.2.2.2.2.2.1,s.2.2.2.2.2.2.2.2.1,s.2.2.2.2.2.2.2.2.2.1,s.2.2.2.2.2.2.2.2.2.2.1,s.2.2.2.2.2.2.2.2.2.2.2.1,s.2.2.2.2.2.2.2.2.2.2.2.2.1,s.2.2.2.2.2.2.2.2.2.2.2.2.2.1,s.2.2.2.2.2.2.2.2.2.2.2.2.2.2.1,s.2.2.2.2.2.2.2.2.2.2.2.2.2.2.2.1,s.2.2.2.2.2.2.2.2.2.2.2.2.2.2.2.2.1,s.2.2.2.2.2.2.2.2.2.2.2.2.2.2.2.2.2.1,s.2.2.2.2.2.2.2.2.2.2.2.2.2.2.2.2.2.2.1,x55,s.2.2.2.2.2.2.2.2.2.2.2.2.2.2.2.2.2.2.2.2))
 else none
 else
 bif (bif ((((x24.fld 4).fld 0).asInt)==(9:Int)) then true else ((((x24.fld 4).fld 0).asInt)==(10:Int))) then
 let x62:=((x24.fld 4).fld 1).asStr
 bif decide (([46]:List UInt8).length+x62.length<=aad) then
 let x63:=(x24.fld 0).asInt
 let x64:=(x24.fld 1).asStr
 let x65:=(x24.fld 2).asInt
 let x66:=(x24.fld 3).asInt
 let x67:=(x24.fld 5).asStr
 let x68:=(x24.fld 6).asBool
 let x69:=x24.fld 7
 let x70:=(x24.fld 8).asList
 bif decide (s.2.2.2.2.2.2.2.2.2.2.2.2.2.2.2.2.2.2.2.1.length+[(PV.agg [(PV.int x63),(PV.str x64),(PV.int x65),(PV.int x66),(PV.agg [(PV.int (0:Int)),(PV.str (([46]:List UInt8)++x62))]),(PV.str x67),(PV.bool x68),x69,(PV.slice x70)])].length<=aao) then
 let x71:=s.2.2.2.2.2.2.2.2.2.2.2.2.2.2.2.2.2.2.2.1++[(PV.agg [(PV.int x63),(PV.str x64),(PV.int x65),(PV.int x66),(PV.agg [(PV.int (0:Int)),(PV.str (([46]:List UInt8)++x62))]),(PV.str x67),(PV.bool x68),x69,(PV.slice x70)])]
 some (.inl ((),(),(),a18,(),(),(IntKind.wrap .i64 (a21+(1:Int))),s.1,s.2.1,s.2.2.1,s.2.2.2.1,s.2.2.2.2.1,s.2.2.2.2.2.1,s.2.2.2.2.2.2.1,s.2.2.2.2.2.2.2.1,s.2.2.2.2.2.2.2.2.1,s.2.2.2.2.2.2.2.2.2.1,s.2.2.2.2.2.2.2.2.2.2.1,s.2.2.2.2.2.2.2.2.2.2.2.1,s.2.2.2.2.2.2.2.2.2.2.2.2.1,s.2.2.2.2.2.2.2.2.2.2.2.2.2.1,s.2.2.2.2.2.2.2.2.2.2.2.2.2.2.1,s.2.2.2.2.2.2.2.2.2.2.2.2.2.2.2.1,s.2.2.2.2.2.2.2.2.2.2.2.2.2.2.2.2.1,s.2.2.2.2.2.2.2.2.2.2.2.2.2.2.2.2.2.1,s.2.2.2.2.2.2.2.2.2.2.2.2.2.2.2.2.2.2.1,x71,s.2.2.2.2.2.2.2.2.2.2.2.2.2.2.2.2.2.2.2.2))
 else none
 else none
 else
 bif decide (s.2.2.2.2.2.2.2.2.2.2.2.2.2.2.2.2.2.2.2.1.length+[x24].length<=aao) then
 some (.inl ((),(),(),a18,(),(),(IntKind.wrap .i64 (a21+(1:Int))),s.1,s.2.1,s.2.2.1,s.2.2.2.1,s.2.2.2.2.1,s.2.2.2.2.2.1,s.2.2.2.2.2.2.1,s.2.2.2.2.2.2.2.1,s.2.2.2.2.2.2.2.2.1,s.2.2.2.2.2.2.2.2.2.1,s.2.2.2.2.2.2.2.2.2.2.1,s.2.2.2.2.2.2.2.2.2.2.2.1,s.2.2.2.2.2.2.2.2.2.2.2.2.1,s.2.2.2.2.2.2.2.2.2.2.2.2.2.1,s.2.2.2.2.2.2.2.2.2.2.2.2.2.2.1,s.2.2.2.2.2.2.2.2.2.2.2.2.2.2.2.1,s.2.2.2.2.2.2.2.2.2.2.2.2.2.2.2.2.1,s.2.2.2.2.2.2.2.2.2.2.2.2.2.2.2.2.2.1,s.2.2.2.2.2.2.2.2.2.2.2.2.2.2.2.2.2.2.1,(s.2.2.2.2.2.2.2.2.2.2.2.2.2.2.2.2.2.2.2.1++[x24]),s.2.2.2.2.2.2.2.2.2.2.2.2.2.2.2.2.2.2.2.2))
 else none
 else none
 else
 some (.inr ((),(),(),a18,(),s))
def S53_9step (uu:Nat) (x:S53_9x):Option (S53_9x⊕S53_9y):=S53_9 uu x.1 x.2.1 x.2.2.1 x.2.2.2.1 x.2.2.2.2.1 x.2.2.2.2.2.1 x.2.2.2.2.2.2.1 x.2.2.2.2.2.2.2
abbrev S53_4x:=Unit×Unit×Unit×Int×PV×(List UInt8)×(List UInt8)×(List PV)×(List PV)×(List PV)×(List PV)×(List UInt8)×(List UInt8)×(List PV)×(List PV)×(List PV)×(List PV)
abbrev S53_4y:=(Unit×Unit×Unit×PV×(List UInt8)×(List UInt8)×(List PV)×(List PV)×(List PV)×(List PV)×(List UInt8)×(List UInt8)×(List PV)×(List PV)×(List PV)×(List PV))
def S53_4 (uu:Nat) (a2:Unit) (a3:Unit) (a4:Unit) (a5:Int) (s:PV×(List UInt8)×(List UInt8)×(List PV)×(List PV)×(List PV)×(List PV)×(List UInt8)×(List UInt8)×(List PV)×(List PV)×(List PV)×(List PV)):Option (S53_4x⊕S53_4y):=
 bif (decide (a5<(((s.1.fld 0).asList).length:Int))) then
 let x9:=(s.1.fld 0).asList
 bif aaa a5 x9.length then
 let x10:=x9.getD a5.toNat .bad
 (aaf uu (S53_9step uu) ((),(),(),a5,(),(),(0:Int),s.1,s.2.1,s.2.2.1,s.2.2.2.1,s.2.2.2.2.1,s.2.2.2.2.2.1,s.2.2.2.2.2.2.1,s.2.2.2.2.2.2.2.1,s.2.2.2.2.2.2.2.2.1,s.2.2.2.2.2.2.2.2.2.1,s.2.2.2.2.2.2.2.2.2.2.1,s.2.2.2.2.2.2.2.2.2.2.2.1,s.2.2.2.2.2.2.2.2.2.2.2.2,(x10.fld 0).asStr,(x10.fld 1).asList,(x10.fld 2).asList,(x10.fld 3).asList,(x10.fld 4).asList,((x10.fld 0).asStr),[],((x10.fld 2).asList),((x10.fld 3).asList),((x10.fld 4).asList))).bind fun y75=>
 let x76:=y75.2.2.2.2.2.2.2.2.2.2.2.2.2.2.2.1
 let x77:=y75.2.2.2.2.2.2.2.2.2.2.2.2.2.2.2.2.2.2.2.2.2.2.2.1
 let x78:=y75.2.2.2.2.2.2.2.2.2.2.2.2.2.2.2.2.2.2.2.2.2.2.2.2.1
 let x79:=y75.2.2.2.2.2.2.2.2.2.2.2.2.2.2.2.2.2.2.2.2.2.2.2.2.2.1
 let x80:=y75.2.2.2.2.2.2.2.2.2.2.2.2.2.2.2.2.2.2.2.2.2.2.2.2.2.2.1
 let x81:=y75.2.2.2.2.2.2.2.2.2.2.2.2.2.2.2.2.2.2.2.2.2.2.2.2.2.2.2
 bif decide (x76.length+[(PV.agg [(PV.str x77),(PV.slice x78),(PV.slice x79),(PV.slice x80),(PV.slice x81)])].length<=aao) then
 let x82:=x76++[(PV.agg [(PV.str x77),(PV.slice x78),(PV.slice x79),(PV.slice x80),(PV.slice x81)])]
 some (.inl ((),(),(),(IntKind.wrap .i64 (y75.2.2.2.1+(1:Int))),y75.2.2.2.2.2.1,y75.2.2.2.2.2.2.1,y75.2.2.2.2.2.2.2.1,y75.2.2.2.2.2.2.2.2.1,y75.2.2.2.2.2.2.2.2.2.1,y75.2.2.2.2.2.2.2.2.2.2.1,y75.2.2.2.2.2.2.2.2.2.2.2.1,y75.2.2.2.2.2.2.2.2.2.2.2.2.1,y75.2.2.2.2.2.2.2.2.2.2.2.2.2.1,y75.2.2.2.2.2.2.2.2.2.2.2.2.2.2.1,x82,y75.2.2.2.2.2.2.2.2.2.2.2.2.2.2.2.2.1,y75.2.2.2.2.2.2.2.2.2.2.2.2.2.2.2.2.2.1))
 else none
 else none
 else
 some (.inr ((),(),(),s))
def S53_4step (uu:Nat) (x:S53_4x):Option (S53_4x⊕S53_4y):=S53_4 uu x.1 x.2.1 x.2.2.1 x.2.2.2.1 x.2.2.2.2
abbrev S53_24x:=Unit×Unit×Unit×Int×Unit×Unit×Int×PV×(List UInt8)×(List UInt8)×(List PV)×(List PV)×(List PV)×(List PV)×(List UInt8)×(List UInt8)×(List PV)×(List PV)×(List PV)×(List PV)×(List UInt8)×(List PV)×(List PV)×(List UInt8)×(List PV)×(List PV)
abbrev S53_24y:=(Unit×Unit×Unit×Int×Unit×PV×(List UInt8)×(List UInt8)×(List PV)×(List PV)×(List PV)×(List PV)×(List UInt8)×(List UInt8)×(List PV)×(List PV)×(List PV)×(List PV)×(List UInt8)×(List PV)×(List PV)×(List UInt8)×(List PV)×(List PV))
def S53_24 (uu:Nat) (a97:Unit) (a98:Unit) (a99:Unit) (a100:Int) (a101:Unit) (a102:Unit) (a103:Int) (s:PV×(List UInt8)×(List UInt8)×(List PV)×(List PV)×(List PV)×(List PV)×(List UInt8)×(List UInt8)×(List PV)×(List PV)×(List PV)×(List PV)×(List UInt8)×(List PV)×(List PV)×(List UInt8)×(List PV)×(List PV)):Option (S53_24x⊕S53_24y):=
 bif (decide (a103<(s.2.2.2.2.2.2.2.2.2.2.2.2.2.2.1.length:Int))) then
 bif aaa a103 s.2.2.2.2.2.2.2.2.2.2.2.2.2.2.1.length then
 let x106:=s.2.2.2.2.2.2.2.2.2.2.2.2.2.2.1.getD a103.toNat .bad
 let x107:=(x106.fld 1).asStr
 bif decide (([46]:List UInt8).length+x107.length<=aad) then
 let x108:=(x106.fld 2).asStr
 bif decide (([46]:List UInt8).length+x108.length<=aad) then
 let x109:=(x106.fld 0).asStr
 let x110:=(x106.fld 3).asInt
 let x111:=(x106.fld 4).asList
 bif decide (s.2.2.2.2.2.2.2.2.2.2.2.2.2.2.2.2.2.1.length+[(PV.agg [(PV.str x109),(PV.str (([46]:List UInt8)++x107)),(PV.str (([46]:List UInt8)++x108)),(PV.int x110),(PV.slice x111)])].length<=aao) then
 let x112:=s.2.2.2.2.2.2.2.2.2.2.2.2.2.2.2.2.2.1++[(PV.agg [(PV.str x109),(PV.str (([46]:List UInt8)++x107)),(PV.str (([46]:List UInt8)++x108)),(PV.int x110),(PV.slice x111)])]
 some (.inl ((),(),(),a100,(),(),(IntKind.wrap .i64 (a103+(1:Int))),s.1,s.2.1,s.2.2.1,s.2.2.2.1,s.2.2.2.2.1,s.2.2.2.2.2.1,s.2.2.2.2.2.2.1,s.2.2.2.2.2.2.2.1,s.2.2.2.2.2.2.2.2.1,s.2.2.2.2.2.2.2.2.2.1,s.2.2.2.2.2.2.2.2.2.2.1,s.2.2.2.2.2.2.2.2.2.2.2.1,s.2.2.2.2.2.2.2.2.2.2.2.2.1,s.2.2.2.2.2.2.2.2.2.2.2.2.2.1,s.2.2.2.2.2.2.2.2.2.2.2.2.2.2.1,s.2.2.2.2.2.2.2.2.2.2.2.2.2.2.2.1,s.2.2.2.2.2.2.2.2.2.2.2.2.2.2.2.2.1,x112,s.2.2.2.2.2.2.2.2.2.2.2.2.2.2.2.2.2.2))
 else none
 else none
 else none
 else none
 else
 some (.inr ((),(),(),a100,(),s))
def S53_24step (uu:Nat) (x:S53_24x):Option (S53_24x⊕S53_24y):=S53_24 uu x.1 x.2.1 x.2.2.1 x.2.2.2.1 x.2.2.2.2.1 x.2.2.2.2.2.1 x.2.2.2.2.2.2.1 x.2.2.2.2.2.2.2
abbrev S53_19x:=Unit×Unit×Unit×Int×PV×(List UInt8)×(List UInt8)×(List PV)×(List PV)×(List PV)×(List PV)×(List UInt8)×(List UInt8)×(List PV)×(List PV)×(List PV)×(List PV)
abbrev S53_19y:=(Unit×Unit×PV×(List UInt8)×(List UInt8)×(List PV)×(List PV)×(List PV)×(List PV)×(List UInt8)×(List UInt8)×(List PV)×(List PV)×(List PV)×(List PV))
def S53_19 (uu:Nat) (a86:Unit) (a87:Unit) (a88:Unit) (a89:Int) (s:PV×(List UInt8)×(List UInt8)×(List PV)×(List PV)×(List PV)×(List PV)×(List UInt8)×(List UInt8)×(List PV)×(List PV)×(List PV)×(List PV)):Option (S53_19x⊕S53_19y):=
 bif (decide (a89<(((s.1.fld 2).asList).length:Int))) then
 let x93:=(s.1.fld 2).asList
 bif aaa a89 x93.length then
 let x94:=x93.getD a89.toNat .bad
 (aaf uu (S53_24step uu) ((),(),(),a89,(),(),(0:Int),s.1,s.2.1,s.2.2.1,s.2.2.2.1,s.2.2.2.2.1,s.2.2.2.2.2.1,s.2.2.2.2.2.2.1,s.2.2.2.2.2.2.2.1,s.2.2.2.2.2.2.2.2.1,s.2.2.2.2.2.2.2.2.2.1,s.2.2.2.2.2.2.2.2.2.2.1,s.2.2.2.2.2.2.2.2.2.2.2.1,s.2.2.2.2.2.2.2.2.2.2.2.2,(x94.fld 0).asStr,(x94.fld 1).asList,(x94.fld 2).asList,((x94.fld 0).asStr),[],((x94.fld 2).asList))).bind fun y114=>
 let x115:=y114.2.2.2.2.2.2.2.2.2.2.2.2.2.2.2.2.2.1
 let x116:=y114.2.2.2.2.2.2.2.2.2.2.2.2.2.2.2.2.2.2.2.2.2.1
 let x117:=y114.2.2.2.2.2.2.2.2.2.2.2.2.2.2.2.2.2.2.2.2.2.2.1
 let x118:=y114.2.2.2.2.2.2.2.2.2.2.2.2.2.2.2.2.2.2.2.2.2.2.2
 bif decide (x115.length+[(PV.agg [(PV.str x116),(PV.slice x117),(PV.slice x118)])].length<=aao) then
 let x119:=x115++[(PV.agg [(PV.str x116),(PV.slice x117),(PV.slice x118)])]
 some (.inl ((),(),(),(IntKind.wrap .i64 (y114.2.2.2.1+(1:Int))),y114.2.2.2.2.2.1,y114.2.2.2.2.2.2.1,y114.2.2.2.2.2.2.2.1,y114.2.2.2.2.2.2.2.2.1,y114.2.2.2.2.2.2.2.2.2.1,y114.2.2.2.2.2.2.2.2.2.2.1,y114.2.2.2.2.2.2.2.2.2.2.2.1,y114.2.2.2.2.2.2.2.2.2.2.2.2.1,y114.2.2.2.2.2.2.2.2.2.2.2.2.2.1,y114.2.2.2.2.2.2.2.2.2.2.2.2.2.2.1,y114.2.2.2.2.2.2.2.2.2.2.2.2.2.2.2.1,y114.2.2.2.2.2.2.2.2.2.2.2.2.2.2.2.2.1,x119))
 else none
 else none
 else
 some (.inr ((),(),s))
def S53_19step (uu:Nat) (x:S53_19x):Option (S53_19x⊕S53_19y):=S53_19 uu x.1 x.2.1 x.2.2.1 x.2.2.2.1 x.2.2.2.2
def F53 (uu:Nat) (a0:PV):Option (PV):=
 (aaf uu (S53_4step uu) ((),(),(),(0:Int),a0,([]:List UInt8),([]:List UInt8),[],[],[],[],([]:List UInt8),([]:List UInt8),[],[],((a0.fld 1).asList),[])).bind fun y85=>
 (aaf uu (S53_19step uu) ((),(),(),(0:Int),y85.2.2.2)).bind fun y122=>
 some (PV.agg [(PV.str y122.2.2.2.2.2.2.2.2.2.1),(PV.str y122.2.2.2.2.2.2.2.2.2.2.1),(PV.slice y122.2.2.2.2.2.2.2.2.2.2.2.1),(PV.slice y122.2.2.2.2.2.2.2.2.2.2.2.2.1),(PV.slice y122.2.2.2.2.2.2.2.2.2.2.2.2.2.1),(PV.slice y122.2.2.2.2.2.2.2.2.2.2.2.2.2.2)])
def S53_9l (uu:Nat):LoopE:=⟨9,⟨[1,2,3,4,5,6,7],bx29,(.con (.ref 0 [] 39))::(.con (.ref 1 [] 124))::(.con (.ref 2 [] 124))::(.int .i64)::(.con (.ref 7 [] 73))::(.con (.ref 8 [] 73))::(.int .i64)::(.data 39)::.str::.str::(.slice 9)::(.acc 3 73)::(.slice 116)::(.acc 4 120)::.str::.str::(.slice 9)::(.acc 5 73)::(.slice 116)::(.acc 6 120)::.str::(.slice 68)::(.slice 219)::(.slice 9)::(.slice 65)::.str::(.acc 9 68)::sv44⟩,[(.exit 2,⟨[1,2,3,4,6],bx29,(.con (.ref 0 [] 39))::(.con (.ref 1 [] 124))::(.con (.ref 2 [] 124))::(.int .i64)::(.con (.ref 8 [] 73))::(.data 39)::.str::.str::(.slice 9)::(.acc 3 73)::(.slice 116)::(.acc 4 120)::.str::.str::(.slice 9)::(.acc 5 73)::(.slice 116)::(.acc 6 120)::.str::(.slice 68)::(.slice 219)::(.slice 9)::(.slice 65)::.str::(.acc 9 68)::sv44⟩)],S53_9step uu⟩
def S53_4l (uu:Nat):LoopE:=⟨4,⟨[1,2,3,4],bx30,(.con (.ref 0 [] 39))::(.con (.ref 1 [] 124))::(.con (.ref 2 [] 124))::(.int .i64)::sv47⟩,[(.exit 0,⟨[1,2,3],bx30,(.con (.ref 0 [] 39))::(.con (.ref 1 [] 124))::(.con (.ref 2 [] 124))::sv47⟩)],S53_4step uu⟩
def S53_24l (uu:Nat):LoopE:=⟨24,⟨[1,2,3,9,10,11,12],bx31,[(.con (.ref 0 [] 39)),(.con (.ref 1 [] 124)),(.con (.ref 2 [] 124)),(.int .i64),(.con (.ref 7 [] 120)),(.con (.ref 8 [] 120)),(.int .i64),(.data 39),.str,.str,(.slice 9),(.acc 3 73),(.slice 116),(.acc 4 120),.str,.str,(.slice 9),(.acc 5 73),(.slice 116),(.acc 6 120),.str,(.slice 166),(.slice 65),.str,(.acc 9 166),(.slice 65)]⟩,[(.exit 6,⟨[1,2,3,9,11],bx31,[(.con (.ref 0 [] 39)),(.con (.ref 1 [] 124)),(.con (.ref 2 [] 124)),(.int .i64),(.con (.ref 8 [] 120)),(.data 39),.str,.str,(.slice 9),(.acc 3 73),(.slice 116),(.acc 4 120),.str,.str,(.slice 9),(.acc 5 73),(.slice 116),(.acc 6 120),.str,(.slice 166),(.slice 65),.str,(.acc 9 166),(.slice 65)]⟩)],S53_24step uu⟩
def S53_19l (uu:Nat):LoopE:=⟨19,⟨[1,2,3,9],bx30,(.con (.ref 0 [] 39))::(.con (.ref 1 [] 124))::(.con (.ref 2 [] 124))::(.int .i64)::sv47⟩,[(.exit 4,⟨[2,3],bx30,(.con (.ref 1 [] 124))::(.con (.ref 2 [] 124))::sv47⟩)],S53_19step uu⟩
def F53C (uu:Nat):Cfg:=cfg Tryz.prog 146 0 [F79c uu] [S53_9l uu,S53_4l uu,S53_24l uu,S53_19l uu] uu
def F53c (uu:Nat):CallE:=⟨53,⟨1,[],[(.data 39)]⟩,⟨1,[],[(.data 124)]⟩,fun x=>F53 uu x,PV.bad⟩
theorem F53k (uu:Nat):aai (F53C uu):=aac (qc (F79ok uu)<|q0) (p0)
theorem S53_9ok (uu:Nat):LoopOk (F53C uu) (lp (lp (aag Tryz.f53) 0) 0):=okL (F53k uu) uu (S53_9l uu) L0
theorem S53_4ok (uu:Nat):LoopOk (F53C uu) (lp (aag Tryz.f53) 0):=okL (F53k uu) uu (S53_4l uu) (L1 (S53_9ok uu))
theorem S53_24ok (uu:Nat):LoopOk (F53C uu) (lp (lp (aag Tryz.f53) 1) 0):=okL (F53k uu) uu (S53_24l uu) L0
theorem S53_19ok (uu:Nat):LoopOk (F53C uu) (lp (aag Tryz.f53) 1):=okL (F53k uu) uu (S53_19l uu) (L1 (S53_24ok uu))
theorem F53ok (uu:Nat):(F53c uu).Ok Tryz.prog:=okE Tryz.f53 (F53k uu) (L2 (S53_4ok uu) (S53_19ok uu))
def S146_4 (uu:Nat) (a3:List UInt8):Option (((List UInt8))⊕((Bool)⊕(Unit))):=
 bif (!(a3==([]:List UInt8))) then
 (F137 uu a3).bind fun y5=>
 (F138 uu y5.2).bind fun y8=>
 bif y8 then
 some (.inr (.inl false))
 else
 some (.inl y5.1)
 else
 some (.inr (.inr ()))
def S146_4step (uu:Nat) (x:(List UInt8)):Option (((List UInt8))⊕((Bool)⊕(Unit))):=S146_4 uu x
def F146 (uu:Nat) (a0:List UInt8):Option (Bool):=
 (F14 uu a0).bind fun y1=>
 bif (!y1) then
 some false
 else
 (aaf uu (S146_4step uu) a0).bind fun z=>sumE (fun y9=>
 some y9
 ) (fun y10=>
 some true
 ) z
def S146_4l (uu:Nat):LoopE:=⟨4,⟨[0],[],[.str]⟩,[(.ret,⟨[2],[],[.bool]⟩),(.exit 0,⟨[],[],[]⟩)],S146_4step uu⟩
def F146C (uu:Nat):Cfg:=cfg Tryz.prog 18 0 [F14c uu,F137c uu,F138c uu] [S146_4l uu] uu
def F146c (uu:Nat):CallE:=⟨146,⟨1,[],[.str]⟩,⟨1,[],[.bool]⟩,fun x=>F146 uu x,false⟩
theorem F146k (uu:Nat):aai (F146C uu):=aac (qc (F14ok uu)<|qc (F137ok uu)<|qc (F138ok uu)<|q0) (p0)
theorem S146_4ok (uu:Nat):LoopOk (F146C uu) (lp (aag Tryz.f146) 0):=okL (F146k uu) uu (S146_4l uu) L0
theorem F146ok (uu:Nat):(F146c uu).Ok Tryz.prog:=okE Tryz.f146 (F146k uu) (L1 (S146_4ok uu))
def F147 (uu:Nat) (a0:List UInt8):Option (Bool):=
 (F24 uu a0).bind fun y1=>
 (bif y1 then F138 uu a0 else some false).bind fun y2=>
 some (bif y1 then (!y2) else false)
def F147c (uu:Nat):CallE:=⟨147,⟨1,[],[.str]⟩,⟨1,[],[.bool]⟩,fun x=>F147 uu x,false⟩
theorem F147ok (uu:Nat):(F147c uu).Ok Tryz.prog:=okJ Tryz.f147 10 0 uu _ [] false (qc (F24ok uu)<|qc (F138ok uu)<|q0) (p0) L0
def F169 (uu:Nat) (a0:Int):Option ((List UInt8)):=
 bif (bif (decide (a0<(1:Int))) then true else (decide (a0>(8:Int)))) then
 some ([]:List UInt8)
 else
 let x4:=IntKind.wrap .i64 (a0-(1:Int))
 bif aaa x4 ([(PV.str ([98,111,111,108]:List UInt8)),(PV.str ([105,51,50]:List UInt8)),(PV.str ([105,54,52]:List UInt8)),(PV.str ([117,51,50]:List UInt8)),(PV.str ([117,54,52]:List UInt8)),(PV.str ([100,111,117,98,108,101]:List UInt8)),(PV.str ([116,101,120,116]:List UInt8)),(PV.str ([98,121,116,101,115]:List UInt8))].length) then
 some (([(PV.str ([98,111,111,108]:List UInt8)),(PV.str ([105,51,50]:List UInt8)),(PV.str ([105,54,52]:List UInt8)),(PV.str ([117,51,50]:List UInt8)),(PV.str ([117,54,52]:List UInt8)),(PV.str ([100,111,117,98,108,101]:List UInt8)),(PV.str ([116,101,120,116]:List UInt8)),(PV.str ([98,121,116,101,115]:List UInt8))].getD x4.toNat .bad).asStr)
 else none
def F169c (uu:Nat):CallE:=⟨169,⟨1,[],[(.int .i64)]⟩,⟨1,[],[.str]⟩,fun x=>F169 uu x,[]⟩
theorem F169ok (uu:Nat):(F169c uu).Ok Tryz.prog:=okJ Tryz.f169 16 0 uu [] [] false (q0) (p0) L0
def F149 (uu:Nat) (a0:List UInt8):Option (Bool):=
 let x1:=!(a0==([]:List UInt8))
 bif imp x1 (aaa (0:Int) a0.length) then
 bif (bif x1 then (((a0.getD (0:Int).toNat 0).toNat:Int)==(46:Int)) else false) then
 bif decide (0<=(1:Int)/\(1:Int)<=(a0.length:Int)/\(a0.length:Int)<=(a0.length:Int)) then
 (F14 uu ((a0.take (a0.length:Int).toNat).drop (1:Int).toNat)).bind fun y6=>
 some y6
 else none
 else
 (F14 uu a0).bind fun y7=>
 some y7
 else none
def F149c (uu:Nat):CallE:=⟨149,⟨1,[],[.str]⟩,⟨1,[],[.bool]⟩,fun x=>F149 uu x,false⟩
theorem F149ok (uu:Nat):(F149c uu).Ok Tryz.prog:=okJ Tryz.f149 15 0 uu _ [] false (qc (F14ok uu)<|q0) (p0) L0
def S148_5 (uu:Nat) (a6:Unit) (a7:Int) (a8:PV):Option ((Unit×Int×PV)⊕((Bool×PV)⊕(Unit×PV))):=
 bif (decide (a7<=(8:Int))) then
 (F169 uu a7).bind fun y11=>
 bif (((a8.fld 1).asStr)==y11) then
 some (.inr (.inl (false,a8)))
 else
 some (.inl ((),(IntKind.wrap .i64 (a7+(1:Int))),a8))
 else
 some (.inr (.inr ((),a8)))
def S148_5step (uu:Nat) (x:Unit×Int×PV):Option ((Unit×Int×PV)⊕((Bool×PV)⊕(Unit×PV))):=S148_5 uu x.1 x.2.1 x.2.2
def F148 (uu:Nat) (a0:PV):Option (Bool):=
 (F169 uu ((a0.fld 0).asInt)).bind fun y2=>
 bif (!(y2==([]:List UInt8))) then
 some (((a0.fld 1).asStr)==([]:List UInt8))
 else
 (aaf uu (S148_5step uu) ((),(1:Int),a0)).bind fun z=>sumE (fun y14=>
 some y14.1
 ) (fun y15=>
 (F149 uu ((y15.2.fld 1).asStr)).bind fun y17=>
 some y17
 ) z
def S148_5l (uu:Nat):LoopE:=⟨5,⟨[1,3],[.box 57 .leaf],[(.con (.ref 0 [] 57)),(.int .i64),(.data 57)]⟩,[(.ret,⟨[2],[.box 57 .leaf],[.bool,(.data 57)]⟩),(.exit 0,⟨[1],[.box 57 .leaf],[(.con (.ref 0 [] 57)),(.data 57)]⟩)],S148_5step uu⟩
def F148C (uu:Nat):Cfg:=cfg Tryz.prog 23 0 [F169c uu,F149c uu] [S148_5l uu] uu
def F148c (uu:Nat):CallE:=⟨148,⟨1,[],[(.data 57)]⟩,⟨1,[],[.bool]⟩,fun x=>F148 uu x,false⟩
theorem F148k (uu:Nat):aai (F148C uu):=aac (qc (F169ok uu)<|qc (F149ok uu)<|q0) (p0)
theorem S148_5ok (uu:Nat):LoopOk (F148C uu) (lp (aag Tryz.f148) 0):=okL (F148k uu) uu (S148_5l uu) L0
theorem F148ok (uu:Nat):(F148c uu).Ok Tryz.prog:=okE Tryz.f148 (F148k uu) (L1 (S148_5ok uu))
abbrev S118_9x:=Unit×Bool×Int×Unit×Int×PV×PV
abbrev S118_9y:=(Unit×Bool×Int×PV×PV)
def S118_9 (uu:Nat) (a18:Unit) (a19:Bool) (a20:Int) (a21:Unit) (a22:Int) (a23:PV) (a24:PV):Option (S118_9x⊕S118_9y):=
 bif (decide (a22<(((a24.fld 1).asList).length:Int))) then
 let x28:=(a24.fld 1).asList
 bif aaa a22 x28.length then
 let x29:=x28.getD a22.toNat .bad
 (bif a19 then F147 uu ((x29.fld 1).asStr) else some false).bind fun y31=>
 let x32:=bif a19 then y31 else false
 (bif x32 then F148 uu (x29.fld 4) else some false).bind fun y34=>
 let x35:=bif x32 then y34 else false
 let x37:=((x29.fld 5).asStr)==([]:List UInt8)
 (bif bif !x37 then x35 else false then F147 uu ((x29.fld 5).asStr) else some false).bind fun y39=>
 some (.inl ((),(bif x35 then (bif x37 then true else y39) else false),a20,(),(IntKind.wrap .i64 (a22+(1:Int))),a23,a24))
 else none
 else
 some (.inr ((),a19,a20,a23,a24))
def S118_9step (uu:Nat) (x:S118_9x):Option (S118_9x⊕S118_9y):=S118_9 uu x.1 x.2.1 x.2.2.1 x.2.2.2.1 x.2.2.2.2.1 x.2.2.2.2.2.1 x.2.2.2.2.2.2
def S118_4 (uu:Nat) (a6:Unit) (a7:Bool) (a8:Int) (a9:PV):Option ((Unit×Bool×Int×PV)⊕((Unit×Bool×PV))):=
 bif (decide (a8<(((a9.fld 3).asList).length:Int))) then
 let x13:=(a9.fld 3).asList
 bif aaa a8 x13.length then
 let x14:=x13.getD a8.toNat .bad
 (bif a7 then F146 uu ((x14.fld 0).asStr) else some false).bind fun y16=>
 (aaf uu (S118_9step uu) ((),(bif a7 then y16 else false),a8,(),(0:Int),a9,x14)).bind fun y43=>
 some (.inl ((),y43.2.1,(IntKind.wrap .i64 (y43.2.2.1+(1:Int))),y43.2.2.2.1))
 else none
 else
 some (.inr ((),a7,a9))
def S118_4step (uu:Nat) (x:Unit×Bool×Int×PV):Option ((Unit×Bool×Int×PV)⊕((Unit×Bool×PV))):=S118_4 uu x.1 x.2.1 x.2.2.1 x.2.2.2
abbrev S118_18x:=Unit×Bool×Int×Int×PV
abbrev S118_18y:=(Unit×Bool×Int×PV)
def S118_18 (uu:Nat) (a60:Unit) (a61:Bool) (a62:Int) (a63:Int) (a64:PV):Option (S118_18x⊕S118_18y):=
 let x65:=(a64.fld 4).asList
 bif aaa a62 x65.length then
 bif (decide (a63<(((x65.getD a62.toNat .bad).fld 2).asList.length:Int))) then
 let x71:=(a64.fld 4).asList
 bif imp a61 (aaa a62 x71.length) then
 let x74:=((x71.getD a62.toNat .bad).fld 2).asList
 bif imp a61 (aaa a63 x74.length) then
 (bif a61 then F147 uu ((x74.getD a63.toNat .bad).fld 0).asStr else some false).bind fun y78=>
 some (.inl ((),(bif a61 then y78 else false),a62,(IntKind.wrap .i64 (a63+(1:Int))),a64))
 else none
 else none
 else
 some (.inr ((),a61,a62,a64))
 else none
def S118_18step (uu:Nat) (x:S118_18x):Option (S118_18x⊕S118_18y):=S118_18 uu x.1 x.2.1 x.2.2.1 x.2.2.2.1 x.2.2.2.2
def S118_14 (uu:Nat) (a47:Unit) (a48:Bool) (a49:Int) (a50:PV):Option ((Unit×Bool×Int×PV)⊕((Unit×Bool×PV))):=
 bif (decide (a49<(((a50.fld 4).asList).length:Int))) then
 let x54:=(a50.fld 4).asList
 bif imp a48 (aaa a49 x54.length) then
 (bif a48 then F146 uu ((x54.getD a49.toNat .bad).fld 0).asStr else some false).bind fun y58=>
 (aaf uu (S118_18step uu) ((),(bif a48 then y58 else false),a49,(0:Int),a50)).bind fun y81=>
 some (.inl ((),y81.2.1,(IntKind.wrap .i64 (y81.2.2.1+(1:Int))),y81.2.2.2))
 else none
 else
 some (.inr ((),a48,a50))
def S118_14step (uu:Nat) (x:Unit×Bool×Int×PV):Option ((Unit×Bool×Int×PV)⊕((Unit×Bool×PV))):=S118_14 uu x.1 x.2.1 x.2.2.1 x.2.2.2
abbrev S118_26x:=Unit×Bool×Int×Int×PV
abbrev S118_26y:=(Unit×Bool×Int×PV)
def S118_26 (uu:Nat) (a98:Unit) (a99:Bool) (a100:Int) (a101:Int) (a102:PV):Option (S118_26x⊕S118_26y):=
 let x103:=(a102.fld 5).asList
 bif aaa a100 x103.length then
 bif (decide (a101<(((x103.getD a100.toNat .bad).fld 1).asList.length:Int))) then
 let x109:=(a102.fld 5).asList
 bif aaa a100 x109.length then
 let x112:=((x109.getD a100.toNat .bad).fld 1).asList
 bif aaa a101 x112.length then
 let x113:=x112.getD a101.toNat .bad
 (bif a99 then F147 uu ((x113.fld 0).asStr) else some false).bind fun y115=>
 let x116:=bif a99 then y115 else false
 (bif x116 then F149 uu ((x113.fld 1).asStr) else some false).bind fun y118=>
 let x122:=bif (bif x116 then y118 else false) then (!(((x113.fld 1).asStr)==([115,116,114,101,97,109]:List UInt8))) else false
 (bif x122 then F149 uu ((x113.fld 2).asStr) else some false).bind fun y124=>
 some (.inl ((),(bif (bif x122 then y124 else false) then (!(((x113.fld 2).asStr)==([115,116,114,101,97,109]:List UInt8))) else false),a100,(IntKind.wrap .i64 (a101+(1:Int))),a102))
 else none
 else none
 else
 some (.inr ((),a99,a100,a102))
 else none
def S118_26step (uu:Nat) (x:S118_26x):Option (S118_26x⊕S118_26y):=S118_26 uu x.1 x.2.1 x.2.2.1 x.2.2.2.1 x.2.2.2.2
def S118_22 (uu:Nat) (a85:Unit) (a86:Bool) (a87:Int) (a88:PV):Option ((Unit×Bool×Int×PV)⊕((Bool×PV))):=
 bif (decide (a87<(((a88.fld 5).asList).length:Int))) then
 let x92:=(a88.fld 5).asList
 bif imp a86 (aaa a87 x92.length) then
 (bif a86 then F146 uu ((x92.getD a87.toNat .bad).fld 0).asStr else some false).bind fun y96=>
 (aaf uu (S118_26step uu) ((),(bif a86 then y96 else false),a87,(0:Int),a88)).bind fun y130=>
 some (.inl ((),y130.2.1,(IntKind.wrap .i64 (y130.2.2.1+(1:Int))),y130.2.2.2))
 else none
 else
 some (.inr (a86,a88))
def S118_22step (uu:Nat) (x:Unit×Bool×Int×PV):Option ((Unit×Bool×Int×PV)⊕((Bool×PV))):=S118_22 uu x.1 x.2.1 x.2.2.1 x.2.2.2
def F118 (uu:Nat) (a0:PV):Option (Bool):=
 let x2:=((a0.fld 1).asStr)==([]:List UInt8)
 (bif !x2 then F146 uu ((a0.fld 1).asStr) else some false).bind fun y4=>
 (aaf uu (S118_4step uu) ((),(bif x2 then true else y4),(0:Int),a0)).bind fun y46=>
 (aaf uu (S118_14step uu) ((),y46.2.1,(0:Int),y46.2.2)).bind fun y84=>
 (aaf uu (S118_22step uu) ((),y84.2.1,(0:Int),y84.2.2)).bind fun y133=>
 some y133.1
def S118_9l (uu:Nat):LoopE:=⟨9,⟨[1,3,4,5,6],bx32,(.con (.ref 0 [] 124))::.bool::(.int .i64)::(.con (.ref 1 [] 73))::sv48⟩,[(.exit 2,⟨[1,3,4],bx32,(.con (.ref 0 [] 124))::.bool::sv48⟩)],S118_9step uu⟩
def S118_4l (uu:Nat):LoopE:=⟨4,⟨[1,3,4],bx33,sv49⟩,[(.exit 0,⟨[1,3],bx33,sv50⟩)],S118_4step uu⟩
def S118_18l (uu:Nat):LoopE:=⟨18,⟨[1,3,8,9],bx33,sv51⟩,[(.exit 6,⟨[1,3,8],bx33,sv49⟩)],S118_18step uu⟩
def S118_14l (uu:Nat):LoopE:=⟨14,⟨[1,3,8],bx33,sv49⟩,[(.exit 4,⟨[1,3],bx33,sv50⟩)],S118_14step uu⟩
def S118_26l (uu:Nat):LoopE:=⟨26,⟨[1,3,10,11],bx33,sv51⟩,[(.exit 10,⟨[1,3,10],bx33,sv49⟩)],S118_26step uu⟩
def S118_22l (uu:Nat):LoopE:=⟨22,⟨[1,3,10],bx33,sv49⟩,[(.exit 8,⟨[3],bx33,sv52⟩)],S118_22step uu⟩
def F118C (uu:Nat):Cfg:=cfg Tryz.prog 178 0 [F146c uu,F147c uu,F148c uu,F149c uu] [S118_9l uu,S118_4l uu,S118_18l uu,S118_14l uu,S118_26l uu,S118_22l uu] uu
def F118c (uu:Nat):CallE:=⟨118,⟨1,[],[(.data 124)]⟩,⟨1,[],[.bool]⟩,fun x=>F118 uu x,false⟩
theorem F118k (uu:Nat):aai (F118C uu):=aac (qc (F146ok uu)<|qc (F147ok uu)<|qc (F148ok uu)<|qc (F149ok uu)<|q0) (p0)
theorem S118_9ok (uu:Nat):LoopOk (F118C uu) (lp (lp (aag Tryz.f118) 0) 0):=okL (F118k uu) uu (S118_9l uu) L0
theorem S118_4ok (uu:Nat):LoopOk (F118C uu) (lp (aag Tryz.f118) 0):=okL (F118k uu) uu (S118_4l uu) (L1 (S118_9ok uu))
theorem S118_18ok (uu:Nat):LoopOk (F118C uu) (lp (lp (aag Tryz.f118) 1) 0):=okL (F118k uu) uu (S118_18l uu) L0
theorem S118_14ok (uu:Nat):LoopOk (F118C uu) (lp (aag Tryz.f118) 1):=okL (F118k uu) uu (S118_14l uu) (L1 (S118_18ok uu))
theorem S118_26ok (uu:Nat):LoopOk (F118C uu) (lp (lp (aag Tryz.f118) 2) 0):=okL (F118k uu) uu (S118_26l uu) L0
theorem S118_22ok (uu:Nat):LoopOk (F118C uu) (lp (aag Tryz.f118) 2):=okL (F118k uu) uu (S118_22l uu) (L1 (S118_26ok uu))
theorem F118ok (uu:Nat):(F118c uu).Ok Tryz.prog:=okE Tryz.f118 (F118k uu) (L3 (S118_4ok uu) (S118_14ok uu) (S118_22ok uu))
def S150_6 (uu:Nat) (a5:List PV) (a6:Int) (a7:Int):Option (((List PV)×Int×Int)⊕((Bool)⊕((List PV)×Int))):=
 bif (decide (a7<a6)) then
 bif aaa a6 a5.length then
 let x12:=!(((a5.getD a6.toNat .bad).fld 5).asStr==([]:List UInt8))
 bif imp x12 (aaa a6 a5.length) then
 bif imp x12 (aaa a7 a5.length) then
 let x20:=bif x12 then (((a5.getD a6.toNat .bad).fld 5).asStr==((a5.getD a7.toNat .bad).fld 5).asStr) else false
 let x21:=IntKind.wrap .i64 (a6-(1:Int))
 bif imp x20 (aaa x21 a5.length) then
 bif imp x20 (aaa a6 a5.length) then
 bif (bif x20 then (!(((a5.getD x21.toNat .bad).fld 5).asStr==((a5.getD a6.toNat .bad).fld 5).asStr)) else false) then
 some (.inr (.inl false))
 else
 some (.inl (a5,a6,(IntKind.wrap .i64 (a7+(1:Int)))))
 else none
 else none
 else none
 else none
 else none
 else
 some (.inr (.inr (a5,a6)))
def S150_6step (uu:Nat) (x:(List PV)×Int×Int):Option (((List PV)×Int×Int)⊕((Bool)⊕((List PV)×Int))):=S150_6 uu x.1 x.2.1 x.2.2
def S150_3 (uu:Nat) (a1:List PV) (a2:Int):Option (((List PV)×Int)⊕((Bool)⊕(Unit))):=
 bif (decide (a2<(a1.length:Int))) then
 (aaf uu (S150_6step uu) (a1,a2,(0:Int))).bind fun z=>sumE (fun y31=>
 some (.inr (.inl y31))
 ) (fun y32=>
 some (.inl (y32.1,(IntKind.wrap .i64 (y32.2+(1:Int)))))
 ) z
 else
 some (.inr (.inr ()))
def S150_3step (uu:Nat) (x:(List PV)×Int):Option (((List PV)×Int)⊕((Bool)⊕(Unit))):=S150_3 uu x.1 x.2
def F150 (uu:Nat) (a0:List PV):Option (Bool):=
 (aaf uu (S150_3step uu) (a0,(0:Int))).bind fun z=>sumE (fun y35=>
 some y35
 ) (fun y36=>
 some true
 ) z
def S150_6l (uu:Nat):LoopE:=⟨6,⟨[0,3,4],[],(.slice 68)::sv15⟩,[(.ret,⟨[2],[],[.bool]⟩),(.exit 2,⟨[0,3],[],[(.slice 68),(.int .i64)]⟩)],S150_6step uu⟩
def S150_3l (uu:Nat):LoopE:=⟨3,⟨[0,3],[],[(.slice 68),(.int .i64)]⟩,[(.ret,⟨[2],[],[.bool]⟩),(.exit 0,⟨[],[],[]⟩)],S150_3step uu⟩
def F150C (uu:Nat):Cfg:=cfg Tryz.prog 49 0 [] [S150_6l uu,S150_3l uu] uu
def F150c (uu:Nat):CallE:=⟨150,⟨1,[],[(.slice 68)]⟩,⟨1,[],[.bool]⟩,fun x=>F150 uu x,false⟩
theorem F150k (uu:Nat):aai (F150C uu):=aac (q0) (p0)
theorem S150_6ok (uu:Nat):LoopOk (F150C uu) (lp (lp (aag Tryz.f150) 0) 0):=okL (F150k uu) uu (S150_6l uu) L0
theorem S150_3ok (uu:Nat):LoopOk (F150C uu) (lp (aag Tryz.f150) 0):=okL (F150k uu) uu (S150_3l uu) (L1 (S150_6ok uu))
theorem F150ok (uu:Nat):(F150c uu).Ok Tryz.prog:=okE Tryz.f150 (F150k uu) (L1 (S150_3ok uu))
def S151_3 (uu:Nat) (a1:List PV) (a2:Int) (a3:Int):Option (((List PV)×Int×Int)⊕((Bool)⊕(Unit))):=
 bif (decide (a3<(a1.length:Int))) then
 bif aaa a3 a1.length then
 let x9:=decide (((a1.getD a3.toNat .bad).fld 0).asInt<(0:Int))
 bif imp (!x9) (aaa a3 a1.length) then
 let x14:=bif x9 then true else (decide (((a1.getD a3.toNat .bad).fld 0).asInt>a2))
 bif imp (!x14) (aaa a3 a1.length) then
 let x19:=bif x14 then true else (decide (((a1.getD a3.toNat .bad).fld 1).asInt<(0:Int)))
 bif imp (!x19) (aaa a3 a1.length) then
 bif (bif x19 then true else (decide (((a1.getD a3.toNat .bad).fld 1).asInt>a2))) then
 some (.inr (.inl false))
 else
 some (.inl (a1,a2,(IntKind.wrap .i64 (a3+(1:Int)))))
 else none
 else none
 else none
 else none
 else
 some (.inr (.inr ()))
def S151_3step (uu:Nat) (x:(List PV)×Int×Int):Option (((List PV)×Int×Int)⊕((Bool)⊕(Unit))):=S151_3 uu x.1 x.2.1 x.2.2
def F151 (uu:Nat) (a0:List PV) (a1:Int):Option (Bool):=
 (aaf uu (S151_3step uu) (a0,a1,(0:Int))).bind fun z=>sumE (fun y26=>
 some y26
 ) (fun y27=>
 some true
 ) z
def S151_3l (uu:Nat):LoopE:=⟨3,⟨[0,1,5],[],(.slice 219)::sv15⟩,[(.ret,⟨[4],[],[.bool]⟩),(.exit 0,⟨[],[],[]⟩)],S151_3step uu⟩
def F151C (uu:Nat):Cfg:=cfg Tryz.prog 44 0 [] [S151_3l uu] uu
def F151c (uu:Nat):CallE:=⟨151,⟨2,[],sv33⟩,⟨1,[],[.bool]⟩,fun x=>F151 uu x.1 x.2,false⟩
theorem F151k (uu:Nat):aai (F151C uu):=aac (q0) (p0)
theorem S151_3ok (uu:Nat):LoopOk (F151C uu) (lp (aag Tryz.f151) 0):=okL (F151k uu) uu (S151_3l uu) L0
theorem F151ok (uu:Nat):(F151c uu).Ok Tryz.prog:=okE Tryz.f151 (F151k uu) (L1 (S151_3ok uu))
def F170 (uu:Nat) (a0:PV):Option (Bool):=
 bif (((a0.fld 2).asInt) != (5:Int)) then
 some (((a0.fld 3).asInt)==(0:Int))
 else
 some (bif (bif (decide (((a0.fld 3).asInt)≥(1:Int))) then (decide (((a0.fld 3).asInt)<=(5:Int))) else false) then true else (((a0.fld 3).asInt)==(7:Int)))
def F170c (uu:Nat):CallE:=⟨170,⟨1,[],[(.data 68)]⟩,⟨1,[],[.bool]⟩,fun x=>F170 uu x,false⟩
theorem F170ok (uu:Nat):(F170c uu).Ok Tryz.prog:=okJ Tryz.f170 22 0 uu [] [] false (q0) (p0) L0
def F178 (uu:Nat) (a0:PV) (a1:PV):Option (Bool):=
 some (bif (bif (bif (bif (bif (bif (((a0.fld 0).asInt)==((a1.fld 0).asInt)) then (((a0.fld 1).asInt)==((a1.fld 1).asInt)) else false) then (((a0.fld 2).asStr)==((a1.fld 2).asStr)) else false) then ((((a0.fld 3).asList).length:Int)==(((a1.fld 3).asList).length:Int)) else false) then ((((a0.fld 4).asList).length:Int)==(((a1.fld 4).asList).length:Int)) else false) then ((((a0.fld 5).asList).length:Int)==(((a1.fld 5).asList).length:Int)) else false) then ((((a0.fld 6).asList).length:Int)==(((a1.fld 6).asList).length:Int)) else false)
def F178c (uu:Nat):CallE:=⟨178,⟨2,[],sv35⟩,⟨1,[],[.bool]⟩,fun x=>F178 uu x.1 x.2,false⟩
theorem F178ok (uu:Nat):(F178c uu).Ok Tryz.prog:=okJ Tryz.f178 60 0 uu [] [] false (q0) (p0) L0
def F179 (uu:Nat) (a0:PV):Option (Bool):=
 let x2:=((a0.fld 0).asInt)==(9:Int)
 (bif x2 then F147 uu ((a0.fld 2).asStr) else some false).bind fun y4=>
 let x5:=bif x2 then y4 else false
 (bif x5 then F178 uu a0 (PV.agg [(PV.int ((a0.fld 0).asInt)),(PV.int (0:Int)),(PV.str ((a0.fld 2).asStr)),(PV.slice []),(PV.slice []),(PV.slice []),(PV.slice [])]) else some false).bind fun y8=>
 some (bif x5 then y8 else false)
def F179c (uu:Nat):CallE:=⟨179,⟨1,[],[(.data 63)]⟩,⟨1,[],[.bool]⟩,fun x=>F179 uu x,false⟩
theorem F179ok (uu:Nat):(F179c uu).Ok Tryz.prog:=okJ Tryz.f179 20 0 uu _ [] false (qc (F147ok uu)<|qc (F178ok uu)<|q0) (p0) L0
def F171 (uu:Nat) (a0:PV):Option (Bool):=
 bif (!((a0.fld 6).asBool)) then
 (F178 uu (a0.fld 7) (PV.agg [(PV.int (0:Int)),(PV.int (0:Int)),(PV.str ([]:List UInt8)),(PV.slice []),(PV.slice []),(PV.slice []),(PV.slice [])])).bind fun y4=>
 some y4
 else
 bif (((a0.fld 2).asInt)==(5:Int)) then
 some false
 else
 bif ((((a0.fld 4).fld 0).asInt)==(0:Int)) then
 (F179 uu (a0.fld 7)).bind fun y10=>
 some y10
 else
 (F141 uu (((a0.fld 4).fld 0).asInt) (a0.fld 7)).bind fun y13=>
 (bif y13 then F142 uu (a0.fld 7) else some PV.bad).bind fun y16=>
 (bif y13 then F178 uu (a0.fld 7) y16 else some false).bind fun y17=>
 some (bif y13 then y17 else false)
def F171c (uu:Nat):CallE:=⟨171,⟨1,[],[(.data 68)]⟩,⟨1,[],[.bool]⟩,fun x=>F171 uu x,false⟩
theorem F171ok (uu:Nat):(F171c uu).Ok Tryz.prog:=okJ Tryz.f171 34 0 uu _ [] false (qc (F178ok uu)<|qc (F179ok uu)<|qc (F141ok uu)<|qc (F142ok uu)<|q0) (p0) L0
def F152 (uu:Nat) (a0:PV):Option (Bool):=
 bif (bif (bif (bif (bif (bif (decide (((a0.fld 0).asInt)<(0:Int))) then true else (decide (((a0.fld 0).asInt)>(65535:Int)))) then true else (decide (((a0.fld 2).asInt)<(1:Int)))) then true else (decide (((a0.fld 2).asInt)>(5:Int)))) then true else (decide ((((a0.fld 4).fld 0).asInt)<(0:Int)))) then true else (decide ((((a0.fld 4).fld 0).asInt)>(8:Int)))) then
 some false
 else
 (F170 uu a0).bind fun y18=>
 (bif y18 then F171 uu a0 else some false).bind fun y19=>
 some (bif (bif y18 then y19 else false) then (bif (((a0.fld 5).asStr)==([]:List UInt8)) then true else (bif (((a0.fld 2).asInt)==(2:Int)) then (!((a0.fld 6).asBool)) else false)) else false)
def F152c (uu:Nat):CallE:=⟨152,⟨1,[],[(.data 68)]⟩,⟨1,[],[.bool]⟩,fun x=>F152 uu x,false⟩
theorem F152ok (uu:Nat):(F152c uu).Ok Tryz.prog:=okJ Tryz.f152 54 0 uu _ [] false (qc (F170ok uu)<|qc (F171ok uu)<|q0) (p0) L0
abbrev S119_9x:=Unit×Bool×Int×Unit×Int×PV×PV
abbrev S119_9y:=(Unit×Bool×Int×PV×PV)
def S119_9 (uu:Nat) (a16:Unit) (a17:Bool) (a18:Int) (a19:Unit) (a20:Int) (a21:PV) (a22:PV):Option (S119_9x⊕S119_9y):=
 bif (decide (a20<(((a22.fld 1).asList).length:Int))) then
 let x26:=(a22.fld 1).asList
 bif imp a17 (aaa a20 x26.length) then
 (bif a17 then F152 uu (x26.getD a20.toNat .bad) else some false).bind fun y28=>
 some (.inl ((),(bif a17 then y28 else false),a18,(),(IntKind.wrap .i64 (a20+(1:Int))),a21,a22))
 else none
 else
 some (.inr ((),a17,a18,a21,a22))
def S119_9step (uu:Nat) (x:S119_9x):Option (S119_9x⊕S119_9y):=S119_9 uu x.1 x.2.1 x.2.2.1 x.2.2.2.1 x.2.2.2.2.1 x.2.2.2.2.2.1 x.2.2.2.2.2.2
def S119_4 (uu:Nat) (a1:Unit) (a2:Bool) (a3:Int) (a4:PV):Option ((Unit×Bool×Int×PV)⊕((Unit×Bool×PV))):=
 bif (decide (a3<(((a4.fld 3).asList).length:Int))) then
 let x8:=(a4.fld 3).asList
 bif aaa a3 x8.length then
 let x9:=x8.getD a3.toNat .bad
 (bif a2 then F150 uu ((x9.fld 1).asList) else some false).bind fun y11=>
 let x12:=bif a2 then y11 else false
 (bif x12 then F151 uu ((x9.fld 2).asList) (65535:Int) else some false).bind fun y14=>
 (aaf uu (S119_9step uu) ((),(bif x12 then y14 else false),a3,(),(0:Int),a4,x9)).bind fun y31=>
 some (.inl ((),y31.2.1,(IntKind.wrap .i64 (y31.2.2.1+(1:Int))),y31.2.2.2.1))
 else none
 else
 some (.inr ((),a2,a4))
def S119_4step (uu:Nat) (x:Unit×Bool×Int×PV):Option ((Unit×Bool×Int×PV)⊕((Unit×Bool×PV))):=S119_4 uu x.1 x.2.1 x.2.2.1 x.2.2.2
abbrev S119_17x:=Unit×Bool×Int×Int×PV
abbrev S119_17y:=(Unit×Bool×Int×PV)
def S119_17 (uu:Nat) (a48:Unit) (a49:Bool) (a50:Int) (a51:Int) (a52:PV):Option (S119_17x⊕S119_17y):=
 let x53:=(a52.fld 4).asList
 bif aaa a50 x53.length then
 bif (decide (a51<(((x53.getD a50.toNat .bad).fld 2).asList.length:Int))) then
 let x59:=(a52.fld 4).asList
 bif aaa a50 x59.length then
 let x62:=((x59.getD a50.toNat .bad).fld 2).asList
 bif aaa a51 x62.length then
 let x65:=((x62.getD a51.toNat .bad).fld 1).asInt
 some (.inl ((),(bif (bif a49 then (decide (x65≥(0:Int))) else false) then (decide (x65<=(2147483647:Int))) else false),a50,(IntKind.wrap .i64 (a51+(1:Int))),a52))
 else none
 else none
 else
 some (.inr ((),a49,a50,a52))
 else none
def S119_17step (uu:Nat) (x:S119_17x):Option (S119_17x⊕S119_17y):=S119_17 uu x.1 x.2.1 x.2.2.1 x.2.2.2.1 x.2.2.2.2
def S119_13 (uu:Nat) (a35:Unit) (a36:Bool) (a37:Int) (a38:PV):Option ((Unit×Bool×Int×PV)⊕((Unit×Bool×PV))):=
 bif (decide (a37<(((a38.fld 4).asList).length:Int))) then
 let x42:=(a38.fld 4).asList
 bif imp a36 (aaa a37 x42.length) then
 (bif a36 then F151 uu ((x42.getD a37.toNat .bad).fld 3).asList (2147483647:Int) else some false).bind fun y46=>
 (aaf uu (S119_17step uu) ((),(bif a36 then y46 else false),a37,(0:Int),a38)).bind fun y71=>
 some (.inl ((),y71.2.1,(IntKind.wrap .i64 (y71.2.2.1+(1:Int))),y71.2.2.2))
 else none
 else
 some (.inr ((),a36,a38))
def S119_13step (uu:Nat) (x:Unit×Bool×Int×PV):Option ((Unit×Bool×Int×PV)⊕((Unit×Bool×PV))):=S119_13 uu x.1 x.2.1 x.2.2.1 x.2.2.2
abbrev S119_25x:=Unit×Bool×Int×Int×PV
abbrev S119_25y:=(Unit×Bool×Int×PV)
def S119_25 (uu:Nat) (a82:Unit) (a83:Bool) (a84:Int) (a85:Int) (a86:PV):Option (S119_25x⊕S119_25y):=
 let x87:=(a86.fld 5).asList
 bif aaa a84 x87.length then
 bif (decide (a85<(((x87.getD a84.toNat .bad).fld 1).asList.length:Int))) then
 let x93:=(a86.fld 5).asList
 bif aaa a84 x93.length then
 let x96:=((x93.getD a84.toNat .bad).fld 1).asList
 bif aaa a85 x96.length then
 let x99:=((x96.getD a85.toNat .bad).fld 3).asInt
 some (.inl ((),(bif (bif a83 then (decide (x99≥(1:Int))) else false) then (decide (x99<=(4:Int))) else false),a84,(IntKind.wrap .i64 (a85+(1:Int))),a86))
 else none
 else none
 else
 some (.inr ((),a83,a84,a86))
 else none
def S119_25step (uu:Nat) (x:S119_25x):Option (S119_25x⊕S119_25y):=S119_25 uu x.1 x.2.1 x.2.2.1 x.2.2.2.1 x.2.2.2.2
def S119_22 (uu:Nat) (a75:Unit) (a76:Bool) (a77:Int) (a78:PV):Option ((Unit×Bool×Int×PV)⊕((Bool×PV))):=
 bif (decide (a77<(((a78.fld 5).asList).length:Int))) then
 (aaf uu (S119_25step uu) ((),a76,a77,(0:Int),a78)).bind fun y105=>
 some (.inl ((),y105.2.1,(IntKind.wrap .i64 (y105.2.2.1+(1:Int))),y105.2.2.2))
 else
 some (.inr (a76,a78))
def S119_22step (uu:Nat) (x:Unit×Bool×Int×PV):Option ((Unit×Bool×Int×PV)⊕((Bool×PV))):=S119_22 uu x.1 x.2.1 x.2.2.1 x.2.2.2
def F119 (uu:Nat) (a0:PV):Option (Bool):=
 (aaf uu (S119_4step uu) ((),true,(0:Int),a0)).bind fun y34=>
 (aaf uu (S119_13step uu) ((),y34.2.1,(0:Int),y34.2.2)).bind fun y74=>
 (aaf uu (S119_22step uu) ((),y74.2.1,(0:Int),y74.2.2)).bind fun y108=>
 some y108.1
def S119_9l (uu:Nat):LoopE:=⟨9,⟨[1,3,4,5,6],bx32,(.con (.ref 0 [] 124))::.bool::(.int .i64)::(.con (.ref 1 [] 73))::sv48⟩,[(.exit 2,⟨[1,3,4],bx32,(.con (.ref 0 [] 124))::.bool::sv48⟩)],S119_9step uu⟩
def S119_4l (uu:Nat):LoopE:=⟨4,⟨[1,3,4],bx33,sv49⟩,[(.exit 0,⟨[1,3],bx33,sv50⟩)],S119_4step uu⟩
def S119_17l (uu:Nat):LoopE:=⟨17,⟨[1,3,7,8],bx33,sv51⟩,[(.exit 6,⟨[1,3,7],bx33,sv49⟩)],S119_17step uu⟩
def S119_13l (uu:Nat):LoopE:=⟨13,⟨[1,3,7],bx33,sv49⟩,[(.exit 4,⟨[1,3],bx33,sv50⟩)],S119_13step uu⟩
def S119_25l (uu:Nat):LoopE:=⟨25,⟨[1,3,10,11],bx33,sv51⟩,[(.exit 10,⟨[1,3,10],bx33,sv49⟩)],S119_25step uu⟩
def S119_22l (uu:Nat):LoopE:=⟨22,⟨[1,3,10],bx33,sv49⟩,[(.exit 8,⟨[3],bx33,sv52⟩)],S119_22step uu⟩
def F119C (uu:Nat):Cfg:=cfg Tryz.prog 137 0 [F150c uu,F151c uu,F152c uu] [S119_9l uu,S119_4l uu,S119_17l uu,S119_13l uu,S119_25l uu,S119_22l uu] uu
def F119c (uu:Nat):CallE:=⟨119,⟨1,[],[(.data 124)]⟩,⟨1,[],[.bool]⟩,fun x=>F119 uu x,false⟩
theorem F119k (uu:Nat):aai (F119C uu):=aac (qc (F150ok uu)<|qc (F151ok uu)<|qc (F152ok uu)<|q0) (p0)
theorem S119_9ok (uu:Nat):LoopOk (F119C uu) (lp (lp (aag Tryz.f119) 0) 0):=okL (F119k uu) uu (S119_9l uu) L0
theorem S119_4ok (uu:Nat):LoopOk (F119C uu) (lp (aag Tryz.f119) 0):=okL (F119k uu) uu (S119_4l uu) (L1 (S119_9ok uu))
theorem S119_17ok (uu:Nat):LoopOk (F119C uu) (lp (lp (aag Tryz.f119) 1) 0):=okL (F119k uu) uu (S119_17l uu) L0
theorem S119_13ok (uu:Nat):LoopOk (F119C uu) (lp (aag Tryz.f119) 1):=okL (F119k uu) uu (S119_13l uu) (L1 (S119_17ok uu))
theorem S119_25ok (uu:Nat):LoopOk (F119C uu) (lp (lp (aag Tryz.f119) 2) 0):=okL (F119k uu) uu (S119_25l uu) L0
theorem S119_22ok (uu:Nat):LoopOk (F119C uu) (lp (aag Tryz.f119) 2):=okL (F119k uu) uu (S119_22l uu) (L1 (S119_25ok uu))
theorem F119ok (uu:Nat):(F119c uu).Ok Tryz.prog:=okE Tryz.f119 (F119k uu) (L3 (S119_4ok uu) (S119_13ok uu) (S119_22ok uu))
def S120_3 (uu:Nat) (a1:List PV) (a2:Int):Option (((List PV)×Int)⊕((Bool)⊕(Unit))):=
 bif (decide (a2<(a1.length:Int))) then
 bif aaa a2 a1.length then
 (F112 uu (a1.getD a2.toNat .bad).asStr).bind fun y7=>
 bif (!y7) then
 some (.inr (.inl false))
 else
 some (.inl (a1,(IntKind.wrap .i64 (a2+(1:Int)))))
 else none
 else
 some (.inr (.inr ()))
def S120_3step (uu:Nat) (x:(List PV)×Int):Option (((List PV)×Int)⊕((Bool)⊕(Unit))):=S120_3 uu x.1 x.2
def F120 (uu:Nat) (a0:List PV):Option (Bool):=
 (aaf uu (S120_3step uu) (a0,(0:Int))).bind fun z=>sumE (fun y10=>
 some y10
 ) (fun y11=>
 some true
 ) z
def S120_3l (uu:Nat):LoopE:=⟨3,⟨[0,3],[],sv27⟩,[(.ret,⟨[2],[],[.bool]⟩),(.exit 0,⟨[],[],[]⟩)],S120_3step uu⟩
def F120C (uu:Nat):Cfg:=cfg Tryz.prog 16 0 [F112c uu] [S120_3l uu] uu
def F120c (uu:Nat):CallE:=⟨120,⟨1,[],[(.slice 9)]⟩,⟨1,[],[.bool]⟩,fun x=>F120 uu x,false⟩
theorem F120k (uu:Nat):aai (F120C uu):=aac (qc (F112ok uu)<|q0) (p0)
theorem S120_3ok (uu:Nat):LoopOk (F120C uu) (lp (aag Tryz.f120) 0):=okL (F120k uu) uu (S120_3l uu) L0
theorem F120ok (uu:Nat):(F120c uu).Ok Tryz.prog:=okE Tryz.f120 (F120k uu) (L1 (S120_3ok uu))
def F153 (uu:Nat) (a0:Int) (a1:Int):Option (Int):=
 bif (a0 != (0:Int)) then
 some a0
 else
 some a1
def F153c (uu:Nat):CallE:=⟨153,⟨2,[],sv15⟩,⟨1,[],[(.int .i64)]⟩,fun x=>F153 uu x.1 x.2,0⟩
theorem F153ok (uu:Nat):(F153c uu).Ok Tryz.prog:=okJ Tryz.f153 9 0 uu [] [] false (q0) (p0) L0
abbrev S121_8x:=Unit×Int×Int×Int×PV
abbrev S121_8y:=(Unit×Int×Int×PV)
def S121_8 (uu:Nat) (a14:Unit) (a15:Int) (a16:Int) (a17:Int) (a18:PV):Option (S121_8x⊕S121_8y):=
 let x19:=(a18.fld 3).asList
 bif aaa a16 x19.length then
 bif (decide (a17<(((x19.getD a16.toNat .bad).fld 1).asList.length:Int))) then
 let x25:=(a18.fld 3).asList
 bif aaa a16 x25.length then
 let x28:=((x25.getD a16.toNat .bad).fld 1).asList
 bif aaa a17 x28.length then
 (F143 uu ((x28.getD a17.toNat .bad).fld 8).asList (2:Int)).bind fun y32=>
 (F153 uu a15 y32).bind fun y33=>
 some (.inl ((),y33,a16,(IntKind.wrap .i64 (a17+(1:Int))),a18))
 else none
 else none
 else
 some (.inr ((),a15,a16,a18))
 else none
def S121_8step (uu:Nat) (x:S121_8x):Option (S121_8x⊕S121_8y):=S121_8 uu x.1 x.2.1 x.2.2.1 x.2.2.2.1 x.2.2.2.2
def S121_4 (uu:Nat) (a1:Unit) (a2:Int) (a3:Int) (a4:PV):Option ((Unit×Int×Int×PV)⊕((Unit×Int×PV))):=
 bif (decide (a3<(((a4.fld 3).asList).length:Int))) then
 let x8:=(a4.fld 3).asList
 bif aaa a3 x8.length then
 (F143 uu ((x8.getD a3.toNat .bad).fld 4).asList (1:Int)).bind fun y12=>
 (F153 uu a2 y12).bind fun y13=>
 (aaf uu (S121_8step uu) ((),y13,a3,(0:Int),a4)).bind fun y35=>
 some (.inl ((),y35.2.1,(IntKind.wrap .i64 (y35.2.2.1+(1:Int))),y35.2.2.2))
 else none
 else
 some (.inr ((),a2,a4))
def S121_4step (uu:Nat) (x:Unit×Int×Int×PV):Option ((Unit×Int×Int×PV)⊕((Unit×Int×PV))):=S121_4 uu x.1 x.2.1 x.2.2.1 x.2.2.2
abbrev S121_16x:=Unit×Int×Int×Int×PV
abbrev S121_16y:=(Unit×Int×Int×PV)
def S121_16 (uu:Nat) (a52:Unit) (a53:Int) (a54:Int) (a55:Int) (a56:PV):Option (S121_16x⊕S121_16y):=
 let x57:=(a56.fld 4).asList
 bif aaa a54 x57.length then
 bif (decide (a55<(((x57.getD a54.toNat .bad).fld 2).asList.length:Int))) then
 let x63:=(a56.fld 4).asList
 bif aaa a54 x63.length then
 let x66:=((x63.getD a54.toNat .bad).fld 2).asList
 bif aaa a55 x66.length then
 (F143 uu ((x66.getD a55.toNat .bad).fld 2).asList (4:Int)).bind fun y70=>
 (F153 uu a53 y70).bind fun y71=>
 some (.inl ((),y71,a54,(IntKind.wrap .i64 (a55+(1:Int))),a56))
 else none
 else none
 else
 some (.inr ((),a53,a54,a56))
 else none
def S121_16step (uu:Nat) (x:S121_16x):Option (S121_16x⊕S121_16y):=S121_16 uu x.1 x.2.1 x.2.2.1 x.2.2.2.1 x.2.2.2.2
def S121_12 (uu:Nat) (a39:Unit) (a40:Int) (a41:Int) (a42:PV):Option ((Unit×Int×Int×PV)⊕((Unit×Int×PV))):=
 bif (decide (a41<(((a42.fld 4).asList).length:Int))) then
 let x46:=(a42.fld 4).asList
 bif aaa a41 x46.length then
 (F143 uu ((x46.getD a41.toNat .bad).fld 4).asList (3:Int)).bind fun y50=>
 (F153 uu a40 y50).bind fun y51=>
 (aaf uu (S121_16step uu) ((),y51,a41,(0:Int),a42)).bind fun y73=>
 some (.inl ((),y73.2.1,(IntKind.wrap .i64 (y73.2.2.1+(1:Int))),y73.2.2.2))
 else none
 else
 some (.inr ((),a40,a42))
def S121_12step (uu:Nat) (x:Unit×Int×Int×PV):Option ((Unit×Int×Int×PV)⊕((Unit×Int×PV))):=S121_12 uu x.1 x.2.1 x.2.2.1 x.2.2.2
abbrev S121_24x:=Unit×Int×Int×Int×PV
abbrev S121_24y:=(Unit×Int×Int×PV)
def S121_24 (uu:Nat) (a90:Unit) (a91:Int) (a92:Int) (a93:Int) (a94:PV):Option (S121_24x⊕S121_24y):=
 let x95:=(a94.fld 5).asList
 bif aaa a92 x95.length then
 bif (decide (a93<(((x95.getD a92.toNat .bad).fld 1).asList.length:Int))) then
 let x101:=(a94.fld 5).asList
 bif aaa a92 x101.length then
 let x104:=((x101.getD a92.toNat .bad).fld 1).asList
 bif aaa a93 x104.length then
 (F143 uu ((x104.getD a93.toNat .bad).fld 4).asList (6:Int)).bind fun y108=>
 (F153 uu a91 y108).bind fun y109=>
 some (.inl ((),y109,a92,(IntKind.wrap .i64 (a93+(1:Int))),a94))
 else none
 else none
 else
 some (.inr ((),a91,a92,a94))
 else none
def S121_24step (uu:Nat) (x:S121_24x):Option (S121_24x⊕S121_24y):=S121_24 uu x.1 x.2.1 x.2.2.1 x.2.2.2.1 x.2.2.2.2
def S121_20 (uu:Nat) (a77:Unit) (a78:Int) (a79:Int) (a80:PV):Option ((Unit×Int×Int×PV)⊕((Int×PV))):=
 bif (decide (a79<(((a80.fld 5).asList).length:Int))) then
 let x84:=(a80.fld 5).asList
 bif aaa a79 x84.length then
 (F143 uu ((x84.getD a79.toNat .bad).fld 2).asList (5:Int)).bind fun y88=>
 (F153 uu a78 y88).bind fun y89=>
 (aaf uu (S121_24step uu) ((),y89,a79,(0:Int),a80)).bind fun y111=>
 some (.inl ((),y111.2.1,(IntKind.wrap .i64 (y111.2.2.1+(1:Int))),y111.2.2.2))
 else none
 else
 some (.inr (a78,a80))
def S121_20step (uu:Nat) (x:Unit×Int×Int×PV):Option ((Unit×Int×Int×PV)⊕((Int×PV))):=S121_20 uu x.1 x.2.1 x.2.2.1 x.2.2.2
def F121 (uu:Nat) (a0:PV):Option (Int):=
 (aaf uu (S121_4step uu) ((),(0:Int),(0:Int),a0)).bind fun y38=>
 (aaf uu (S121_12step uu) ((),y38.2.1,(0:Int),y38.2.2)).bind fun y76=>
 (aaf uu (S121_20step uu) ((),y76.2.1,(0:Int),y76.2.2)).bind fun y114=>
 some y114.1
def S121_8l (uu:Nat):LoopE:=⟨8,⟨[1,3,4,5],bx33,sv53⟩,[(.exit 2,⟨[1,3,4],bx33,sv54⟩)],S121_8step uu⟩
def S121_4l (uu:Nat):LoopE:=⟨4,⟨[1,3,4],bx33,sv54⟩,[(.exit 0,⟨[1,3],bx33,(.con (.ref 0 [] 124))::sv55⟩)],S121_4step uu⟩
def S121_16l (uu:Nat):LoopE:=⟨16,⟨[1,3,6,7],bx33,sv53⟩,[(.exit 6,⟨[1,3,6],bx33,sv54⟩)],S121_16step uu⟩
def S121_12l (uu:Nat):LoopE:=⟨12,⟨[1,3,6],bx33,sv54⟩,[(.exit 4,⟨[1,3],bx33,(.con (.ref 0 [] 124))::sv55⟩)],S121_12step uu⟩
def S121_24l (uu:Nat):LoopE:=⟨24,⟨[1,3,8,9],bx33,sv53⟩,[(.exit 10,⟨[1,3,8],bx33,sv54⟩)],S121_24step uu⟩
def S121_20l (uu:Nat):LoopE:=⟨20,⟨[1,3,8],bx33,sv54⟩,[(.exit 8,⟨[3],bx33,sv55⟩)],S121_20step uu⟩
def F121C (uu:Nat):Cfg:=cfg Tryz.prog 131 0 [F143c uu,F153c uu] [S121_8l uu,S121_4l uu,S121_16l uu,S121_12l uu,S121_24l uu,S121_20l uu] uu
def F121c (uu:Nat):CallE:=⟨121,⟨1,[],[(.data 124)]⟩,⟨1,[],[(.int .i64)]⟩,fun x=>F121 uu x,0⟩
theorem F121k (uu:Nat):aai (F121C uu):=aac (qc (F143ok uu)<|qc (F153ok uu)<|q0) (p0)
theorem S121_8ok (uu:Nat):LoopOk (F121C uu) (lp (lp (aag Tryz.f121) 0) 0):=okL (F121k uu) uu (S121_8l uu) L0
theorem S121_4ok (uu:Nat):LoopOk (F121C uu) (lp (aag Tryz.f121) 0):=okL (F121k uu) uu (S121_4l uu) (L1 (S121_8ok uu))
theorem S121_16ok (uu:Nat):LoopOk (F121C uu) (lp (lp (aag Tryz.f121) 1) 0):=okL (F121k uu) uu (S121_16l uu) L0
theorem S121_12ok (uu:Nat):LoopOk (F121C uu) (lp (aag Tryz.f121) 1):=okL (F121k uu) uu (S121_12l uu) (L1 (S121_16ok uu))
theorem S121_24ok (uu:Nat):LoopOk (F121C uu) (lp (lp (aag Tryz.f121) 2) 0):=okL (F121k uu) uu (S121_24l uu) L0
theorem S121_20ok (uu:Nat):LoopOk (F121C uu) (lp (aag Tryz.f121) 2):=okL (F121k uu) uu (S121_20l uu) (L1 (S121_24ok uu))
theorem F121ok (uu:Nat):(F121c uu).Ok Tryz.prog:=okE Tryz.f121 (F121k uu) (L3 (S121_4ok uu) (S121_12ok uu) (S121_20ok uu))
def S122_4 (uu:Nat) (a16:Unit) (a17:Bool) (a18:Int) (a19:PV):Option ((Unit×Bool×Int×PV)⊕((Unit×Bool×PV))):=
 bif (decide (a18<(((a19.fld 3).asList).length:Int))) then
 let x23:=(a19.fld 3).asList
 bif imp a17 (aaa a18 x23.length) then
 let x29:=bif a17 then (decide ((((x23.getD a18.toNat .bad).fld 1).asList.length:Int)<=(64:Int))) else false
 let x30:=(a19.fld 3).asList
 bif imp x29 (aaa a18 x30.length) then
 let x36:=bif x29 then (decide ((((x30.getD a18.toNat .bad).fld 2).asList.length:Int)<=(16:Int))) else false
 let x37:=(a19.fld 3).asList
 bif imp x36 (aaa a18 x37.length) then
 some (.inl ((),(bif x36 then (decide ((((x37.getD a18.toNat .bad).fld 3).asList.length:Int)<=(16:Int))) else false),(IntKind.wrap .i64 (a18+(1:Int))),a19))
 else none
 else none
 else none
 else
 some (.inr ((),a17,a19))
def S122_4step (uu:Nat) (x:Unit×Bool×Int×PV):Option ((Unit×Bool×Int×PV)⊕((Unit×Bool×PV))):=S122_4 uu x.1 x.2.1 x.2.2.1 x.2.2.2
def S122_8 (uu:Nat) (a46:Unit) (a47:Bool) (a48:Int) (a49:PV):Option ((Unit×Bool×Int×PV)⊕((Unit×Bool×PV))):=
 bif (decide (a48<(((a49.fld 4).asList).length:Int))) then
 let x53:=(a49.fld 4).asList
 bif imp a47 (aaa a48 x53.length) then
 let x59:=bif a47 then (decide ((((x53.getD a48.toNat .bad).fld 2).asList.length:Int)<=(64:Int))) else false
 let x60:=(a49.fld 4).asList
 bif imp x59 (aaa a48 x60.length) then
 some (.inl ((),(bif x59 then (decide ((((x60.getD a48.toNat .bad).fld 3).asList.length:Int)<=(16:Int))) else false),(IntKind.wrap .i64 (a48+(1:Int))),a49))
 else none
 else none
 else
 some (.inr ((),a47,a49))
def S122_8step (uu:Nat) (x:Unit×Bool×Int×PV):Option ((Unit×Bool×Int×PV)⊕((Unit×Bool×PV))):=S122_8 uu x.1 x.2.1 x.2.2.1 x.2.2.2
def S122_12 (uu:Nat) (a69:Unit) (a70:Bool) (a71:Int) (a72:PV):Option ((Unit×Bool×Int×PV)⊕((Bool×PV))):=
 bif (decide (a71<(((a72.fld 5).asList).length:Int))) then
 let x76:=(a72.fld 5).asList
 bif imp a70 (aaa a71 x76.length) then
 some (.inl ((),(bif a70 then (decide ((((x76.getD a71.toNat .bad).fld 1).asList.length:Int)<=(64:Int))) else false),(IntKind.wrap .i64 (a71+(1:Int))),a72))
 else none
 else
 some (.inr (a70,a72))
def S122_12step (uu:Nat) (x:Unit×Bool×Int×PV):Option ((Unit×Bool×Int×PV)⊕((Bool×PV))):=S122_12 uu x.1 x.2.1 x.2.2.1 x.2.2.2
def F122 (uu:Nat) (a0:PV):Option (Bool):=
 (aaf uu (S122_4step uu) ((),(bif (bif (bif (decide ((((a0.fld 2).asList).length:Int)<=(16:Int))) then (decide ((((a0.fld 3).asList).length:Int)<=(64:Int))) else false) then (decide ((((a0.fld 4).asList).length:Int)<=(64:Int))) else false) then (decide ((((a0.fld 5).asList).length:Int)<=(64:Int))) else false),(0:Int),a0)).bind fun y45=>
 (aaf uu (S122_8step uu) ((),y45.2.1,(0:Int),y45.2.2)).bind fun y68=>
 (aaf uu (S122_12step uu) ((),y68.2.1,(0:Int),y68.2.2)).bind fun y84=>
 some y84.1
def S122_4l (uu:Nat):LoopE:=⟨4,⟨[1,3,4],bx33,sv49⟩,[(.exit 0,⟨[1,3],bx33,sv50⟩)],S122_4step uu⟩
def S122_8l (uu:Nat):LoopE:=⟨8,⟨[1,3,5],bx33,sv49⟩,[(.exit 2,⟨[1,3],bx33,sv50⟩)],S122_8step uu⟩
def S122_12l (uu:Nat):LoopE:=⟨12,⟨[1,3,6],bx33,sv49⟩,[(.exit 4,⟨[3],bx33,sv52⟩)],S122_12step uu⟩
def F122C (uu:Nat):Cfg:=cfg Tryz.prog 114 0 [] [S122_4l uu,S122_8l uu,S122_12l uu] uu
def F122c (uu:Nat):CallE:=⟨122,⟨1,[],[(.data 124)]⟩,⟨1,[],[.bool]⟩,fun x=>F122 uu x,false⟩
theorem F122k (uu:Nat):aai (F122C uu):=aac (q0) (p0)
theorem S122_4ok (uu:Nat):LoopOk (F122C uu) (lp (aag Tryz.f122) 0):=okL (F122k uu) uu (S122_4l uu) L0
theorem S122_8ok (uu:Nat):LoopOk (F122C uu) (lp (aag Tryz.f122) 1):=okL (F122k uu) uu (S122_8l uu) L0
theorem S122_12ok (uu:Nat):LoopOk (F122C uu) (lp (aag Tryz.f122) 2):=okL (F122k uu) uu (S122_12l uu) L0
theorem F122ok (uu:Nat):(F122c uu).Ok Tryz.prog:=okE Tryz.f122 (F122k uu) (L3 (S122_4ok uu) (S122_8ok uu) (S122_12ok uu))
def F155 (uu:Nat) (a0:Int):Option ((List UInt8)):=
 let x1:=IntKind.wrap .u8 (a0.tdiv (16:Int))
 let x3:=IntKind.wrap .u8 ((IntKind.wrap .u8 (a0.tdiv (16:Int)))+(1:Int))
 bif decide (0<=x1/\x1<=x3/\x3<=(([48,49,50,51,52,53,54,55,56,57,97,98,99,100,101,102]:List UInt8).length:Int)) then
 let x4:=(([48,49,50,51,52,53,54,55,56,57,97,98,99,100,101,102]:List UInt8).take x3.toNat).drop x1.toNat
 let x5:=a0.tmod (16:Int)
 let x7:=IntKind.wrap .u8 ((a0.tmod (16:Int))+(1:Int))
 bif decide (0<=x5/\x5<=x7/\x7<=(([48,49,50,51,52,53,54,55,56,57,97,98,99,100,101,102]:List UInt8).length:Int)) then
 let x8:=(([48,49,50,51,52,53,54,55,56,57,97,98,99,100,101,102]:List UInt8).take x7.toNat).drop x5.toNat
 bif decide (x4.length+x8.length<=aad) then
 some (x4++x8)
 else none
 else none
 else none
def F155c (uu:Nat):CallE:=⟨155,⟨1,[],[(.int .u8)]⟩,⟨1,[],[.str]⟩,fun x=>F155 uu x,[]⟩
theorem F155ok (uu:Nat):(F155c uu).Ok Tryz.prog:=okJ Tryz.f155 16 0 uu [] [] false (q0) (p0) L0
abbrev S123_4x:=(List UInt8)×(List UInt8)×Int
abbrev S123_4y:=((List UInt8))
def S123_4 (uu:Nat) (a1:List UInt8) (a2:List UInt8) (a3:Int):Option (S123_4x⊕S123_4y):=
 bif (decide (a3<(a1.length:Int))) then
 (F154 uu a1 a3).bind fun y6=>
 bif aaa a3 a1.length then
 let x7:=((a1.getD a3.toNat 0).toNat:Int)
 bif (x7==(34:Int)) then
 bif decide (a2.length+([92,34]:List UInt8).length<=aad) then
 let x9:=a2++([92,34]:List UInt8)
 bif (y6==(0:Int)) then
 some (.inl (a1,x9,(IntKind.wrap .i64 (a3+(1:Int)))))
 else
 some (.inl (a1,x9,(IntKind.wrap .i64 (a3+y6))))
 else none
 else
 bif (x7==(92:Int)) then
 bif decide (a2.length+([92,92]:List UInt8).length<=aad) then
 let x14:=a2++([92,92]:List UInt8)
 bif (y6==(0:Int)) then
 some (.inl (a1,x14,(IntKind.wrap .i64 (a3+(1:Int)))))
 else
 some (.inl (a1,x14,(IntKind.wrap .i64 (a3+y6))))
 else none
 else
 bif (x7==(10:Int)) then
 bif decide (a2.length+([92,110]:List UInt8).length<=aad) then
 let x19:=a2++([92,110]:List UInt8)
 bif (y6==(0:Int)) then
 some (.inl (a1,x19,(IntKind.wrap .i64 (a3+(1:Int)))))
 else
 some (.inl (a1,x19,(IntKind.wrap .i64 (a3+y6))))
 else none
 else
 bif (x7==(9:Int)) then
 bif decide (a2.length+([92,116]:List UInt8).length<=aad) then
 let x24:=a2++([92,116]:List UInt8)
 bif (y6==(0:Int)) then
 some (.inl (a1,x24,(IntKind.wrap .i64 (a3+(1:Int)))))
 else
 some (.inl (a1,x24,(IntKind.wrap .i64 (a3+y6))))
 else none
 else
 bif (x7==(13:Int)) then
 bif decide (a2.length+([92,114]:List UInt8).length<=aad) then
 let x29:=a2++([92,114]:List UInt8)
 bif (y6==(0:Int)) then
 some (.inl (a1,x29,(IntKind.wrap .i64 (a3+(1:Int)))))
 else
 some (.inl (a1,x29,(IntKind.wrap .i64 (a3+y6))))
 else none
 else
 bif (bif (bif (decide (x7<(32:Int))) then true else (x7==(127:Int))) then true else (y6==(0:Int))) then
 bif decide (a2.length+([92,120]:List UInt8).length<=aad) then
 let x38:=a2++([92,120]:List UInt8)
 (F155 uu x7).bind fun y39=>
 bif decide (x38.length+y39.length<=aad) then
 let x40:=x38++y39
 bif (y6==(0:Int)) then
 some (.inl (a1,x40,(IntKind.wrap .i64 (a3+(1:Int)))))
 else
 some (.inl (a1,x40,(IntKind.wrap .i64 (a3+y6))))
 else none
 else none
 else
 let x44:=IntKind.wrap .i64 (a3+y6)
 bif decide (0<=a3/\a3<=x44/\x44<=(a1.length:Int)) then
 let x45:=(a1.take x44.toNat).drop a3.toNat
 bif decide (a2.length+x45.length<=aad) then
 let x46:=a2++x45
 bif (y6==(0:Int)) then
 some (.inl (a1,x46,(IntKind.wrap .i64 (a3+(1:Int)))))
 else
 some (.inl (a1,x46,(IntKind.wrap .i64 (a3+y6))))
 else none
 else none
 else none
 else
 some (.inr a2)
def S123_4step (uu:Nat) (x:S123_4x):Option (S123_4x⊕S123_4y):=S123_4 uu x.1 x.2.1 x.2.2
def F123 (uu:Nat) (a0:List UInt8):Option ((List UInt8)):=
 (aaf uu (S123_4step uu) (a0,([34]:List UInt8),(0:Int))).bind fun y50=>
 bif decide (y50.length+([34]:List UInt8).length<=aad) then
 some (y50++([34]:List UInt8))
 else none
def S123_4l (uu:Nat):LoopE:=⟨4,⟨[0,3,4],[],sv20⟩,[(.exit 0,⟨[3],[],[.str]⟩)],S123_4step uu⟩
def F123C (uu:Nat):Cfg:=cfg Tryz.prog 73 0 [F154c uu,F155c uu] [S123_4l uu] uu
def F123c (uu:Nat):CallE:=⟨123,⟨1,[],[.str]⟩,⟨1,[],[.str]⟩,fun x=>F123 uu x,[]⟩
theorem F123k (uu:Nat):aai (F123C uu):=aac (qc (F154ok uu)<|qc (F155ok uu)<|q0) (p0)
theorem S123_4ok (uu:Nat):LoopOk (F123C uu) (lp (aag Tryz.f123) 0):=okL (F123k uu) uu (S123_4l uu) L0
theorem F123ok (uu:Nat):(F123c uu).Ok Tryz.prog:=okE Tryz.f123 (F123k uu) (L1 (S123_4ok uu))
def S180_3 (uu:Nat) (a4:Int) (a5:List UInt8):Option ((Int×(List UInt8))⊕(((List UInt8)))):=
 bif (decide (a4≥(10:Int))) then
 let x7:=IntKind.wrap .u64 (a4.tdiv (10:Int))
 let x10:=IntKind.wrap .u8 (IntKind.wrap .u64 ((48:Int)+(x7.tmod (10:Int))))
 bif decide (([(PV.int x10)].map acl).length+a5.length<=aad) then
 some (.inl (x7,([(PV.int x10)].map acl)++a5))
 else none
 else
 some (.inr a5)
def S180_3step (uu:Nat) (x:Int×(List UInt8)):Option ((Int×(List UInt8))⊕(((List UInt8)))):=S180_3 uu x.1 x.2
def F180 (uu:Nat) (a0:Int):Option ((List UInt8)):=
 (aaf uu (S180_3step uu) (a0,[(PV.int (IntKind.wrap .u8 (IntKind.wrap .u64 ((48:Int)+(a0.tmod (10:Int))))))].map acl)).bind fun y11=>
 some y11
def S180_3l (uu:Nat):LoopE:=⟨3,⟨[0,3],[],[(.int .u64),.str]⟩,[(.exit 0,⟨[3],[],[.str]⟩)],S180_3step uu⟩
def F180C (uu:Nat):Cfg:=cfg Tryz.prog 23 0 [] [S180_3l uu] uu
def F180c (uu:Nat):CallE:=⟨180,⟨1,[],[(.int .u64)]⟩,⟨1,[],[.str]⟩,fun x=>F180 uu x,[]⟩
theorem F180k (uu:Nat):aai (F180C uu):=aac (q0) (p0)
theorem S180_3ok (uu:Nat):LoopOk (F180C uu) (lp (aag Tryz.f180) 0):=okL (F180k uu) uu (S180_3l uu) L0
theorem F180ok (uu:Nat):(F180c uu).Ok Tryz.prog:=okE Tryz.f180 (F180k uu) (L1 (S180_3ok uu))
abbrev S182_4x:=(List UInt8)×(List UInt8)×Int
abbrev S182_4y:=((List UInt8))
def S182_4 (uu:Nat) (a1:List UInt8) (a2:List UInt8) (a3:Int):Option (S182_4x⊕S182_4y):=
 bif (decide (a3<(a1.length:Int))) then
 bif aaa a3 a1.length then
 (F155 uu ((a1.getD a3.toNat 0).toNat:Int)).bind fun y7=>
 bif decide (a2.length+y7.length<=aad) then
 some (.inl (a1,(a2++y7),(IntKind.wrap .i64 (a3+(1:Int)))))
 else none
 else none
 else
 some (.inr a2)
def S182_4step (uu:Nat) (x:S182_4x):Option (S182_4x⊕S182_4y):=S182_4 uu x.1 x.2.1 x.2.2
def F182 (uu:Nat) (a0:List UInt8):Option ((List UInt8)):=
 (aaf uu (S182_4step uu) (a0,([]:List UInt8),(0:Int))).bind fun y10=>
 some y10
def S182_4l (uu:Nat):LoopE:=⟨4,⟨[0,3,4],[],sv20⟩,[(.exit 0,⟨[3],[],[.str]⟩)],S182_4step uu⟩
def F182C (uu:Nat):Cfg:=cfg Tryz.prog 18 0 [F155c uu] [S182_4l uu] uu
def F182c (uu:Nat):CallE:=⟨182,⟨1,[],[.str]⟩,⟨1,[],[.str]⟩,fun x=>F182 uu x,[]⟩
theorem F182k (uu:Nat):aai (F182C uu):=aac (qc (F155ok uu)<|q0) (p0)
theorem S182_4ok (uu:Nat):LoopOk (F182C uu) (lp (aag Tryz.f182) 0):=okL (F182k uu) uu (S182_4l uu) L0
theorem F182ok (uu:Nat):(F182c uu).Ok Tryz.prog:=okE Tryz.f182 (F182k uu) (L1 (S182_4ok uu))
def S181_4 (uu:Nat) (a9:Int) (a10:List PV) (a11:Int):Option ((Int×(List PV)×Int)⊕(((List PV)))):=
 bif (decide (a11<(8:Int))) then
 let x14:=IntKind.wrap .u8 (a9.tmod (256:Int))
 bif decide ([(PV.int x14)].length+a10.length<=aao) then
 some (.inl ((IntKind.wrap .u64 (a9.tdiv (256:Int))),[(PV.int x14)]++a10,(IntKind.wrap .i64 (a11+(1:Int)))))
 else none
 else
 some (.inr a10)
def S181_4step (uu:Nat) (x:Int×(List PV)×Int):Option ((Int×(List PV)×Int)⊕(((List PV)))):=S181_4 uu x.1 x.2.1 x.2.2
def F181 (uu:Nat) (a0:Int):Option ((List UInt8)):=
 (aaf uu (S181_4step uu) (a0,[],(0:Int))).bind fun y17=>
 (F182 uu (y17.map acl)).bind fun y19=>
 some y19
def S181_4l (uu:Nat):LoopE:=⟨4,⟨[0,3,4],[],[(.int .u64),(.slice 5),(.int .i64)]⟩,[(.exit 0,⟨[3],[],[(.slice 5)]⟩)],S181_4step uu⟩
def F181C (uu:Nat):Cfg:=cfg Tryz.prog 20 0 [F182c uu] [S181_4l uu] uu
def F181c (uu:Nat):CallE:=⟨181,⟨1,[],[(.int .u64)]⟩,⟨1,[],[.str]⟩,fun x=>F181 uu x,[]⟩
theorem F181k (uu:Nat):aai (F181C uu):=aac (qc (F182ok uu)<|q0) (p0)
theorem S181_4ok (uu:Nat):LoopOk (F181C uu) (lp (aag Tryz.f181) 0):=okL (F181k uu) uu (S181_4l uu) L0
theorem F181ok (uu:Nat):(F181c uu).Ok Tryz.prog:=okE Tryz.f181 (F181k uu) (L1 (S181_4ok uu))
def F177 (uu:Nat) (a0:PV):Option ((List UInt8)):=
 (F141 uu ((a0.fld 0).asInt) a0).bind fun y2=>
 bif (!y2) then
 some ([]:List UInt8)
 else
 let x4:=(a0.fld 0).asInt
 bif (x4==(1:Int)) then
 bif (((a0.fld 1).asInt)==(1:Int)) then
 some ([116,114,117,101]:List UInt8)
 else
 some ([102,97,108,115,101]:List UInt8)
 else
 bif (x4==(2:Int)) then
 bif (decide (((a0.fld 1).asInt)≥(9223372036854775808:Int))) then
 (F180 uu (IntKind.wrap .u64 (0-((a0.fld 1).asInt)))).bind fun y13=>
 bif decide (([45]:List UInt8).length+y13.length<=aad) then
 some (([45]:List UInt8)++y13)
 else none
 else
 (F180 uu ((a0.fld 1).asInt)).bind fun y15=>
 some y15
 else
 bif (x4==(3:Int)) then
 bif (decide (((a0.fld 1).asInt)≥(9223372036854775808:Int))) then
 (F180 uu (IntKind.wrap .u64 (0-((a0.fld 1).asInt)))).bind fun y21=>
 bif decide (([45]:List UInt8).length+y21.length<=aad) then
 some (([45]:List UInt8)++y21)
 else none
 else
 (F180 uu ((a0.fld 1).asInt)).bind fun y23=>
 some y23
 else
 bif (x4==(6:Int)) then
 (F165 uu ((a0.fld 1).asInt)).bind fun y26=>
 bif (y26==(0:Int)) then
 some ([110,97,110]:List UInt8)
 else
 bif (y26==(1:Int)) then
 bif (decide (((a0.fld 1).asInt)≥(9223372036854775808:Int))) then
 some ([45,105,110,102]:List UInt8)
 else
 some ([105,110,102]:List UInt8)
 else
 (F181 uu ((a0.fld 1).asInt)).bind fun y32=>
 bif decide (([48,120]:List UInt8).length+y32.length<=aad) then
 some (([48,120]:List UInt8)++y32)
 else none
 else
 bif (x4==(7:Int)) then
 (F123 uu ((a0.fld 2).asStr)).bind fun y35=>
 some y35
 else
 bif (x4==(8:Int)) then
 (F182 uu ((a0.fld 2).asStr)).bind fun y38=>
 (F123 uu y38).bind fun y39=>
 bif decide (([120]:List UInt8).length+y39.length<=aad) then
 some (([120]:List UInt8)++y39)
 else none
 else
 (F180 uu ((a0.fld 1).asInt)).bind fun y41=>
 some y41
def F177c (uu:Nat):CallE:=⟨177,⟨1,[],[(.data 63)]⟩,⟨1,[],[.str]⟩,fun x=>F177 uu x,[]⟩
theorem F177ok (uu:Nat):(F177c uu).Ok Tryz.prog:=okJ Tryz.f177 60 0 uu _ [] false (qc (F141ok uu)<|qc (F180ok uu)<|qc (F165ok uu)<|qc (F181ok uu)<|qc (F123ok uu)<|qc (F182ok uu)<|q0) (p0) L0
abbrev S174_6x:=(List PV)×(List UInt8)×Int
abbrev S174_6y:=((List UInt8))⊕((List UInt8))
def S174_6 (uu:Nat) (a3:List PV) (a4:List UInt8) (a5:Int):Option (S174_6x⊕S174_6y):=
 bif (decide (a5<(a3.length:Int))) then
 bif aaa a5 a3.length then
 (F168 uu (a3.getD a5.toNat .bad)).bind fun y9=>
 bif (!y9) then
 some (.inr (.inl ([]:List UInt8)))
 else
 bif (decide (a5>(0:Int))) then
 bif decide (a4.length+([44,32]:List UInt8).length<=aad) then
 let x12:=a4++([44,32]:List UInt8)
 bif aaa a5 a3.length then
 let x15:=((a3.getD a5.toNat .bad).fld 0).asStr
 bif decide (x15.length+([32,61,32]:List UInt8).length<=aad) then
 let x16:=x15++([32,61,32]:List UInt8)
 bif aaa a5 a3.length then
 (F177 uu ((a3.getD a5.toNat .bad).fld 1)).bind fun y19=>
 bif decide (x16.length+y19.length<=aad) then
 let x20:=x16++y19
 bif decide (x12.length+x20.length<=aad) then
 some (.inl (a3,(x12++x20),(IntKind.wrap .i64 (a5+(1:Int)))))
 else none
 else none
 else none
 else none
 else none
 else none
 else
 bif aaa a5 a3.length then
 let x25:=((a3.getD a5.toNat .bad).fld 0).asStr
 bif decide (x25.length+([32,61,32]:List UInt8).length<=aad) then
 let x26:=x25++([32,61,32]:List UInt8)
 bif aaa a5 a3.length then
 (F177 uu ((a3.getD a5.toNat .bad).fld 1)).bind fun y29=>
 bif decide (x26.length+y29.length<=aad) then
 let x30:=x26++y29
 bif decide (a4.length+x30.length<=aad) then
 some (.inl (a3,(a4++x30),(IntKind.wrap .i64 (a5+(1:Int)))))
 else none
 else none
 else none
 else none
 else none
 else none
 else
 some (.inr (.inr a4))
def S174_6step (uu:Nat) (x:S174_6x):Option (S174_6x⊕S174_6y):=S174_6 uu x.1 x.2.1 x.2.2
def F174 (uu:Nat) (a0:List PV):Option ((List UInt8)):=
 bif ((a0.length:Int)==(0:Int)) then
 some ([]:List UInt8)
 else
 (aaf uu (S174_6step uu) (a0,([91]:List UInt8),(0:Int))).bind fun z=>sumE (fun y33=>
 some y33
 ) (fun y34=>
 bif decide (y34.length+([93]:List UInt8).length<=aad) then
 some (y34++([93]:List UInt8))
 else none
 ) z
def S174_6l (uu:Nat):LoopE:=⟨6,⟨[0,3,4],[],(.slice 65)::sv19⟩,[(.ret,⟨[2],[],[.str]⟩),(.exit 0,⟨[3],[],[.str]⟩)],S174_6step uu⟩
def F174C (uu:Nat):Cfg:=cfg Tryz.prog 41 0 [F168c uu,F177c uu] [S174_6l uu] uu
def F174c (uu:Nat):CallE:=⟨174,⟨1,[],[(.slice 65)]⟩,⟨1,[],[.str]⟩,fun x=>F174 uu x,[]⟩
theorem F174k (uu:Nat):aai (F174C uu):=aac (qc (F168ok uu)<|qc (F177ok uu)<|q0) (p0)
theorem S174_6ok (uu:Nat):LoopOk (F174C uu) (lp (aag Tryz.f174) 0):=okL (F174k uu) uu (S174_6l uu) L0
theorem F174ok (uu:Nat):(F174c uu).Ok Tryz.prog:=okE Tryz.f174 (F174k uu) (L1 (S174_6ok uu))
def F156 (uu:Nat) (a0:List PV):Option ((List UInt8)):=
 bif ((a0.length:Int)==(0:Int)) then
 some ([]:List UInt8)
 else
 (F174 uu a0).bind fun y3=>
 bif decide (([32]:List UInt8).length+y3.length<=aad) then
 some (([32]:List UInt8)++y3)
 else none
def F156c (uu:Nat):CallE:=⟨156,⟨1,[],[(.slice 65)]⟩,⟨1,[],[.str]⟩,fun x=>F156 uu x,[]⟩
theorem F156ok (uu:Nat):(F156c uu).Ok Tryz.prog:=okJ Tryz.f156 9 0 uu _ [] false (qc (F174ok uu)<|q0) (p0) L0
def F175 (uu:Nat) (a0:PV):Option ((List UInt8)):=
 (F169 uu ((a0.fld 0).asInt)).bind fun y2=>
 bif (bif (!(y2==([]:List UInt8))) then (((a0.fld 1).asStr)==([]:List UInt8)) else false) then
 (F169 uu ((a0.fld 0).asInt)).bind fun y8=>
 some y8
 else
 let x16:=bif (bif (((a0.fld 0).asInt)==(0:Int)) then true else (((a0.fld 0).asInt)==(9:Int))) then true else (((a0.fld 0).asInt)==(10:Int))
 (bif x16 then F149 uu ((a0.fld 1).asStr) else some false).bind fun y18=>
 bif (bif x16 then y18 else false) then
 some ((a0.fld 1).asStr)
 else
 some ([]:List UInt8)
def F175c (uu:Nat):CallE:=⟨175,⟨1,[],[(.data 57)]⟩,⟨1,[],[.str]⟩,fun x=>F175 uu x,[]⟩
theorem F175ok (uu:Nat):(F175c uu).Ok Tryz.prog:=okJ Tryz.f175 37 0 uu _ [] false (qc (F169ok uu)<|qc (F149ok uu)<|q0) (p0) L0
def F160 (uu:Nat) (a0:Int):Option ((List UInt8)):=
 (F177 uu (PV.agg [(PV.int (5:Int)),(PV.int (IntKind.wrap .u64 a0)),(PV.str ([]:List UInt8)),(PV.slice []),(PV.slice []),(PV.slice []),(PV.slice [])])).bind fun y2=>
 some y2
def F160c (uu:Nat):CallE:=⟨160,⟨1,[],[(.int .i64)]⟩,⟨1,[],[.str]⟩,fun x=>F160 uu x,[]⟩
theorem F160ok (uu:Nat):(F160c uu).Ok Tryz.prog:=okJ Tryz.f160 7 0 uu _ [] false (qc (F177ok uu)<|q0) (p0) L0
def F176 (uu:Nat) (a0:PV):Option ((List UInt8)):=
 (F179 uu a0).bind fun y1=>
 bif y1 then
 some ((a0.fld 2).asStr)
 else
 (F141 uu ((a0.fld 0).asInt) a0).bind fun y4=>
 bif (!y4) then
 some ([]:List UInt8)
 else
 bif (bif (((a0.fld 0).asInt)==(6:Int)) then true else (((a0.fld 0).asInt)==(8:Int))) then
 (F177 uu a0).bind fun y11=>
 (F123 uu y11).bind fun y12=>
 some y12
 else
 (F177 uu a0).bind fun y13=>
 some y13
def F176c (uu:Nat):CallE:=⟨176,⟨1,[],[(.data 63)]⟩,⟨1,[],[.str]⟩,fun x=>F176 uu x,[]⟩
theorem F176ok (uu:Nat):(F176c uu).Ok Tryz.prog:=okJ Tryz.f176 28 0 uu _ [] false (qc (F179ok uu)<|qc (F141ok uu)<|qc (F177ok uu)<|qc (F123ok uu)<|q0) (p0) L0
def F157 (uu:Nat) (a0:PV):Option ((List UInt8)):=
 (F175 uu (a0.fld 4)).bind fun y2=>
 bif (((a0.fld 2).asInt)==(5:Int)) then
 (F169 uu ((a0.fld 3).asInt)).bind fun y6=>
 bif decide (([109,97,112,60]:List UInt8).length+y6.length<=aad) then
 bif decide ((([109,97,112,60]:List UInt8)++y6).length+([44,32]:List UInt8).length<=aad) then
 let x7:=(([109,97,112,60]:List UInt8)++y6)++([44,32]:List UInt8)
 bif decide (x7.length+y2.length<=aad) then
 let x8:=x7++y2
 bif decide (x8.length+([62]:List UInt8).length<=aad) then
 let x9:=x8++([62]:List UInt8)
 bif decide (x9.length+([32]:List UInt8).length<=aad) then
 let x10:=x9++([32]:List UInt8)
 let x11:=(a0.fld 1).asStr
 bif decide (x10.length+x11.length<=aad) then
 let x12:=x10++x11
 bif decide (x12.length+([32,61,32]:List UInt8).length<=aad) then
 let x13:=x12++([32,61,32]:List UInt8)
 (F160 uu ((a0.fld 0).asInt)).bind fun y15=>
 bif decide (x13.length+y15.length<=aad) then
 let x16:=x13++y15
 bif ((a0.fld 6).asBool) then
 bif decide (x16.length+([32,100,101,102,97,117,108,116,32]:List UInt8).length<=aad) then
 let x18:=x16++([32,100,101,102,97,117,108,116,32]:List UInt8)
 (F176 uu (a0.fld 7)).bind fun y20=>
 bif decide (x18.length+y20.length<=aad) then
 let x21:=x18++y20
 (F156 uu ((a0.fld 8).asList)).bind fun y23=>
 bif decide (x21.length+y23.length<=aad) then
 let x24:=x21++y23
 bif decide (x24.length+([59]:List UInt8).length<=aad) then
 some (x24++([59]:List UInt8))
 else none
 else none
 else none
 else none
 else
 (F156 uu ((a0.fld 8).asList)).bind fun y27=>
 bif decide (x16.length+y27.length<=aad) then
 let x28:=x16++y27
 bif decide (x28.length+([59]:List UInt8).length<=aad) then
 some (x28++([59]:List UInt8))
 else none
 else none
 else none
 else none
 else none
 else none
 else none
 else none
 else none
 else none
 else
 bif (((a0.fld 5).asStr)==([]:List UInt8)) then
 let x33:=IntKind.wrap .i64 (((a0.fld 2).asInt)-(1:Int))
 bif aaa x33 ([(PV.str ([114,101,113,117,105,114,101,100,32]:List UInt8)),(PV.str ([111,112,116,105,111,110,97,108,32]:List UInt8)),(PV.str ([112,108,97,105,110,32]:List UInt8)),(PV.str ([108,105,115,116,32]:List UInt8))].length) then
 bif decide ((([(PV.str ([114,101,113,117,105,114,101,100,32]:List UInt8)),(PV.str ([111,112,116,105,111,110,97,108,32]:List UInt8)),(PV.str ([112,108,97,105,110,32]:List UInt8)),(PV.str ([108,105,115,116,32]:List UInt8))].getD x33.toNat .bad).asStr).length+y2.length<=aad) then
 let x34:=(([(PV.str ([114,101,113,117,105,114,101,100,32]:List UInt8)),(PV.str ([111,112,116,105,111,110,97,108,32]:List UInt8)),(PV.str ([112,108,97,105,110,32]:List UInt8)),(PV.str ([108,105,115,116,32]:List UInt8))].getD x33.toNat .bad).asStr)++y2
 bif decide (x34.length+([32]:List UInt8).length<=aad) then
 let x35:=x34++([32]:List UInt8)
 let x36:=(a0.fld 1).asStr
 bif decide (x35.length+x36.length<=aad) then
 let x37:=x35++x36
 bif decide (x37.length+([32,61,32]:List UInt8).length<=aad) then
 let x38:=x37++([32,61,32]:List UInt8)
 (F160 uu ((a0.fld 0).asInt)).bind fun y40=>
 bif decide (x38.length+y40.length<=aad) then
 let x41:=x38++y40
 bif ((a0.fld 6).asBool) then
 bif decide (x41.length+([32,100,101,102,97,117,108,116,32]:List UInt8).length<=aad) then
 let x43:=x41++([32,100,101,102,97,117,108,116,32]:List UInt8)
 (F176 uu (a0.fld 7)).bind fun y45=>
 bif decide (x43.length+y45.length<=aad) then
 let x46:=x43++y45
 (F156 uu ((a0.fld 8).asList)).bind fun y48=>
 bif decide (x46.length+y48.length<=aad) then
 let x49:=x46++y48
 bif decide (x49.length+([59]:List UInt8).length<=aad) then
 some (x49++([59]:List UInt8))
 else none
 else none
 else none
 else none
 else
 (F156 uu ((a0.fld 8).asList)).bind fun y52=>
 bif decide (x41.length+y52.length<=aad) then
 let x53:=x41++y52
 bif decide (x53.length+([59]:List UInt8).length<=aad) then
 some (x53++([59]:List UInt8))
 else none
 else none
 else none
 else none
 else none
 else none
 else none
 else none
 else
 bif decide (y2.length+([32]:List UInt8).length<=aad) then
 let x55:=y2++([32]:List UInt8)
 let x56:=(a0.fld 1).asStr
 bif decide (x55.length+x56.length<=aad) then
 let x57:=x55++x56
 bif decide (x57.length+([32,61,32]:List UInt8).length<=aad) then
 let x58:=x57++([32,61,32]:List UInt8)
 (F160 uu ((a0.fld 0).asInt)).bind fun y60=>
 bif decide (x58.length+y60.length<=aad) then
 let x61:=x58++y60
 bif ((a0.fld 6).asBool) then
 bif decide (x61.length+([32,100,101,102,97,117,108,116,32]:List UInt8).length<=aad) then
 let x63:=x61++([32,100,101,102,97,117,108,116,32]:List UInt8)
 (F176 uu (a0.fld 7)).bind fun y65=>
 bif decide (x63.length+y65.length<=aad) then
 let x66:=x63++y65
 (F156 uu ((a0.fld 8).asList)).bind fun y68=>
 bif decide (x66.length+y68.length<=aad) then
 let x69:=x66++y68
 bif decide (x69.length+([59]:List UInt8).length<=aad) then
 some (x69++([59]:List UInt8))
 else none
 else none
 else none
 else none
 else
 (F156 uu ((a0.fld 8).asList)).bind fun y72=>
 bif decide (x61.length+y72.length<=aad) then
 let x73:=x61++y72
 bif decide (x73.length+([59]:List UInt8).length<=aad) then
 some (x73++([59]:List UInt8))
 else none
 else none
 else none
 else none
 else none
 else none
def F157c (uu:Nat):CallE:=⟨157,⟨1,[],[(.data 68)]⟩,⟨1,[],[.str]⟩,fun x=>F157 uu x,[]⟩
theorem F157ok (uu:Nat):(F157c uu).Ok Tryz.prog:=okJ Tryz.f157 53 0 uu _ [] false (qc (F175ok uu)<|qc (F169ok uu)<|qc (F160ok uu)<|qc (F176ok uu)<|qc (F156ok uu)<|q0) (p0) L0
abbrev S158_4x:=(List PV)×(List UInt8)×Int
abbrev S158_4y:=((List UInt8))
def S158_4 (uu:Nat) (a1:List PV) (a2:List UInt8) (a3:Int):Option (S158_4x⊕S158_4y):=
 bif (decide (a3<(a1.length:Int))) then
 bif (decide (a3>(0:Int))) then
 bif decide (a2.length+([44,32]:List UInt8).length<=aad) then
 let x7:=a2++([44,32]:List UInt8)
 bif aaa a3 a1.length then
 (F160 uu ((a1.getD a3.toNat .bad).fld 0).asInt).bind fun y11=>
 bif decide (x7.length+y11.length<=aad) then
 let x12:=x7++y11
 bif aaa a3 a1.length then
 bif aaa a3 a1.length then
 bif (((a1.getD a3.toNat .bad).fld 1).asInt != ((a1.getD a3.toNat .bad).fld 0).asInt) then
 bif decide (x12.length+([32,45,32]:List UInt8).length<=aad) then
 let x20:=x12++([32,45,32]:List UInt8)
 bif aaa a3 a1.length then
 (F160 uu ((a1.getD a3.toNat .bad).fld 1).asInt).bind fun y24=>
 bif decide (x20.length+y24.length<=aad) then
 some (.inl (a1,(x20++y24),(IntKind.wrap .i64 (a3+(1:Int)))))
 else none
 else none
 else none
 else
 some (.inl (a1,x12,(IntKind.wrap .i64 (a3+(1:Int)))))
 else none
 else none
 else none
 else none
 else none
 else
 bif aaa a3 a1.length then
 (F160 uu ((a1.getD a3.toNat .bad).fld 0).asInt).bind fun y31=>
 bif decide (a2.length+y31.length<=aad) then
 let x32:=a2++y31
 bif aaa a3 a1.length then
 bif aaa a3 a1.length then
 bif (((a1.getD a3.toNat .bad).fld 1).asInt != ((a1.getD a3.toNat .bad).fld 0).asInt) then
 bif decide (x32.length+([32,45,32]:List UInt8).length<=aad) then
 let x40:=x32++([32,45,32]:List UInt8)
 bif aaa a3 a1.length then
 (F160 uu ((a1.getD a3.toNat .bad).fld 1).asInt).bind fun y44=>
 bif decide (x40.length+y44.length<=aad) then
 some (.inl (a1,(x40++y44),(IntKind.wrap .i64 (a3+(1:Int)))))
 else none
 else none
 else none
 else
 some (.inl (a1,x32,(IntKind.wrap .i64 (a3+(1:Int)))))
 else none
 else none
 else none
 else none
 else
 some (.inr a2)
def S158_4step (uu:Nat) (x:S158_4x):Option (S158_4x⊕S158_4y):=S158_4 uu x.1 x.2.1 x.2.2
def F158 (uu:Nat) (a0:List PV):Option ((List UInt8)):=
 (aaf uu (S158_4step uu) (a0,([]:List UInt8),(0:Int))).bind fun y48=>
 bif (y48==([]:List UInt8)) then
 some ([]:List UInt8)
 else
 bif decide (([32,32,114,101,115,101,114,118,101,100,32]:List UInt8).length+y48.length<=aad) then
 bif decide ((([32,32,114,101,115,101,114,118,101,100,32]:List UInt8)++y48).length+([59,10]:List UInt8).length<=aad) then
 let x50:=(([32,32,114,101,115,101,114,118,101,100,32]:List UInt8)++y48)++([59,10]:List UInt8)
 some x50
 else none
 else none
def S158_4l (uu:Nat):LoopE:=⟨4,⟨[0,3,4],[],(.slice 219)::sv19⟩,[(.exit 0,⟨[3],[],[.str]⟩)],S158_4step uu⟩
def F158C (uu:Nat):Cfg:=cfg Tryz.prog 48 0 [F160c uu] [S158_4l uu] uu
def F158c (uu:Nat):CallE:=⟨158,⟨1,[],[(.slice 219)]⟩,⟨1,[],[.str]⟩,fun x=>F158 uu x,[]⟩
theorem F158k (uu:Nat):aai (F158C uu):=aac (qc (F160ok uu)<|q0) (p0)
theorem S158_4ok (uu:Nat):LoopOk (F158C uu) (lp (aag Tryz.f158) 0):=okL (F158k uu) uu (S158_4l uu) L0
theorem F158ok (uu:Nat):(F158c uu).Ok Tryz.prog:=okE Tryz.f158 (F158k uu) (L1 (S158_4ok uu))
abbrev S159_4x:=(List PV)×(List UInt8)×Int
abbrev S159_4y:=((List UInt8))
def S159_4 (uu:Nat) (a1:List PV) (a2:List UInt8) (a3:Int):Option (S159_4x⊕S159_4y):=
 bif (decide (a3<(a1.length:Int))) then
 bif (decide (a3>(0:Int))) then
 bif decide (a2.length+([44,32]:List UInt8).length<=aad) then
 let x7:=a2++([44,32]:List UInt8)
 bif aaa a3 a1.length then
 (F123 uu (a1.getD a3.toNat .bad).asStr).bind fun y10=>
 bif decide (x7.length+y10.length<=aad) then
 some (.inl (a1,(x7++y10),(IntKind.wrap .i64 (a3+(1:Int)))))
 else none
 else none
 else none
 else
 bif aaa a3 a1.length then
 (F123 uu (a1.getD a3.toNat .bad).asStr).bind fun y15=>
 bif decide (a2.length+y15.length<=aad) then
 some (.inl (a1,(a2++y15),(IntKind.wrap .i64 (a3+(1:Int)))))
 else none
 else none
 else
 some (.inr a2)
def S159_4step (uu:Nat) (x:S159_4x):Option (S159_4x⊕S159_4y):=S159_4 uu x.1 x.2.1 x.2.2
def F159 (uu:Nat) (a0:List PV):Option ((List UInt8)):=
 (aaf uu (S159_4step uu) (a0,([]:List UInt8),(0:Int))).bind fun y18=>
 bif (y18==([]:List UInt8)) then
 some ([]:List UInt8)
 else
 bif decide (([32,32,114,101,115,101,114,118,101,100,32]:List UInt8).length+y18.length<=aad) then
 bif decide ((([32,32,114,101,115,101,114,118,101,100,32]:List UInt8)++y18).length+([59,10]:List UInt8).length<=aad) then
 let x20:=(([32,32,114,101,115,101,114,118,101,100,32]:List UInt8)++y18)++([59,10]:List UInt8)
 some x20
 else none
 else none
def S159_4l (uu:Nat):LoopE:=⟨4,⟨[0,3,4],[],(.slice 9)::sv19⟩,[(.exit 0,⟨[3],[],[.str]⟩)],S159_4step uu⟩
def F159C (uu:Nat):Cfg:=cfg Tryz.prog 27 0 [F123c uu] [S159_4l uu] uu
def F159c (uu:Nat):CallE:=⟨159,⟨1,[],[(.slice 9)]⟩,⟨1,[],[.str]⟩,fun x=>F159 uu x,[]⟩
theorem F159k (uu:Nat):aai (F159C uu):=aac (qc (F123ok uu)<|q0) (p0)
theorem S159_4ok (uu:Nat):LoopOk (F159C uu) (lp (aag Tryz.f159) 0):=okL (F159k uu) uu (S159_4l uu) L0
theorem F159ok (uu:Nat):(F159c uu).Ok Tryz.prog:=okE Tryz.f159 (F159k uu) (L1 (S159_4ok uu))
abbrev S125_5x:=Unit×(List UInt8)×(List UInt8)×Int×PV
abbrev S125_5y:=(Unit×(List UInt8)×(List UInt8)×PV)
def S125_5 (uu:Nat) (a6:Unit) (a7:List UInt8) (a8:List UInt8) (a9:Int) (a10:PV):Option (S125_5x⊕S125_5y):=
 bif (decide (a9<(((a10.fld 1).asList).length:Int))) then
 let x14:=(a10.fld 1).asList
 bif aaa a9 x14.length then
 let x15:=x14.getD a9.toNat .bad
 bif (bif (!(a8==([]:List UInt8))) then (!(a8==((x15.fld 5).asStr))) else false) then
 bif decide (a7.length+([32,32,125,10]:List UInt8).length<=aad) then
 let x20:=a7++([32,32,125,10]:List UInt8)
 bif (bif (!(((x15.fld 5).asStr)==([]:List UInt8))) then (!(a8==((x15.fld 5).asStr))) else false) then
 bif decide (x20.length+([32,32,117,110,105,111,110,32]:List UInt8).length<=aad) then
 let x26:=x20++([32,32,117,110,105,111,110,32]:List UInt8)
 let x27:=(x15.fld 5).asStr
 bif decide (x26.length+x27.length<=aad) then
 let x28:=x26++x27
 bif decide (x28.length+([32,123,10]:List UInt8).length<=aad) then
 let x29:=x28++([32,123,10]:List UInt8)
 let x30:=(x15.fld 5).asStr
 bif (!(x30==([]:List UInt8))) then
 bif decide (x29.length+([32,32]:List UInt8).length<=aad) then
 let x32:=x29++([32,32]:List UInt8)
 bif decide (x32.length+([32,32]:List UInt8).length<=aad) then
 let x33:=x32++([32,32]:List UInt8)
 (F157 uu x15).bind fun y34=>
 bif decide (x33.length+y34.length<=aad) then
 let x35:=x33++y34
 bif decide (x35.length+([10]:List UInt8).length<=aad) then
 some (.inl ((),(x35++([10]:List UInt8)),x30,(IntKind.wrap .i64 (a9+(1:Int))),a10))
 else none
 else none
 else none
 else none
 else
 bif decide (x29.length+([32,32]:List UInt8).length<=aad) then
 let x38:=x29++([32,32]:List UInt8)
 (F157 uu x15).bind fun y39=>
 bif decide (x38.length+y39.length<=aad) then
 let x40:=x38++y39
 bif decide (x40.length+([10]:List UInt8).length<=aad) then
 some (.inl ((),(x40++([10]:List UInt8)),x30,(IntKind.wrap .i64 (a9+(1:Int))),a10))
 else none
 else none
 else none
 else none
 else none
 else none
 else
 let x43:=(x15.fld 5).asStr
 bif (!(x43==([]:List UInt8))) then
 bif decide (x20.length+([32,32]:List UInt8).length<=aad) then
 let x45:=x20++([32,32]:List UInt8)
 bif decide (x45.length+([32,32]:List UInt8).length<=aad) then
 let x46:=x45++([32,32]:List UInt8)
 (F157 uu x15).bind fun y47=>
 bif decide (x46.length+y47.length<=aad) then
 let x48:=x46++y47
 bif decide (x48.length+([10]:List UInt8).length<=aad) then
 some (.inl ((),(x48++([10]:List UInt8)),x43,(IntKind.wrap .i64 (a9+(1:Int))),a10))
 else none
 else none
 else none
 else none
 else
 bif decide (x20.length+([32,32]:List UInt8).length<=aad) then
 let x51:=x20++([32,32]:List UInt8)
 (F157 uu x15).bind fun y52=>
 bif decide (x51.length+y52.length<=aad) then
 let x53:=x51++y52
 bif decide (x53.length+([10]:List UInt8).length<=aad) then
 some (.inl ((),(x53++([10]:List UInt8)),x43,(IntKind.wrap .i64 (a9+(1:Int))),a10))
 else none
 else none
 else none
 else none
 else
 bif (bif (!(((x15.fld 5).asStr)==([]:List UInt8))) then (!(a8==((x15.fld 5).asStr))) else false) then
 bif decide (a7.length+([32,32,117,110,105,111,110,32]:List UInt8).length<=aad) then
 let x61:=a7++([32,32,117,110,105,111,110,32]:List UInt8)
 let x62:=(x15.fld 5).asStr
 bif decide (x61.length+x62.length<=aad) then
 let x63:=x61++x62
 bif decide (x63.length+([32,123,10]:List UInt8).length<=aad) then
 let x64:=x63++([32,123,10]:List UInt8)
 let x65:=(x15.fld 5).asStr
 bif (!(x65==([]:List UInt8))) then
 bif decide (x64.length+([32,32]:List UInt8).length<=aad) then
 let x67:=x64++([32,32]:List UInt8)
 bif decide (x67.length+([32,32]:List UInt8).length<=aad) then
 let x68:=x67++([32,32]:List UInt8)
 (F157 uu x15).bind fun y69=>
 bif decide (x68.length+y69.length<=aad) then
 let x70:=x68++y69
 bif decide (x70.length+([10]:List UInt8).length<=aad) then
 some (.inl ((),(x70++([10]:List UInt8)),x65,(IntKind.wrap .i64 (a9+(1:Int))),a10))
 else none
 else none
 else none
 else none
 else
 bif decide (x64.length+([32,32]:List UInt8).length<=aad) then
 let x73:=x64++([32,32]:List UInt8)
 (F157 uu x15).bind fun y74=>
 bif decide (x73.length+y74.length<=aad) then
 let x75:=x73++y74
 bif decide (x75.length+([10]:List UInt8).length<=aad) then
 some (.inl ((),(x75++([10]:List UInt8)),x65,(IntKind.wrap .i64 (a9+(1:Int))),a10))
 else none
 else none
 else none
 else none
 else none
 else none
 else
 let x78:=(x15.fld 5).asStr
 bif (!(x78==([]:List UInt8))) then
 bif decide (a7.length+([32,32]:List UInt8).length<=aad) then
 let x80:=a7++([32,32]:List UInt8)
 bif decide (x80.length+([32,32]:List UInt8).length<=aad) then
 let x81:=x80++([32,32]:List UInt8)
 (F157 uu x15).bind fun y82=>
 bif decide (x81.length+y82.length<=aad) then
 let x83:=x81++y82
 bif decide (x83.length+([10]:List UInt8).length<=aad) then
 some (.inl ((),(x83++([10]:List UInt8)),x78,(IntKind.wrap .i64 (a9+(1:Int))),a10))
 else none
 else none
 else none
 else none
 else
 bif decide (a7.length+([32,32]:List UInt8).length<=aad) then
 let x86:=a7++([32,32]:List UInt8)
 (F157 uu x15).bind fun y87=>
 bif decide (x86.length+y87.length<=aad) then
 let x88:=x86++y87
 bif decide (x88.length+([10]:List UInt8).length<=aad) then
 some (.inl ((),(x88++([10]:List UInt8)),x78,(IntKind.wrap .i64 (a9+(1:Int))),a10))
 else none
 else none
 else none
 else none
 else
 some (.inr ((),a7,a8,a10))
def S125_5step (uu:Nat) (x:S125_5x):Option (S125_5x⊕S125_5y):=S125_5 uu x.1 x.2.1 x.2.2.1 x.2.2.2.1 x.2.2.2.2
def F125 (uu:Nat) (a0:PV):Option ((List UInt8)):=
 let x1:=(a0.fld 0).asStr
 bif decide (([109,101,115,115,97,103,101,32]:List UInt8).length+x1.length<=aad) then
 (F156 uu ((a0.fld 4).asList)).bind fun y3=>
 bif decide ((([109,101,115,115,97,103,101,32]:List UInt8)++x1).length+y3.length<=aad) then
 let x4:=(([109,101,115,115,97,103,101,32]:List UInt8)++x1)++y3
 bif decide (x4.length+([32,123,10]:List UInt8).length<=aad) then
 (aaf uu (S125_5step uu) ((),(x4++([32,123,10]:List UInt8)),([]:List UInt8),(0:Int),a0)).bind fun y91=>
 bif (!(y91.2.2.1==([]:List UInt8))) then
 let x94:=y91.2.1
 bif decide (x94.length+([32,32,125,10]:List UInt8).length<=aad) then
 let x95:=x94++([32,32,125,10]:List UInt8)
 (F158 uu ((y91.2.2.2.fld 2).asList)).bind fun y97=>
 bif decide (x95.length+y97.length<=aad) then
 let x98:=x95++y97
 (F159 uu ((y91.2.2.2.fld 3).asList)).bind fun y100=>
 bif decide (x98.length+y100.length<=aad) then
 let x101:=x98++y100
 bif decide (x101.length+([125,10]:List UInt8).length<=aad) then
 some (x101++([125,10]:List UInt8))
 else none
 else none
 else none
 else none
 else
 let x103:=y91.2.1
 (F158 uu ((y91.2.2.2.fld 2).asList)).bind fun y105=>
 bif decide (x103.length+y105.length<=aad) then
 let x106:=x103++y105
 (F159 uu ((y91.2.2.2.fld 3).asList)).bind fun y108=>
 bif decide (x106.length+y108.length<=aad) then
 let x109:=x106++y108
 bif decide (x109.length+([125,10]:List UInt8).length<=aad) then
 some (x109++([125,10]:List UInt8))
 else none
 else none
 else none
 else none
 else none
 else none
def S125_5l (uu:Nat):LoopE:=⟨5,⟨[1,3,4,5],[.box 73 .leaf],[(.con (.ref 0 [] 73)),.str,.str,(.int .i64),(.data 73)]⟩,[(.exit 0,⟨[1,3,4],[.box 73 .leaf],(.con (.ref 0 [] 73))::.str::sv1⟩)],S125_5step uu⟩
def F125C (uu:Nat):Cfg:=cfg Tryz.prog 78 0 [F156c uu,F157c uu,F158c uu,F159c uu] [S125_5l uu] uu
def F125c (uu:Nat):CallE:=⟨125,⟨1,[],[(.data 73)]⟩,⟨1,[],[.str]⟩,fun x=>F125 uu x,[]⟩
theorem F125k (uu:Nat):aai (F125C uu):=aac (qc (F156ok uu)<|qc (F157ok uu)<|qc (F158ok uu)<|qc (F159ok uu)<|q0) (p0)
theorem S125_5ok (uu:Nat):LoopOk (F125C uu) (lp (aag Tryz.f125) 0):=okL (F125k uu) uu (S125_5l uu) L0
theorem F125ok (uu:Nat):(F125c uu).Ok Tryz.prog:=okE Tryz.f125 (F125k uu) (L1 (S125_5ok uu))
def F124 (uu:Nat) (a0:List UInt8) (a1:List UInt8):Option ((List UInt8)):=
 bif (a0==([]:List UInt8)) then
 some a1
 else
 bif decide (a0.length+([10]:List UInt8).length<=aad) then
 let x2:=a0++([10]:List UInt8)
 bif decide (x2.length+a1.length<=aad) then
 some (x2++a1)
 else none
 else none
def F124c (uu:Nat):CallE:=⟨124,⟨2,[],[.str,.str]⟩,⟨1,[],[.str]⟩,fun x=>F124 uu x.1 x.2,[]⟩
theorem F124ok (uu:Nat):(F124c uu).Ok Tryz.prog:=okJ Tryz.f124 12 0 uu [] [] false (q0) (p0) L0
abbrev S126_6x:=Unit×(List UInt8)×Int×PV
abbrev S126_6y:=(Unit×(List UInt8)×PV)
def S126_6 (uu:Nat) (a7:Unit) (a8:List UInt8) (a9:Int) (a10:PV):Option (S126_6x⊕S126_6y):=
 bif (decide (a9<(((a10.fld 2).asList).length:Int))) then
 bif decide (a8.length+([32,32]:List UInt8).length<=aad) then
 let x14:=a8++([32,32]:List UInt8)
 let x15:=(a10.fld 2).asList
 bif aaa a9 x15.length then
 let x18:=((x15.getD a9.toNat .bad).fld 0).asStr
 bif decide (x14.length+x18.length<=aad) then
 let x19:=x14++x18
 bif decide (x19.length+([32,61,32]:List UInt8).length<=aad) then
 let x20:=x19++([32,61,32]:List UInt8)
 let x21:=(a10.fld 2).asList
 bif aaa a9 x21.length then
 (F160 uu ((x21.getD a9.toNat .bad).fld 1).asInt).bind fun y25=>
 bif decide (x20.length+y25.length<=aad) then
 let x26:=x20++y25
 let x27:=(a10.fld 2).asList
 bif aaa a9 x27.length then
 (F156 uu ((x27.getD a9.toNat .bad).fld 2).asList).bind fun y31=>
 bif decide (x26.length+y31.length<=aad) then
 let x32:=x26++y31
 bif decide (x32.length+([59,10]:List UInt8).length<=aad) then
 some (.inl ((),(x32++([59,10]:List UInt8)),(IntKind.wrap .i64 (a9+(1:Int))),a10))
 else none
 else none
 else none
 else none
 else none
 else none
 else none
 else none
 else none
 else
 some (.inr ((),a8,a10))
def S126_6step (uu:Nat) (x:S126_6x):Option (S126_6x⊕S126_6y):=S126_6 uu x.1 x.2.1 x.2.2.1 x.2.2.2
def F126 (uu:Nat) (a0:PV):Option ((List UInt8)):=
 let x1:=(a0.fld 0).asStr
 bif decide (([101,110,117,109,32]:List UInt8).length+x1.length<=aad) then
 (F156 uu ((a0.fld 4).asList)).bind fun y3=>
 bif decide ((([101,110,117,109,32]:List UInt8)++x1).length+y3.length<=aad) then
 let x4:=(([101,110,117,109,32]:List UInt8)++x1)++y3
 bif decide (x4.length+([32,123,10]:List UInt8).length<=aad) then
 let x5:=x4++([32,123,10]:List UInt8)
 bif ((a0.fld 1).asBool) then
 bif decide (([111,112,101,110,32]:List UInt8).length+x5.length<=aad) then
 (aaf uu (S126_6step uu) ((),([111,112,101,110,32]:List UInt8)++x5,(0:Int),a0)).bind fun y35=>
 let x36:=y35.2.1
 (F158 uu ((y35.2.2.fld 3).asList)).bind fun y38=>
 bif decide (x36.length+y38.length<=aad) then
 let x39:=x36++y38
 bif decide (x39.length+([125,10]:List UInt8).length<=aad) then
 some (x39++([125,10]:List UInt8))
 else none
 else none
 else none
 else
 (aaf uu (S126_6step uu) ((),x5,(0:Int),a0)).bind fun y41=>
 let x42:=y41.2.1
 (F158 uu ((y41.2.2.fld 3).asList)).bind fun y44=>
 bif decide (x42.length+y44.length<=aad) then
 let x45:=x42++y44
 bif decide (x45.length+([125,10]:List UInt8).length<=aad) then
 some (x45++([125,10]:List UInt8))
 else none
 else none
 else none
 else none
 else none
def S126_6l (uu:Nat):LoopE:=⟨6,⟨[1,3,4],[.box 116 .leaf],[(.con (.ref 0 [] 116)),.str,(.int .i64),(.data 116)]⟩,[(.exit 0,⟨[1,3],[.box 116 .leaf],(.con (.ref 0 [] 116))::sv6⟩)],S126_6step uu⟩
def F126C (uu:Nat):Cfg:=cfg Tryz.prog 57 0 [F156c uu,F160c uu,F158c uu] [S126_6l uu] uu
def F126c (uu:Nat):CallE:=⟨126,⟨1,[],[(.data 116)]⟩,⟨1,[],[.str]⟩,fun x=>F126 uu x,[]⟩
theorem F126k (uu:Nat):aai (F126C uu):=aac (qc (F156ok uu)<|qc (F160ok uu)<|qc (F158ok uu)<|q0) (p0)
theorem S126_6ok (uu:Nat):LoopOk (F126C uu) (lp (aag Tryz.f126) 0):=okL (F126k uu) uu (S126_6l uu) L0
theorem F126ok (uu:Nat):(F126c uu).Ok Tryz.prog:=okE Tryz.f126 (F126k uu) (L1 (S126_6ok uu))
abbrev S127_4x:=Unit×(List UInt8)×Int×PV
abbrev S127_4y:=((List UInt8)×PV)
def S127_4 (uu:Nat) (a6:Unit) (a7:List UInt8) (a8:Int) (a9:PV):Option (S127_4x⊕S127_4y):=
 bif (decide (a8<(((a9.fld 1).asList).length:Int))) then
 let x13:=(a9.fld 1).asList
 bif aaa a8 x13.length then
 let x14:=x13.getD a8.toNat .bad
 let x15:=(x14.fld 1).asStr
 let x16:=(x14.fld 2).asStr
 bif (bif (((x14.fld 3).asInt)==(3:Int)) then true else (((x14.fld 3).asInt)==(4:Int))) then
 bif decide (([115,116,114,101,97,109,32]:List UInt8).length+x15.length<=aad) then
 bif (bif (((x14.fld 3).asInt)==(2:Int)) then true else (((x14.fld 3).asInt)==(4:Int))) then
 bif decide (([115,116,114,101,97,109,32]:List UInt8).length+x16.length<=aad) then
 bif decide (a7.length+([32,32,114,112,99,32]:List UInt8).length<=aad) then
 let x27:=a7++([32,32,114,112,99,32]:List UInt8)
 let x28:=(x14.fld 0).asStr
 bif decide (x27.length+x28.length<=aad) then
 let x29:=x27++x28
 bif decide (x29.length+([40]:List UInt8).length<=aad) then
 let x30:=x29++([40]:List UInt8)
 bif decide (x30.length+(([115,116,114,101,97,109,32]:List UInt8)++x15).length<=aad) then
 let x31:=x30++(([115,116,114,101,97,109,32]:List UInt8)++x15)
 bif decide (x31.length+([41,32,114,101,116,117,114,110,115,32,40]:List UInt8).length<=aad) then
 let x32:=x31++([41,32,114,101,116,117,114,110,115,32,40]:List UInt8)
 bif decide (x32.length+(([115,116,114,101,97,109,32]:List UInt8)++x16).length<=aad) then
 let x33:=x32++(([115,116,114,101,97,109,32]:List UInt8)++x16)
 bif decide (x33.length+([41]:List UInt8).length<=aad) then
 let x34:=x33++([41]:List UInt8)
 (F156 uu ((x14.fld 4).asList)).bind fun y36=>
 bif decide (x34.length+y36.length<=aad) then
 let x37:=x34++y36
 bif decide (x37.length+([59,10]:List UInt8).length<=aad) then
 some (.inl ((),(x37++([59,10]:List UInt8)),(IntKind.wrap .i64 (a8+(1:Int))),a9))
 else none
 else none
 else none
 else none
 else none
 else none
 else none
 else none
 else none
 else none
 else
 bif decide (a7.length+([32,32,114,112,99,32]:List UInt8).length<=aad) then
 let x40:=a7++([32,32,114,112,99,32]:List UInt8)
 let x41:=(x14.fld 0).asStr
 bif decide (x40.length+x41.length<=aad) then
 let x42:=x40++x41
 bif decide (x42.length+([40]:List UInt8).length<=aad) then
 let x43:=x42++([40]:List UInt8)
 bif decide (x43.length+(([115,116,114,101,97,109,32]:List UInt8)++x15).length<=aad) then
 let x44:=x43++(([115,116,114,101,97,109,32]:List UInt8)++x15)
 bif decide (x44.length+([41,32,114,101,116,117,114,110,115,32,40]:List UInt8).length<=aad) then
 let x45:=x44++([41,32,114,101,116,117,114,110,115,32,40]:List UInt8)
 bif decide (x45.length+x16.length<=aad) then
 let x46:=x45++x16
 bif decide (x46.length+([41]:List UInt8).length<=aad) then
 let x47:=x46++([41]:List UInt8)
 (F156 uu ((x14.fld 4).asList)).bind fun y49=>
 bif decide (x47.length+y49.length<=aad) then
 let x50:=x47++y49
 bif decide (x50.length+([59,10]:List UInt8).length<=aad) then
 some (.inl ((),(x50++([59,10]:List UInt8)),(IntKind.wrap .i64 (a8+(1:Int))),a9))
 else none
 else none
 else none
 else none
 else none
 else none
 else none
 else none
 else none
 else none
 else
 bif (bif (((x14.fld 3).asInt)==(2:Int)) then true else (((x14.fld 3).asInt)==(4:Int))) then
 bif decide (([115,116,114,101,97,109,32]:List UInt8).length+x16.length<=aad) then
 bif decide (a7.length+([32,32,114,112,99,32]:List UInt8).length<=aad) then
 let x58:=a7++([32,32,114,112,99,32]:List UInt8)
 let x59:=(x14.fld 0).asStr
 bif decide (x58.length+x59.length<=aad) then
 let x60:=x58++x59
 bif decide (x60.length+([40]:List UInt8).length<=aad) then
 let x61:=x60++([40]:List UInt8)
 bif decide (x61.length+x15.length<=aad) then
 let x62:=x61++x15
 bif decide (x62.length+([41,32,114,101,116,117,114,110,115,32,40]:List UInt8).length<=aad) then
 let x63:=x62++([41,32,114,101,116,117,114,110,115,32,40]:List UInt8)
 bif decide (x63.length+(([115,116,114,101,97,109,32]:List UInt8)++x16).length<=aad) then
 let x64:=x63++(([115,116,114,101,97,109,32]:List UInt8)++x16)
 bif decide (x64.length+([41]:List UInt8).length<=aad) then
 let x65:=x64++([41]:List UInt8)
 (F156 uu ((x14.fld 4).asList)).bind fun y67=>
 bif decide (x65.length+y67.length<=aad) then
 let x68:=x65++y67
 bif decide (x68.length+([59,10]:List UInt8).length<=aad) then
 some (.inl ((),(x68++([59,10]:List UInt8)),(IntKind.wrap .i64 (a8+(1:Int))),a9))
 else none
 else none
 else none
 else none
 else none
 else none
 else none
 else none
 else none
 else none
 else
 bif decide (a7.length+([32,32,114,112,99,32]:List UInt8).length<=aad) then
 let x71:=a7++([32,32,114,112,99,32]:List UInt8)
 let x72:=(x14.fld 0).asStr
 bif decide (x71.length+x72.length<=aad) then
 let x73:=x71++x72
 bif decide (x73.length+([40]:List UInt8).length<=aad) then
 let x74:=x73++([40]:List UInt8)
 bif decide (x74.length+x15.length<=aad) then
 let x75:=x74++x15
 bif decide (x75.length+([41,32,114,101,116,117,114,110,115,32,40]:List UInt8).length<=aad) then
 let x76:=x75++([41,32,114,101,116,117,114,110,115,32,40]:List UInt8)
 bif decide (x76.length+x16.length<=aad) then
 let x77:=x76++x16
 bif decide (x77.length+([41]:List UInt8).length<=aad) then
 let x78:=x77++([41]:List UInt8)
 (F156 uu ((x14.fld 4).asList)).bind fun y80=>
 bif decide (x78.length+y80.length<=aad) then
 let x81:=x78++y80
 bif decide (x81.length+([59,10]:List UInt8).length<=aad) then
 some (.inl ((),(x81++([59,10]:List UInt8)),(IntKind.wrap .i64 (a8+(1:Int))),a9))
 else none
 else none
 else none
 else none
 else none
 else none
 else none
 else none
 else none
 else none
 else
 some (.inr (a7,a9))
def S127_4step (uu:Nat) (x:S127_4x):Option (S127_4x⊕S127_4y):=S127_4 uu x.1 x.2.1 x.2.2.1 x.2.2.2
def F127 (uu:Nat) (a0:PV):Option ((List UInt8)):=
 let x1:=(a0.fld 0).asStr
 bif decide (([115,101,114,118,105,99,101,32]:List UInt8).length+x1.length<=aad) then
 (F156 uu ((a0.fld 2).asList)).bind fun y3=>
 bif decide ((([115,101,114,118,105,99,101,32]:List UInt8)++x1).length+y3.length<=aad) then
 let x4:=(([115,101,114,118,105,99,101,32]:List UInt8)++x1)++y3
 bif decide (x4.length+([32,123,10]:List UInt8).length<=aad) then
 (aaf uu (S127_4step uu) ((),(x4++([32,123,10]:List UInt8)),(0:Int),a0)).bind fun y84=>
 let x85:=y84.1
 bif decide (x85.length+([125,10]:List UInt8).length<=aad) then
 some (x85++([125,10]:List UInt8))
 else none
 else none
 else none
 else none
def S127_4l (uu:Nat):LoopE:=⟨4,⟨[1,3,4],[.box 120 .leaf],[(.con (.ref 0 [] 120)),.str,(.int .i64),(.data 120)]⟩,[(.exit 0,⟨[3],[.box 120 .leaf],[.str,(.data 120)]⟩)],S127_4step uu⟩
def F127C (uu:Nat):Cfg:=cfg Tryz.prog 71 0 [F156c uu] [S127_4l uu] uu
def F127c (uu:Nat):CallE:=⟨127,⟨1,[],[(.data 120)]⟩,⟨1,[],[.str]⟩,fun x=>F127 uu x,[]⟩
theorem F127k (uu:Nat):aai (F127C uu):=aac (qc (F156ok uu)<|q0) (p0)
theorem S127_4ok (uu:Nat):LoopOk (F127C uu) (lp (aag Tryz.f127) 0):=okL (F127k uu) uu (S127_4l uu) L0
theorem F127ok (uu:Nat):(F127c uu).Ok Tryz.prog:=okE Tryz.f127 (F127k uu) (L1 (S127_4ok uu))
abbrev S78_6x:=Unit×(List UInt8)×Int×PV
abbrev S78_6y:=(Unit×(List UInt8)×PV)
def S78_6 (uu:Nat) (a5:Unit) (a6:List UInt8) (a7:Int) (a8:PV):Option (S78_6x⊕S78_6y):=
 bif (decide (a7<(((a8.fld 2).asList).length:Int))) then
 bif decide (a6.length+([105,109,112,111,114,116,32]:List UInt8).length<=aad) then
 let x12:=a6++([105,109,112,111,114,116,32]:List UInt8)
 let x13:=(a8.fld 2).asList
 bif aaa a7 x13.length then
 (F123 uu (x13.getD a7.toNat .bad).asStr).bind fun y16=>
 bif decide (x12.length+y16.length<=aad) then
 let x17:=x12++y16
 bif decide (x17.length+([59,10]:List UInt8).length<=aad) then
 some (.inl ((),(x17++([59,10]:List UInt8)),(IntKind.wrap .i64 (a7+(1:Int))),a8))
 else none
 else none
 else none
 else none
 else
 some (.inr ((),a6,a8))
def S78_6step (uu:Nat) (x:S78_6x):Option (S78_6x⊕S78_6y):=S78_6 uu x.1 x.2.1 x.2.2.1 x.2.2.2
abbrev S78_10x:=Unit×(List UInt8)×Int×PV
abbrev S78_10y:=(Unit×(List UInt8)×PV)
def S78_10 (uu:Nat) (a21:Unit) (a22:List UInt8) (a23:Int) (a24:PV):Option (S78_10x⊕S78_10y):=
 bif (decide (a23<(((a24.fld 3).asList).length:Int))) then
 let x28:=(a24.fld 3).asList
 bif aaa a23 x28.length then
 (F125 uu (x28.getD a23.toNat .bad)).bind fun y30=>
 (F124 uu a22 y30).bind fun y31=>
 some (.inl ((),y31,(IntKind.wrap .i64 (a23+(1:Int))),a24))
 else none
 else
 some (.inr ((),a22,a24))
def S78_10step (uu:Nat) (x:S78_10x):Option (S78_10x⊕S78_10y):=S78_10 uu x.1 x.2.1 x.2.2.1 x.2.2.2
abbrev S78_14x:=Unit×(List UInt8)×Int×PV
abbrev S78_14y:=(Unit×(List UInt8)×PV)
def S78_14 (uu:Nat) (a34:Unit) (a35:List UInt8) (a36:Int) (a37:PV):Option (S78_14x⊕S78_14y):=
 bif (decide (a36<(((a37.fld 4).asList).length:Int))) then
 let x41:=(a37.fld 4).asList
 bif aaa a36 x41.length then
 (F126 uu (x41.getD a36.toNat .bad)).bind fun y43=>
 (F124 uu a35 y43).bind fun y44=>
 some (.inl ((),y44,(IntKind.wrap .i64 (a36+(1:Int))),a37))
 else none
 else
 some (.inr ((),a35,a37))
def S78_14step (uu:Nat) (x:S78_14x):Option (S78_14x⊕S78_14y):=S78_14 uu x.1 x.2.1 x.2.2.1 x.2.2.2
abbrev S78_18x:=Unit×(List UInt8)×Int×PV
abbrev S78_18y:=((List UInt8)×PV)
def S78_18 (uu:Nat) (a47:Unit) (a48:List UInt8) (a49:Int) (a50:PV):Option (S78_18x⊕S78_18y):=
 bif (decide (a49<(((a50.fld 5).asList).length:Int))) then
 let x54:=(a50.fld 5).asList
 bif aaa a49 x54.length then
 (F127 uu (x54.getD a49.toNat .bad)).bind fun y56=>
 (F124 uu a48 y56).bind fun y57=>
 some (.inl ((),y57,(IntKind.wrap .i64 (a49+(1:Int))),a50))
 else none
 else
 some (.inr (a48,a50))
def S78_18step (uu:Nat) (x:S78_18x):Option (S78_18x⊕S78_18y):=S78_18 uu x.1 x.2.1 x.2.2.1 x.2.2.2
def F78 (uu:Nat) (a0:PV):Option ((List UInt8)):=
 bif (!(((a0.fld 1).asStr)==([]:List UInt8))) then
 let x3:=(a0.fld 1).asStr
 bif decide (([115,112,97,99,101,32]:List UInt8).length+x3.length<=aad) then
 bif decide ((([115,112,97,99,101,32]:List UInt8)++x3).length+([59,10]:List UInt8).length<=aad) then
 let x4:=(([115,112,97,99,101,32]:List UInt8)++x3)++([59,10]:List UInt8)
 (aaf uu (S78_6step uu) ((),x4,(0:Int),a0)).bind fun y20=>
 (aaf uu (S78_10step uu) ((),y20.2.1,(0:Int),y20.2.2)).bind fun y33=>
 (aaf uu (S78_14step uu) ((),y33.2.1,(0:Int),y33.2.2)).bind fun y46=>
 (aaf uu (S78_18step uu) ((),y46.2.1,(0:Int),y46.2.2)).bind fun y59=>
 some y59.1
 else none
 else none
 else
 (aaf uu (S78_6step uu) ((),([]:List UInt8),(0:Int),a0)).bind fun y61=>
 (aaf uu (S78_10step uu) ((),y61.2.1,(0:Int),y61.2.2)).bind fun y62=>
 (aaf uu (S78_14step uu) ((),y62.2.1,(0:Int),y62.2.2)).bind fun y63=>
 (aaf uu (S78_18step uu) ((),y63.2.1,(0:Int),y63.2.2)).bind fun y64=>
 some y64.1
def S78_6l (uu:Nat):LoopE:=⟨6,⟨[1,3,4],bx33,sv56⟩,[(.exit 0,⟨[1,3],bx33,sv57⟩)],S78_6step uu⟩
def S78_10l (uu:Nat):LoopE:=⟨10,⟨[1,3,5],bx33,sv56⟩,[(.exit 2,⟨[1,3],bx33,sv57⟩)],S78_10step uu⟩
def S78_14l (uu:Nat):LoopE:=⟨14,⟨[1,3,6],bx33,sv56⟩,[(.exit 4,⟨[1,3],bx33,sv57⟩)],S78_14step uu⟩
def S78_18l (uu:Nat):LoopE:=⟨18,⟨[1,3,7],bx33,sv56⟩,[(.exit 6,⟨[3],bx33,sv58⟩)],S78_18step uu⟩
def F78C (uu:Nat):Cfg:=cfg Tryz.prog 78 0 [F123c uu,F125c uu,F124c uu,F126c uu,F127c uu] [S78_6l uu,S78_10l uu,S78_14l uu,S78_18l uu] uu
def F78c (uu:Nat):CallE:=⟨78,⟨1,[],[(.data 124)]⟩,⟨1,[],[.str]⟩,fun x=>F78 uu x,[]⟩
theorem F78k (uu:Nat):aai (F78C uu):=aac (qc (F123ok uu)<|qc (F125ok uu)<|qc (F124ok uu)<|qc (F126ok uu)<|qc (F127ok uu)<|q0) (p0)
theorem S78_6ok (uu:Nat):LoopOk (F78C uu) (lp (aag Tryz.f78) 0):=okL (F78k uu) uu (S78_6l uu) L0
theorem S78_10ok (uu:Nat):LoopOk (F78C uu) (lp (aag Tryz.f78) 1):=okL (F78k uu) uu (S78_10l uu) L0
theorem S78_14ok (uu:Nat):LoopOk (F78C uu) (lp (aag Tryz.f78) 2):=okL (F78k uu) uu (S78_14l uu) L0
theorem S78_18ok (uu:Nat):LoopOk (F78C uu) (lp (aag Tryz.f78) 3):=okL (F78k uu) uu (S78_18l uu) L0
theorem F78ok (uu:Nat):(F78c uu).Ok Tryz.prog:=okE Tryz.f78 (F78k uu) (L4 (S78_6ok uu) (S78_10ok uu) (S78_14ok uu) (S78_18ok uu))
def S77_8 (uu:Nat) (a7:Unit) (a8:Bool) (a9:Int) (a10:PV):Option ((Unit×Bool×Int×PV)⊕((Unit×Bool×PV))):=
 bif (decide (a9<(((a10.fld 3).asList).length:Int))) then
 let x14:=(a10.fld 3).asList
 bif imp a8 (aaa a9 x14.length) then
 (bif a8 then F120 uu ((x14.getD a9.toNat .bad).fld 3).asList else some false).bind fun y18=>
 some (.inl ((),(bif a8 then y18 else false),(IntKind.wrap .i64 (a9+(1:Int))),a10))
 else none
 else
 some (.inr ((),a8,a10))
def S77_8step (uu:Nat) (x:Unit×Bool×Int×PV):Option ((Unit×Bool×Int×PV)⊕((Unit×Bool×PV))):=S77_8 uu x.1 x.2.1 x.2.2.1 x.2.2.2
def F77 (uu:Nat) (a0:PV):Option (Int):=
 (F118 uu a0).bind fun y1=>
 bif (!y1) then
 some (8:Int)
 else
 (F119 uu a0).bind fun y3=>
 bif (!y3) then
 some (1:Int)
 else
 (F120 uu ((a0.fld 2).asList)).bind fun y6=>
 (aaf uu (S77_8step uu) ((),y6,(0:Int),a0)).bind fun y21=>
 bif (!y21.2.1) then
 some (7:Int)
 else
 (F121 uu y21.2.2).bind fun y25=>
 bif (y25 != (0:Int)) then
 some y25
 else
 (F122 uu y21.2.2).bind fun y28=>
 let x29:=!y28
 (bif !x29 then F78 uu y21.2.2 else some []).bind fun y31=>
 bif (bif x29 then true else (decide ((y31.length:Int)>(16384:Int)))) then
 some (3:Int)
 else
 some (0:Int)
def S77_8l (uu:Nat):LoopE:=⟨8,⟨[1,3,4],bx33,sv49⟩,[(.exit 0,⟨[1,3],bx33,sv50⟩)],S77_8step uu⟩
def F77C (uu:Nat):Cfg:=cfg Tryz.prog 48 0 [F118c uu,F119c uu,F120c uu,F121c uu,F122c uu,F78c uu] [S77_8l uu] uu
def F77c (uu:Nat):CallE:=⟨77,⟨1,[],[(.data 124)]⟩,⟨1,[],[(.int .i64)]⟩,fun x=>F77 uu x,0⟩
theorem F77k (uu:Nat):aai (F77C uu):=aac (qc (F118ok uu)<|qc (F119ok uu)<|qc (F120ok uu)<|qc (F121ok uu)<|qc (F122ok uu)<|qc (F78ok uu)<|q0) (p0)
theorem S77_8ok (uu:Nat):LoopOk (F77C uu) (lp (aag Tryz.f77) 0):=okL (F77k uu) uu (S77_8l uu) L0
theorem F77ok (uu:Nat):(F77c uu).Ok Tryz.prog:=okE Tryz.f77 (F77k uu) (L1 (S77_8ok uu))
def F52 (uu:Nat) (a0:PV):Option ((List UInt8)):=
 (F77 uu a0).bind fun y1=>
 bif (y1 != (0:Int)) then
 some ([]:List UInt8)
 else
 (F78 uu a0).bind fun y3=>
 some y3
def F52c (uu:Nat):CallE:=⟨52,⟨1,[],[(.data 124)]⟩,⟨1,[],[.str]⟩,fun x=>F52 uu x,[]⟩
theorem F52ok (uu:Nat):(F52c uu).Ok Tryz.prog:=okJ Tryz.f52 8 0 uu _ [] false (qc (F77ok uu)<|qc (F78ok uu)<|q0) (p0) L0
def F39 (uu:Nat) (a0:PV):Option ((List UInt8)):=
 (F36 uu a0).bind fun y1=>
 bif (!y1) then
 some ([]:List UInt8)
 else
 (F38 uu a0).bind fun y3=>
 (F53 uu y3).bind fun y4=>
 (F52 uu y4).bind fun y5=>
 some y5
def F39c (uu:Nat):CallE:=⟨39,⟨1,[],[(.data 39)]⟩,⟨1,[],[.str]⟩,fun x=>F39 uu x,[]⟩
theorem F39ok (uu:Nat):(F39c uu).Ok Tryz.prog:=okJ Tryz.f39 10 0 uu _ [] false (qc (F36ok uu)<|qc (F38ok uu)<|qc (F53ok uu)<|qc (F52ok uu)<|q0) (p0) L0
abbrev S46_4x:=(List UInt8)×Int×Int
abbrev S46_4y:=(Int)
def S46_4 (uu:Nat) (a1:List UInt8) (a2:Int) (a3:Int):Option (S46_4x⊕S46_4y):=
 bif (decide (a3<(a1.length:Int))) then
 bif aaa a3 a1.length then
 some (.inl (a1,(IntKind.wrap .u64 ((a1w .xor .u64 a2 (IntKind.wrap .u64 ((a1.getD a3.toNat 0).toNat:Int)))*(1099511628211:Int))),(IntKind.wrap .i64 (a3+(1:Int)))))
 else none
 else
 some (.inr a2)
def S46_4step (uu:Nat) (x:S46_4x):Option (S46_4x⊕S46_4y):=S46_4 uu x.1 x.2.1 x.2.2
def F46 (uu:Nat) (a0:List UInt8):Option (Int):=
 (aaf uu (S46_4step uu) (a0,(14695981039346656037:Int),(0:Int))).bind fun y11=>
 some y11
def S46_4l (uu:Nat):LoopE:=⟨4,⟨[0,3,4],[],[.str,(.int .u64),(.int .i64)]⟩,[(.exit 0,⟨[3],[],[(.int .u64)]⟩)],S46_4step uu⟩
def F46C (uu:Nat):Cfg:=cfg Tryz.prog 19 0 [] [S46_4l uu] uu
def F46c (uu:Nat):CallE:=⟨46,⟨1,[],[.str]⟩,⟨1,[],[(.int .u64)]⟩,fun x=>F46 uu x,0⟩
theorem F46k (uu:Nat):aai (F46C uu):=aac (q0) (p0)
theorem S46_4ok (uu:Nat):LoopOk (F46C uu) (lp (aag Tryz.f46) 0):=okL (F46k uu) uu (S46_4l uu) L0
theorem F46ok (uu:Nat):(F46c uu).Ok Tryz.prog:=okE Tryz.f46 (F46k uu) (L1 (S46_4ok uu))
def F35 (uu:Nat) (a0:PV):Option (Int):=
 (F39 uu a0).bind fun y1=>
 (F46 uu y1).bind fun y2=>
 some y2
def F35c (uu:Nat):CallE:=⟨35,⟨1,[],[(.data 39)]⟩,⟨1,[],[(.int .u64)]⟩,fun x=>F35 uu x,0⟩
theorem F35ok (uu:Nat):(F35c uu).Ok Tryz.prog:=okJ Tryz.f35 6 0 uu _ [] false (qc (F39ok uu)<|qc (F46ok uu)<|q0) (p0) L0
abbrev S114_5x:=(List PV)×(List PV)×Int
abbrev S114_5y:=(Bool)⊕(Unit)
def S114_5 (uu:Nat) (a4:List PV) (a5:List PV) (a6:Int):Option (S114_5x⊕S114_5y):=
 bif (decide (a6<(a4.length:Int))) then
 bif aaa a6 a4.length then
 bif aaa a6 a5.length then
 let x15:=((a4.getD a6.toNat .bad).fld 0).asInt != ((a5.getD a6.toNat .bad).fld 0).asInt
 bif imp (!x15) (aaa a6 a4.length) then
 bif imp (!x15) (aaa a6 a5.length) then
 bif (bif x15 then true else (((a4.getD a6.toNat .bad).fld 1).asInt != ((a5.getD a6.toNat .bad).fld 1).asInt)) then
 some (.inr (.inl false))
 else
 some (.inl (a4,a5,(IntKind.wrap .i64 (a6+(1:Int)))))
 else none
 else none
 else none
 else none
 else
 some (.inr (.inr ()))
def S114_5step (uu:Nat) (x:S114_5x):Option (S114_5x⊕S114_5y):=S114_5 uu x.1 x.2.1 x.2.2
def F114 (uu:Nat) (a0:List PV) (a1:List PV):Option (Bool):=
 bif ((a0.length:Int) != (a1.length:Int)) then
 some false
 else
 (aaf uu (S114_5step uu) (a0,a1,(0:Int))).bind fun z=>sumE (fun y25=>
 some y25
 ) (fun y26=>
 some true
 ) z
def S114_5l (uu:Nat):LoopE:=⟨5,⟨[0,1,5],[],(.slice 219)::sv33⟩,[(.ret,⟨[4],[],[.bool]⟩),(.exit 0,⟨[],[],[]⟩)],S114_5step uu⟩
def F114C (uu:Nat):Cfg:=cfg Tryz.prog 41 0 [] [S114_5l uu] uu
def F114c (uu:Nat):CallE:=⟨114,⟨2,[],[(.slice 219),(.slice 219)]⟩,⟨1,[],[.bool]⟩,fun x=>F114 uu x.1 x.2,false⟩
theorem F114k (uu:Nat):aai (F114C uu):=aac (q0) (p0)
theorem S114_5ok (uu:Nat):LoopOk (F114C uu) (lp (aag Tryz.f114) 0):=okL (F114k uu) uu (S114_5l uu) L0
theorem F114ok (uu:Nat):(F114c uu).Ok Tryz.prog:=okE Tryz.f114 (F114k uu) (L1 (S114_5ok uu))
abbrev S115_5x:=(List PV)×(List PV)×Int
abbrev S115_5y:=(Bool)⊕(Unit)
def S115_5 (uu:Nat) (a4:List PV) (a5:List PV) (a6:Int):Option (S115_5x⊕S115_5y):=
 bif (decide (a6<(a4.length:Int))) then
 bif aaa a6 a4.length then
 bif aaa a6 a5.length then
 bif (!((a4.getD a6.toNat .bad).asStr==(a5.getD a6.toNat .bad).asStr)) then
 some (.inr (.inl false))
 else
 some (.inl (a4,a5,(IntKind.wrap .i64 (a6+(1:Int)))))
 else none
 else none
 else
 some (.inr (.inr ()))
def S115_5step (uu:Nat) (x:S115_5x):Option (S115_5x⊕S115_5y):=S115_5 uu x.1 x.2.1 x.2.2
def F115 (uu:Nat) (a0:List PV) (a1:List PV):Option (Bool):=
 bif ((a0.length:Int) != (a1.length:Int)) then
 some false
 else
 (aaf uu (S115_5step uu) (a0,a1,(0:Int))).bind fun z=>sumE (fun y15=>
 some y15
 ) (fun y16=>
 some true
 ) z
def S115_5l (uu:Nat):LoopE:=⟨5,⟨[0,1,5],[],(.slice 9)::sv27⟩,[(.ret,⟨[4],[],[.bool]⟩),(.exit 0,⟨[],[],[]⟩)],S115_5step uu⟩
def F115C (uu:Nat):Cfg:=cfg Tryz.prog 26 0 [] [S115_5l uu] uu
def F115c (uu:Nat):CallE:=⟨115,⟨2,[],[(.slice 9),(.slice 9)]⟩,⟨1,[],[.bool]⟩,fun x=>F115 uu x.1 x.2,false⟩
theorem F115k (uu:Nat):aai (F115C uu):=aac (q0) (p0)
theorem S115_5ok (uu:Nat):LoopOk (F115C uu) (lp (aag Tryz.f115) 0):=okL (F115k uu) uu (S115_5l uu) L0
theorem F115ok (uu:Nat):(F115c uu).Ok Tryz.prog:=okE Tryz.f115 (F115k uu) (L1 (S115_5ok uu))
def B145c (r:(PV×PV)->Option (Bool)):CallE:=⟨145,⟨2,[],sv35⟩,⟨1,[],[.bool]⟩,r,false⟩
abbrev B145_5x:=Unit×Unit×Int×PV×PV
abbrev B145_5y:=(Bool×PV×PV)⊕(Unit×Unit×PV×PV)
def B145_5 (uu:Nat) (r0:(PV×PV)->Option (Bool)) (a36:Unit) (a37:Unit) (a38:Int) (a39:PV) (a40:PV):Option (B145_5x⊕B145_5y):=
 bif (decide (a38<(((a39.fld 3).asList).length:Int))) then
 let x44:=(a39.fld 3).asList
 bif aaa a38 x44.length then
 let x46:=(a40.fld 3).asList
 bif aaa a38 x46.length then
 (r0 ((x44.getD a38.toNat .bad),(x46.getD a38.toNat .bad))).bind fun y48=>
 bif (!y48) then
 some (.inr (.inl (false,a39,a40)))
 else
 some (.inl ((),(),(IntKind.wrap .i64 (a38+(1:Int))),a39,a40))
 else none
 else none
 else
 some (.inr (.inr ((),(),a39,a40)))
def B145_5step (uu:Nat) (r0:(PV×PV)->Option (Bool)) (x:B145_5x):Option (B145_5x⊕B145_5y):=B145_5 uu r0 x.1 x.2.1 x.2.2.1 x.2.2.2.1 x.2.2.2.2
abbrev B145_10x:=Unit×Unit×Int×PV×PV
abbrev B145_10y:=(Bool×PV×PV)⊕(Unit×Unit×PV×PV)
def B145_10 (uu:Nat) (r0:(PV×PV)->Option (Bool)) (a53:Unit) (a54:Unit) (a55:Int) (a56:PV) (a57:PV):Option (B145_10x⊕B145_10y):=
 bif (decide (a55<(((a56.fld 4).asList).length:Int))) then
 let x61:=(a56.fld 4).asList
 bif aaa a55 x61.length then
 let x64:=(a57.fld 4).asList
 bif aaa a55 x64.length then
 (r0 (((x61.getD a55.toNat .bad).fld 0),((x64.getD a55.toNat .bad).fld 0))).bind fun y67=>
 let x68:=!y67
 let x69:=(a56.fld 4).asList
 bif imp (!x68) (aaa a55 x69.length) then
 let x72:=(a57.fld 4).asList
 bif imp (!x68) (aaa a55 x72.length) then
 (bif !x68 then r0 (((x69.getD a55.toNat .bad).fld 1),((x72.getD a55.toNat .bad).fld 1)) else some false).bind fun y75=>
 bif (bif x68 then true else (!y75)) then
 some (.inr (.inl (false,a56,a57)))
 else
 some (.inl ((),(),(IntKind.wrap .i64 (a55+(1:Int))),a56,a57))
 else none
 else none
 else none
 else none
 else
 some (.inr (.inr ((),(),a56,a57)))
def B145_10step (uu:Nat) (r0:(PV×PV)->Option (Bool)) (x:B145_10x):Option (B145_10x⊕B145_10y):=B145_10 uu r0 x.1 x.2.1 x.2.2.1 x.2.2.2.1 x.2.2.2.2
abbrev B145_15x:=Unit×Unit×Int×PV×PV
abbrev B145_15y:=(Bool×PV×PV)⊕(Unit×Unit×PV×PV)
def B145_15 (uu:Nat) (r0:(PV×PV)->Option (Bool)) (a81:Unit) (a82:Unit) (a83:Int) (a84:PV) (a85:PV):Option (B145_15x⊕B145_15y):=
 bif (decide (a83<(((a84.fld 5).asList).length:Int))) then
 let x89:=(a84.fld 5).asList
 bif aaa a83 x89.length then
 let x93:=(a85.fld 5).asList
 bif aaa a83 x93.length then
 let x97:=((x89.getD a83.toNat .bad).fld 0).asInt != ((x93.getD a83.toNat .bad).fld 0).asInt
 let x98:=(a84.fld 5).asList
 bif imp (!x97) (aaa a83 x98.length) then
 let x101:=(a85.fld 5).asList
 bif imp (!x97) (aaa a83 x101.length) then
 (bif !x97 then r0 (((x98.getD a83.toNat .bad).fld 1),((x101.getD a83.toNat .bad).fld 1)) else some false).bind fun y104=>
 bif (bif x97 then true else (!y104)) then
 some (.inr (.inl (false,a84,a85)))
 else
 some (.inl ((),(),(IntKind.wrap .i64 (a83+(1:Int))),a84,a85))
 else none
 else none
 else none
 else none
 else
 some (.inr (.inr ((),(),a84,a85)))
def B145_15step (uu:Nat) (r0:(PV×PV)->Option (Bool)) (x:B145_15x):Option (B145_15x⊕B145_15y):=B145_15 uu r0 x.1 x.2.1 x.2.2.1 x.2.2.2.1 x.2.2.2.2
abbrev B145_20x:=Unit×Unit×Int×PV×PV
abbrev B145_20y:=(Bool×PV×PV)⊕(PV×PV)
def B145_20 (uu:Nat) (r0:(PV×PV)->Option (Bool)) (a110:Unit) (a111:Unit) (a112:Int) (a113:PV) (a114:PV):Option (B145_20x⊕B145_20y):=
 bif (decide (a112<(((a113.fld 6).asList).length:Int))) then
 let x118:=(a113.fld 6).asList
 bif aaa a112 x118.length then
 let x119:=x118.getD a112.toNat .bad
 let x120:=(a114.fld 6).asList
 bif aaa a112 x120.length then
 let x121:=x120.getD a112.toNat .bad
 let x122:=!(bif ((x119.fld 0).asInt)==((x121.fld 0).asInt) then (bif ((x119.fld 1).asInt)==((x121.fld 1).asInt) then (bif ((x119.fld 2).asInt)==((x121.fld 2).asInt) then (bif ((x119.fld 3).asStr)==((x121.fld 3).asStr) then true else false) else false) else false) else false)
 bif x122 then
 some (.inr (.inl (false,a113,a114)))
 else
 some (.inl ((),(),(IntKind.wrap .i64 (a112+(1:Int))),a113,a114))
 else none
 else none
 else
 some (.inr (.inr (a113,a114)))
def B145_20step (uu:Nat) (r0:(PV×PV)->Option (Bool)) (x:B145_20x):Option (B145_20x⊕B145_20y):=B145_20 uu r0 x.1 x.2.1 x.2.2.1 x.2.2.2.1 x.2.2.2.2
def B145 (uu:Nat) (r0:(PV×PV)->Option (Bool)) (a0:PV) (a1:PV):Option (Bool):=
 bif (bif (bif (bif (bif (bif (bif (((a0.fld 0).asInt) != ((a1.fld 0).asInt)) then true else (((a0.fld 1).asInt) != ((a1.fld 1).asInt))) then true else (!(((a0.fld 2).asStr)==((a1.fld 2).asStr)))) then true else ((((a0.fld 3).asList).length:Int) != (((a1.fld 3).asList).length:Int))) then true else ((((a0.fld 4).asList).length:Int) != (((a1.fld 4).asList).length:Int))) then true else ((((a0.fld 5).asList).length:Int) != (((a1.fld 5).asList).length:Int))) then true else ((((a0.fld 6).asList).length:Int) != (((a1.fld 6).asList).length:Int))) then
 some false
 else
 (aaf uu (B145_5step uu r0) ((),(),(0:Int),a0,a1)).bind fun z=>sumE (fun y51=>
 some y51.1
 ) (fun y52=>
 (aaf uu (B145_10step uu r0) ((),(),(0:Int),y52.2.2.1,y52.2.2.2)).bind fun z=>sumE (fun y79=>
 some y79.1
 ) (fun y80=>
 (aaf uu (B145_15step uu r0) ((),(),(0:Int),y80.2.2.1,y80.2.2.2)).bind fun z=>sumE (fun y108=>
 some y108.1
 ) (fun y109=>
 (aaf uu (B145_20step uu r0) ((),(),(0:Int),y109.2.2.1,y109.2.2.2)).bind fun z=>sumE (fun y124=>
 some y124.1
 ) (fun y125=>
 some true
 ) z
 ) z
 ) z
 ) z
def B145_5l (uu:Nat) (r0:(PV×PV)->Option (Bool)):LoopE:=⟨5,⟨[2,3,5],bx34,sv59⟩,[(.ret,⟨[4],bx34,sv60⟩),(.exit 0,⟨[2,3],bx34,sv61⟩)],B145_5step uu r0⟩
def B145_10l (uu:Nat) (r0:(PV×PV)->Option (Bool)):LoopE:=⟨10,⟨[2,3,6],bx34,sv59⟩,[(.ret,⟨[4],bx34,sv60⟩),(.exit 2,⟨[2,3],bx34,sv61⟩)],B145_10step uu r0⟩
def B145_15l (uu:Nat) (r0:(PV×PV)->Option (Bool)):LoopE:=⟨15,⟨[2,3,7],bx34,sv59⟩,[(.ret,⟨[4],bx34,sv60⟩),(.exit 4,⟨[2,3],bx34,sv61⟩)],B145_15step uu r0⟩
def B145_20l (uu:Nat) (r0:(PV×PV)->Option (Bool)):LoopE:=⟨20,⟨[2,3,8],bx34,sv59⟩,[(.ret,⟨[4],bx34,sv60⟩),(.exit 6,⟨[],bx34,sv35⟩)],B145_20step uu r0⟩
def B145C (uu:Nat) (r0:(PV×PV)->Option (Bool)):Cfg:=cfg Tryz.prog 174 0 [B145c r0] [B145_5l uu r0,B145_10l uu r0,B145_15l uu r0,B145_20l uu r0] uu
theorem B145k (uu:Nat) (r0:(PV×PV)->Option (Bool)) (h0:(B145c r0).Ok Tryz.prog):aai (B145C uu r0):=aac (qc h0<|q0) (p0)
theorem B145_5ok (uu:Nat) (r0:(PV×PV)->Option (Bool)) (h0:(B145c r0).Ok Tryz.prog):LoopOk (B145C uu r0) (lp (aag Tryz.f145) 0):=okL (B145k uu r0 h0) uu (B145_5l uu r0) L0
theorem B145_10ok (uu:Nat) (r0:(PV×PV)->Option (Bool)) (h0:(B145c r0).Ok Tryz.prog):LoopOk (B145C uu r0) (lp (aag Tryz.f145) 1):=okL (B145k uu r0 h0) uu (B145_10l uu r0) L0
theorem B145_15ok (uu:Nat) (r0:(PV×PV)->Option (Bool)) (h0:(B145c r0).Ok Tryz.prog):LoopOk (B145C uu r0) (lp (aag Tryz.f145) 2):=okL (B145k uu r0 h0) uu (B145_15l uu r0) L0
theorem B145_20ok (uu:Nat) (r0:(PV×PV)->Option (Bool)) (h0:(B145c r0).Ok Tryz.prog):LoopOk (B145C uu r0) (lp (aag Tryz.f145) 3):=okL (B145k uu r0 h0) uu (B145_20l uu r0) L0
theorem B145ok (uu:Nat) (r0:(PV×PV)->Option (Bool)) (h0:(B145c r0).Ok Tryz.prog):(B145c (fun x=>B145 uu r0 x.1 x.2)).Ok Tryz.prog:=okE Tryz.f145 (B145k uu r0 h0) (L4 (B145_5ok uu r0 h0) (B145_10ok uu r0 h0) (B145_15ok uu r0 h0) (B145_20ok uu r0 h0))
def G145 (uu:Nat):Nat->((PV×PV)->Option (Bool))
 | 0=>fun _=>none
 | d+1=>fun x=>B145 uu (G145 uu d) x.1 x.2
theorem G145ok (uu:Nat):∀ d,(B145c (G145 uu d)).Ok Tryz.prog
 | 0=>av2
 | d+1=>B145ok uu (G145 uu d) (G145ok uu d)
def F145 (uu:Nat) (a0:PV) (a1:PV):Option (Bool):=limQ uu (fun d=>(G145 uu d)) (a0,a1)
def F145c (uu:Nat):CallE:=⟨145,⟨2,[],sv35⟩,⟨1,[],[.bool]⟩,fun x=>F145 uu x.1 x.2,false⟩
theorem F145ok (uu:Nat):(F145c uu).Ok Tryz.prog:=a7l (F145c uu) (G:=(fun d=>(G145 uu d))) (fun x=>rfl) (fun d=>(G145ok uu d))
abbrev S116_5x:=(List PV)×(List PV)×Int
abbrev S116_5y:=(Bool)⊕(Unit)
def S116_5 (uu:Nat) (a4:List PV) (a5:List PV) (a6:Int):Option (S116_5x⊕S116_5y):=
 bif (decide (a6<(a4.length:Int))) then
 bif aaa a6 a4.length then
 bif aaa a6 a5.length then
 let x15:=!(((a4.getD a6.toNat .bad).fld 0).asStr==((a5.getD a6.toNat .bad).fld 0).asStr)
 bif imp (!x15) (aaa a6 a4.length) then
 bif imp (!x15) (aaa a6 a5.length) then
 (bif !x15 then F145 uu ((a4.getD a6.toNat .bad).fld 1) ((a5.getD a6.toNat .bad).fld 1) else some false).bind fun y20=>
 bif (bif x15 then true else (!y20)) then
 some (.inr (.inl false))
 else
 some (.inl (a4,a5,(IntKind.wrap .i64 (a6+(1:Int)))))
 else none
 else none
 else none
 else none
 else
 some (.inr (.inr ()))
def S116_5step (uu:Nat) (x:S116_5x):Option (S116_5x⊕S116_5y):=S116_5 uu x.1 x.2.1 x.2.2
def F116 (uu:Nat) (a0:List PV) (a1:List PV):Option (Bool):=
 bif ((a0.length:Int) != (a1.length:Int)) then
 some false
 else
 (aaf uu (S116_5step uu) (a0,a1,(0:Int))).bind fun z=>sumE (fun y24=>
 some y24
 ) (fun y25=>
 some true
 ) z
def S116_5l (uu:Nat):LoopE:=⟨5,⟨[0,1,5],[],[(.slice 65),(.slice 65),(.int .i64)]⟩,[(.ret,⟨[4],[],[.bool]⟩),(.exit 0,⟨[],[],[]⟩)],S116_5step uu⟩
def F116C (uu:Nat):Cfg:=cfg Tryz.prog 42 0 [F145c uu] [S116_5l uu] uu
def F116c (uu:Nat):CallE:=⟨116,⟨2,[],[(.slice 65),(.slice 65)]⟩,⟨1,[],[.bool]⟩,fun x=>F116 uu x.1 x.2,false⟩
theorem F116k (uu:Nat):aai (F116C uu):=aac (qc (F145ok uu)<|q0) (p0)
theorem S116_5ok (uu:Nat):LoopOk (F116C uu) (lp (aag Tryz.f116) 0):=okL (F116k uu) uu (S116_5l uu) L0
theorem F116ok (uu:Nat):(F116c uu).Ok Tryz.prog:=okE Tryz.f116 (F116k uu) (L1 (S116_5ok uu))
def F117 (uu:Nat) (a0:PV) (a1:PV):Option (Bool):=
 let x31:=bif (bif (bif (bif (bif (bif (bif (((a0.fld 0).asInt)==((a1.fld 0).asInt)) then (((a0.fld 1).asStr)==((a1.fld 1).asStr)) else false) then (((a0.fld 2).asInt)==((a1.fld 2).asInt)) else false) then (((a0.fld 3).asInt)==((a1.fld 3).asInt)) else false) then ((((a0.fld 4).fld 0).asInt)==(((a1.fld 4).fld 0).asInt)) else false) then ((((a0.fld 4).fld 1).asStr)==(((a1.fld 4).fld 1).asStr)) else false) then (((a0.fld 5).asStr)==((a1.fld 5).asStr)) else false) then (((a0.fld 6).asBool)==((a1.fld 6).asBool)) else false
 (bif x31 then F145 uu (a0.fld 7) (a1.fld 7) else some false).bind fun y34=>
 let x35:=bif x31 then y34 else false
 (bif x35 then F116 uu ((a0.fld 8).asList) ((a1.fld 8).asList) else some false).bind fun y38=>
 some (bif x35 then y38 else false)
def F117c (uu:Nat):CallE:=⟨117,⟨2,[],[(.data 68),(.data 68)]⟩,⟨1,[],[.bool]⟩,fun x=>F117 uu x.1 x.2,false⟩
theorem F117ok (uu:Nat):(F117c uu).Ok Tryz.prog:=okJ Tryz.f117 77 0 uu _ [] false (qc (F145ok uu)<|qc (F116ok uu)<|q0) (p0) L0
abbrev S73_5x:=Unit×Unit×Int×PV×PV
abbrev S73_5y:=(Bool×PV×PV)⊕(PV×PV)
def S73_5 (uu:Nat) (a25:Unit) (a26:Unit) (a27:Int) (a28:PV) (a29:PV):Option (S73_5x⊕S73_5y):=
 bif (decide (a27<(((a28.fld 1).asList).length:Int))) then
 let x33:=(a28.fld 1).asList
 bif aaa a27 x33.length then
 let x35:=(a29.fld 1).asList
 bif aaa a27 x35.length then
 (F117 uu (x33.getD a27.toNat .bad) (x35.getD a27.toNat .bad)).bind fun y37=>
 bif (!y37) then
 some (.inr (.inl (false,a28,a29)))
 else
 some (.inl ((),(),(IntKind.wrap .i64 (a27+(1:Int))),a28,a29))
 else none
 else none
 else
 some (.inr (.inr (a28,a29)))
def S73_5step (uu:Nat) (x:S73_5x):Option (S73_5x⊕S73_5y):=S73_5 uu x.1 x.2.1 x.2.2.1 x.2.2.2.1 x.2.2.2.2
def F73 (uu:Nat) (a0:PV) (a1:PV):Option (Bool):=
 let x9:=bif (!(((a0.fld 0).asStr)==((a1.fld 0).asStr))) then true else ((((a0.fld 1).asList).length:Int) != (((a1.fld 1).asList).length:Int))
 (bif !x9 then F114 uu ((a0.fld 2).asList) ((a1.fld 2).asList) else some false).bind fun y12=>
 let x14:=bif x9 then true else (!y12)
 (bif !x14 then F115 uu ((a0.fld 3).asList) ((a1.fld 3).asList) else some false).bind fun y17=>
 let x19:=bif x14 then true else (!y17)
 (bif !x19 then F116 uu ((a0.fld 4).asList) ((a1.fld 4).asList) else some false).bind fun y22=>
 bif (bif x19 then true else (!y22)) then
 some false
 else
 (aaf uu (S73_5step uu) ((),(),(0:Int),a0,a1)).bind fun z=>sumE (fun y40=>
 some y40.1
 ) (fun y41=>
 some true
 ) z
def S73_5l (uu:Nat):LoopE:=⟨5,⟨[2,3,5],bx35,(.con (.ref 0 [] 73))::(.con (.ref 1 [] 73))::(.int .i64)::sv62⟩,[(.ret,⟨[4],bx35,.bool::sv62⟩),(.exit 0,⟨[],bx35,sv62⟩)],S73_5step uu⟩
def F73C (uu:Nat):Cfg:=cfg Tryz.prog 63 0 [F114c uu,F115c uu,F116c uu,F117c uu] [S73_5l uu] uu
def F73c (uu:Nat):CallE:=⟨73,⟨2,[],sv62⟩,⟨1,[],[.bool]⟩,fun x=>F73 uu x.1 x.2,false⟩
theorem F73k (uu:Nat):aai (F73C uu):=aac (qc (F114ok uu)<|qc (F115ok uu)<|qc (F116ok uu)<|qc (F117ok uu)<|q0) (p0)
theorem S73_5ok (uu:Nat):LoopOk (F73C uu) (lp (aag Tryz.f73) 0):=okL (F73k uu) uu (S73_5l uu) L0
theorem F73ok (uu:Nat):(F73c uu).Ok Tryz.prog:=okE Tryz.f73 (F73k uu) (L1 (S73_5ok uu))
abbrev S74_5x:=Unit×Unit×Int×PV×PV
abbrev S74_5y:=(Bool×PV×PV)⊕(PV×PV)
def S74_5 (uu:Nat) (a24:Unit) (a25:Unit) (a26:Int) (a27:PV) (a28:PV):Option (S74_5x⊕S74_5y):=
 bif (decide (a26<(((a27.fld 2).asList).length:Int))) then
 let x32:=(a27.fld 2).asList
 bif aaa a26 x32.length then
 let x36:=(a28.fld 2).asList
 bif aaa a26 x36.length then
 let x40:=!(((x32.getD a26.toNat .bad).fld 0).asStr==((x36.getD a26.toNat .bad).fld 0).asStr)
 let x41:=(a27.fld 2).asList
 bif imp (!x40) (aaa a26 x41.length) then
 let x45:=(a28.fld 2).asList
 bif imp (!x40) (aaa a26 x45.length) then
 let x50:=bif x40 then true else (((x41.getD a26.toNat .bad).fld 1).asInt != ((x45.getD a26.toNat .bad).fld 1).asInt)
 let x51:=(a27.fld 2).asList
 bif imp (!x50) (aaa a26 x51.length) then
 let x55:=(a28.fld 2).asList
 bif imp (!x50) (aaa a26 x55.length) then
 (bif !x50 then F116 uu ((x51.getD a26.toNat .bad).fld 2).asList ((x55.getD a26.toNat .bad).fld 2).asList else some false).bind fun y59=>
 bif (bif x50 then true else (!y59)) then
 some (.inr (.inl (false,a27,a28)))
 else
 some (.inl ((),(),(IntKind.wrap .i64 (a26+(1:Int))),a27,a28))
 else none
 else none
 else none
 else none
 else none
 else none
 else
 some (.inr (.inr (a27,a28)))
def S74_5step (uu:Nat) (x:S74_5x):Option (S74_5x⊕S74_5y):=S74_5 uu x.1 x.2.1 x.2.2.1 x.2.2.2.1 x.2.2.2.2
def F74 (uu:Nat) (a0:PV) (a1:PV):Option (Bool):=
 let x13:=bif (bif (!(((a0.fld 0).asStr)==((a1.fld 0).asStr))) then true else (!(((a0.fld 1).asBool)==((a1.fld 1).asBool)))) then true else ((((a0.fld 2).asList).length:Int) != (((a1.fld 2).asList).length:Int))
 (bif !x13 then F114 uu ((a0.fld 3).asList) ((a1.fld 3).asList) else some false).bind fun y16=>
 let x18:=bif x13 then true else (!y16)
 (bif !x18 then F116 uu ((a0.fld 4).asList) ((a1.fld 4).asList) else some false).bind fun y21=>
 bif (bif x18 then true else (!y21)) then
 some false
 else
 (aaf uu (S74_5step uu) ((),(),(0:Int),a0,a1)).bind fun z=>sumE (fun y63=>
 some y63.1
 ) (fun y64=>
 some true
 ) z
def S74_5l (uu:Nat):LoopE:=⟨5,⟨[2,3,5],bx36,(.con (.ref 0 [] 116))::(.con (.ref 1 [] 116))::(.int .i64)::sv63⟩,[(.ret,⟨[4],bx36,.bool::sv63⟩),(.exit 0,⟨[],bx36,sv63⟩)],S74_5step uu⟩
def F74C (uu:Nat):Cfg:=cfg Tryz.prog 94 0 [F114c uu,F116c uu] [S74_5l uu] uu
def F74c (uu:Nat):CallE:=⟨74,⟨2,[],sv63⟩,⟨1,[],[.bool]⟩,fun x=>F74 uu x.1 x.2,false⟩
theorem F74k (uu:Nat):aai (F74C uu):=aac (qc (F114ok uu)<|qc (F116ok uu)<|q0) (p0)
theorem S74_5ok (uu:Nat):LoopOk (F74C uu) (lp (aag Tryz.f74) 0):=okL (F74k uu) uu (S74_5l uu) L0
theorem F74ok (uu:Nat):(F74c uu).Ok Tryz.prog:=okE Tryz.f74 (F74k uu) (L1 (S74_5ok uu))
abbrev S75_5x:=Unit×Unit×Int×PV×PV
abbrev S75_5y:=(Bool×PV×PV)⊕(PV×PV)
def S75_5 (uu:Nat) (a15:Unit) (a16:Unit) (a17:Int) (a18:PV) (a19:PV):Option (S75_5x⊕S75_5y):=
 bif (decide (a17<(((a18.fld 1).asList).length:Int))) then
 let x23:=(a18.fld 1).asList
 bif aaa a17 x23.length then
 let x24:=x23.getD a17.toNat .bad
 let x25:=(a19.fld 1).asList
 bif aaa a17 x25.length then
 let x26:=x25.getD a17.toNat .bad
 let x41:=bif (bif (bif (!(((x24.fld 0).asStr)==((x26.fld 0).asStr))) then true else (!(((x24.fld 1).asStr)==((x26.fld 1).asStr)))) then true else (!(((x24.fld 2).asStr)==((x26.fld 2).asStr)))) then true else (((x24.fld 3).asInt) != ((x26.fld 3).asInt))
 (bif !x41 then F116 uu ((x24.fld 4).asList) ((x26.fld 4).asList) else some false).bind fun y44=>
 bif (bif x41 then true else (!y44)) then
 some (.inr (.inl (false,a18,a19)))
 else
 some (.inl ((),(),(IntKind.wrap .i64 (a17+(1:Int))),a18,a19))
 else none
 else none
 else
 some (.inr (.inr (a18,a19)))
def S75_5step (uu:Nat) (x:S75_5x):Option (S75_5x⊕S75_5y):=S75_5 uu x.1 x.2.1 x.2.2.1 x.2.2.2.1 x.2.2.2.2
def F75 (uu:Nat) (a0:PV) (a1:PV):Option (Bool):=
 let x9:=bif (!(((a0.fld 0).asStr)==((a1.fld 0).asStr))) then true else ((((a0.fld 1).asList).length:Int) != (((a1.fld 1).asList).length:Int))
 (bif !x9 then F116 uu ((a0.fld 2).asList) ((a1.fld 2).asList) else some false).bind fun y12=>
 bif (bif x9 then true else (!y12)) then
 some false
 else
 (aaf uu (S75_5step uu) ((),(),(0:Int),a0,a1)).bind fun z=>sumE (fun y48=>
 some y48.1
 ) (fun y49=>
 some true
 ) z
def S75_5l (uu:Nat):LoopE:=⟨5,⟨[2,3,5],bx37,(.con (.ref 0 [] 120))::(.con (.ref 1 [] 120))::(.int .i64)::sv64⟩,[(.ret,⟨[4],bx37,.bool::sv64⟩),(.exit 0,⟨[],bx37,sv64⟩)],S75_5step uu⟩
def F75C (uu:Nat):Cfg:=cfg Tryz.prog 81 0 [F116c uu] [S75_5l uu] uu
def F75c (uu:Nat):CallE:=⟨75,⟨2,[],sv64⟩,⟨1,[],[.bool]⟩,fun x=>F75 uu x.1 x.2,false⟩
theorem F75k (uu:Nat):aai (F75C uu):=aac (qc (F116ok uu)<|q0) (p0)
theorem S75_5ok (uu:Nat):LoopOk (F75C uu) (lp (aag Tryz.f75) 0):=okL (F75k uu) uu (S75_5l uu) L0
theorem F75ok (uu:Nat):(F75c uu).Ok Tryz.prog:=okE Tryz.f75 (F75k uu) (L1 (S75_5ok uu))
abbrev S48_5x:=Unit×Unit×Int×PV×PV
abbrev S48_5y:=(Bool×PV×PV)⊕(Unit×Unit×PV×PV)
def S48_5 (uu:Nat) (a18:Unit) (a19:Unit) (a20:Int) (a21:PV) (a22:PV):Option (S48_5x⊕S48_5y):=
 bif (decide (a20<(((a21.fld 0).asList).length:Int))) then
 let x26:=(a21.fld 0).asList
 bif aaa a20 x26.length then
 let x28:=(a22.fld 0).asList
 bif aaa a20 x28.length then
 (F73 uu (x26.getD a20.toNat .bad) (x28.getD a20.toNat .bad)).bind fun y30=>
 bif (!y30) then
 some (.inr (.inl (false,a21,a22)))
 else
 some (.inl ((),(),(IntKind.wrap .i64 (a20+(1:Int))),a21,a22))
 else none
 else none
 else
 some (.inr (.inr ((),(),a21,a22)))
def S48_5step (uu:Nat) (x:S48_5x):Option (S48_5x⊕S48_5y):=S48_5 uu x.1 x.2.1 x.2.2.1 x.2.2.2.1 x.2.2.2.2
abbrev S48_10x:=Unit×Unit×Int×PV×PV
abbrev S48_10y:=(Bool×PV×PV)⊕(Unit×Unit×PV×PV)
def S48_10 (uu:Nat) (a35:Unit) (a36:Unit) (a37:Int) (a38:PV) (a39:PV):Option (S48_10x⊕S48_10y):=
 bif (decide (a37<(((a38.fld 1).asList).length:Int))) then
 let x43:=(a38.fld 1).asList
 bif aaa a37 x43.length then
 let x45:=(a39.fld 1).asList
 bif aaa a37 x45.length then
 (F74 uu (x43.getD a37.toNat .bad) (x45.getD a37.toNat .bad)).bind fun y47=>
 bif (!y47) then
 some (.inr (.inl (false,a38,a39)))
 else
 some (.inl ((),(),(IntKind.wrap .i64 (a37+(1:Int))),a38,a39))
 else none
 else none
 else
 some (.inr (.inr ((),(),a38,a39)))
def S48_10step (uu:Nat) (x:S48_10x):Option (S48_10x⊕S48_10y):=S48_10 uu x.1 x.2.1 x.2.2.1 x.2.2.2.1 x.2.2.2.2
abbrev S48_15x:=Unit×Unit×Int×PV×PV
abbrev S48_15y:=(Bool×PV×PV)⊕(PV×PV)
def S48_15 (uu:Nat) (a52:Unit) (a53:Unit) (a54:Int) (a55:PV) (a56:PV):Option (S48_15x⊕S48_15y):=
 bif (decide (a54<(((a55.fld 2).asList).length:Int))) then
 let x60:=(a55.fld 2).asList
 bif aaa a54 x60.length then
 let x62:=(a56.fld 2).asList
 bif aaa a54 x62.length then
 (F75 uu (x60.getD a54.toNat .bad) (x62.getD a54.toNat .bad)).bind fun y64=>
 bif (!y64) then
 some (.inr (.inl (false,a55,a56)))
 else
 some (.inl ((),(),(IntKind.wrap .i64 (a54+(1:Int))),a55,a56))
 else none
 else none
 else
 some (.inr (.inr (a55,a56)))
def S48_15step (uu:Nat) (x:S48_15x):Option (S48_15x⊕S48_15y):=S48_15 uu x.1 x.2.1 x.2.2.1 x.2.2.2.1 x.2.2.2.2
def F48 (uu:Nat) (a0:PV) (a1:PV):Option (Bool):=
 bif (bif (bif ((((a0.fld 0).asList).length:Int) != (((a1.fld 0).asList).length:Int)) then true else ((((a0.fld 1).asList).length:Int) != (((a1.fld 1).asList).length:Int))) then true else ((((a0.fld 2).asList).length:Int) != (((a1.fld 2).asList).length:Int))) then
 some false
 else
 (aaf uu (S48_5step uu) ((),(),(0:Int),a0,a1)).bind fun z=>sumE (fun y33=>
 some y33.1
 ) (fun y34=>
 (aaf uu (S48_10step uu) ((),(),(0:Int),y34.2.2.1,y34.2.2.2)).bind fun z=>sumE (fun y50=>
 some y50.1
 ) (fun y51=>
 (aaf uu (S48_15step uu) ((),(),(0:Int),y51.2.2.1,y51.2.2.2)).bind fun z=>sumE (fun y67=>
 some y67.1
 ) (fun y68=>
 some true
 ) z
 ) z
 ) z
def S48_5l (uu:Nat):LoopE:=⟨5,⟨[2,3,5],bx38,sv65⟩,[(.ret,⟨[4],bx38,sv66⟩),(.exit 0,⟨[2,3],bx38,(.con (.ref 0 [] 39))::(.con (.ref 1 [] 39))::sv67⟩)],S48_5step uu⟩
def S48_10l (uu:Nat):LoopE:=⟨10,⟨[2,3,6],bx38,sv65⟩,[(.ret,⟨[4],bx38,sv66⟩),(.exit 2,⟨[2,3],bx38,(.con (.ref 0 [] 39))::(.con (.ref 1 [] 39))::sv67⟩)],S48_10step uu⟩
def S48_15l (uu:Nat):LoopE:=⟨15,⟨[2,3,7],bx38,sv65⟩,[(.ret,⟨[4],bx38,sv66⟩),(.exit 4,⟨[],bx38,sv67⟩)],S48_15step uu⟩
def F48C (uu:Nat):Cfg:=cfg Tryz.prog 90 0 [F73c uu,F74c uu,F75c uu] [S48_5l uu,S48_10l uu,S48_15l uu] uu
def F48c (uu:Nat):CallE:=⟨48,⟨2,[],sv67⟩,⟨1,[],[.bool]⟩,fun x=>F48 uu x.1 x.2,false⟩
theorem F48k (uu:Nat):aai (F48C uu):=aac (qc (F73ok uu)<|qc (F74ok uu)<|qc (F75ok uu)<|q0) (p0)
theorem S48_5ok (uu:Nat):LoopOk (F48C uu) (lp (aag Tryz.f48) 0):=okL (F48k uu) uu (S48_5l uu) L0
theorem S48_10ok (uu:Nat):LoopOk (F48C uu) (lp (aag Tryz.f48) 1):=okL (F48k uu) uu (S48_10l uu) L0
theorem S48_15ok (uu:Nat):LoopOk (F48C uu) (lp (aag Tryz.f48) 2):=okL (F48k uu) uu (S48_15l uu) L0
theorem F48ok (uu:Nat):(F48c uu).Ok Tryz.prog:=okE Tryz.f48 (F48k uu) (L3 (S48_5ok uu) (S48_10ok uu) (S48_15ok uu))
def F37 (uu:Nat) (a0:PV) (a1:PV):Option (Bool):=
 (F48 uu a0 a1).bind fun y1=>
 some y1
def F37c (uu:Nat):CallE:=⟨37,⟨2,[],sv67⟩,⟨1,[],[.bool]⟩,fun x=>F37 uu x.1 x.2,false⟩
theorem F37ok (uu:Nat):(F37c uu).Ok Tryz.prog:=okJ Tryz.f37 8 0 uu _ [] false (qc (F48ok uu)<|q0) (p0) L0
def F27 (uu:Nat) (a0:PV) (a1:PV) (a2:Int):Option (Bool):=
 bif (a2==(5:Int)) then
 (F34 uu (a1.fld 1) ((a0.fld 1).asStr)).bind fun y4=>
 some y4.2
 else
 bif (a2==(6:Int)) then
 (F35 uu (a1.fld 1)).bind fun y10=>
 some (((a1.fld 2).asInt)==y10)
 else
 (F36 uu (a1.fld 1)).bind fun y13=>
 (bif y13 then F38 uu (a1.fld 1) else some PV.bad).bind fun y16=>
 (bif y13 then F37 uu (a1.fld 1) y16 else some false).bind fun y17=>
 let x18:=bif y13 then y17 else false
 (bif x18 then F39 uu (a1.fld 1) else some []).bind fun y20=>
 some (bif x18 then (!(y20==([]:List UInt8))) else false)
def F27c (uu:Nat):CallE:=⟨27,⟨3,[],[(.data 48),(.data 42),(.int .i64)]⟩,⟨1,[],[.bool]⟩,fun x=>F27 uu x.1 x.2.1 x.2.2,false⟩
theorem F27ok (uu:Nat):(F27c uu).Ok Tryz.prog:=okJ Tryz.f27 46 0 uu _ [] false (qc (F34ok uu)<|qc (F35ok uu)<|qc (F36ok uu)<|qc (F38ok uu)<|qc (F37ok uu)<|qc (F39ok uu)<|q0) (p0) L0
abbrev S16_6x:=Int×Unit×Int×Int×PV
abbrev S16_6y:=(Bool×PV)⊕(Int×Unit×Int×PV)
def S16_6 (uu:Nat) (a8:Int) (a9:Unit) (a10:Int) (a11:Int) (a12:PV):Option (S16_6x⊕S16_6y):=
 let x13:=(a12.fld 1).asList
 bif aaa a10 x13.length then
 bif (decide (a11<(((x13.getD a10.toNat .bad).fld 4).asList.length:Int))) then
 let x19:=(a12.fld 1).asList
 bif aaa a10 x19.length then
 let x21:=(a12.fld 1).asList
 bif aaa a10 x21.length then
 let x24:=((x21.getD a10.toNat .bad).fld 4).asList
 bif aaa a11 x24.length then
 (F27 uu (x19.getD a10.toNat .bad) (x24.getD a11.toNat .bad) a8).bind fun y26=>
 bif (!y26) then
 some (.inr (.inl (false,a12)))
 else
 some (.inl (a8,(),a10,(IntKind.wrap .i64 (a11+(1:Int))),a12))
 else none
 else none
 else none
 else
 some (.inr (.inr (a8,(),a10,a12)))
 else none
def S16_6step (uu:Nat) (x:S16_6x):Option (S16_6x⊕S16_6y):=S16_6 uu x.1 x.2.1 x.2.2.1 x.2.2.2.1 x.2.2.2.2
def S16_3 (uu:Nat) (a1:Int) (a2:Unit) (a3:Int) (a4:PV):Option ((Int×Unit×Int×PV)⊕((Bool×PV)⊕(PV))):=
 bif (decide (a3<(((a4.fld 1).asList).length:Int))) then
 (aaf uu (S16_6step uu) (a1,(),a3,(0:Int),a4)).bind fun z=>sumE (fun y29=>
 some (.inr (.inl (y29.1,y29.2)))
 ) (fun y30=>
 some (.inl (y30.1,(),(IntKind.wrap .i64 (y30.2.2.1+(1:Int))),y30.2.2.2))
 ) z
 else
 some (.inr (.inr a4))
def S16_3step (uu:Nat) (x:Int×Unit×Int×PV):Option ((Int×Unit×Int×PV)⊕((Bool×PV)⊕(PV))):=S16_3 uu x.1 x.2.1 x.2.2.1 x.2.2.2
def F16 (uu:Nat) (a0:PV) (a1:Int):Option (Bool):=
 (aaf uu (S16_3step uu) (a1,(),(0:Int),a0)).bind fun z=>sumE (fun y33=>
 some y33.1
 ) (fun y34=>
 some true
 ) z
def S16_6l (uu:Nat):LoopE:=⟨6,⟨[1,2,5,6],bx9,(.int .i64)::(.con (.ref 0 [] 24))::sv12⟩,[(.ret,⟨[4],bx9,sv13⟩),(.exit 2,⟨[1,2,5],bx9,(.int .i64)::sv18⟩)],S16_6step uu⟩
def S16_3l (uu:Nat):LoopE:=⟨3,⟨[1,2,5],bx9,(.int .i64)::sv18⟩,[(.ret,⟨[4],bx9,sv13⟩),(.exit 0,⟨[],bx9,[(.data 24)]⟩)],S16_3step uu⟩
def F16C (uu:Nat):Cfg:=cfg Tryz.prog 42 0 [F27c uu] [S16_6l uu,S16_3l uu] uu
def F16c (uu:Nat):CallE:=⟨16,⟨2,[],sv16⟩,⟨1,[],[.bool]⟩,fun x=>F16 uu x.1 x.2,false⟩
theorem F16k (uu:Nat):aai (F16C uu):=aac (qc (F27ok uu)<|q0) (p0)
theorem S16_6ok (uu:Nat):LoopOk (F16C uu) (lp (lp (aag Tryz.f16) 0) 0):=okL (F16k uu) uu (S16_6l uu) L0
theorem S16_3ok (uu:Nat):LoopOk (F16C uu) (lp (aag Tryz.f16) 0):=okL (F16k uu) uu (S16_3l uu) (L1 (S16_6ok uu))
theorem F16ok (uu:Nat):(F16c uu).Ok Tryz.prog:=okE Tryz.f16 (F16k uu) (L1 (S16_3ok uu))
def S5_7 (uu:Nat) (a4:Unit) (a5:Int) (a6:PV):Option ((Unit×Int×PV)⊕((Int×PV)⊕(Unit×PV))):=
 bif (decide (a5<(((a6.fld 1).asList).length:Int))) then
 let x10:=(a6.fld 1).asList
 bif aaa a5 x10.length then
 (F14 uu ((x10.getD a5.toNat .bad).fld 0).asStr).bind fun y14=>
 let x15:=!y14
 let x16:=(a6.fld 1).asList
 bif imp (!x15) (aaa a5 x16.length) then
 (bif !x15 then F14 uu ((x16.getD a5.toNat .bad).fld 1).asStr else some false).bind fun y20=>
 bif (bif x15 then true else (!y20)) then
 some (.inr (.inl ((8:Int),a6)))
 else
 some (.inl ((),(IntKind.wrap .i64 (a5+(1:Int))),a6))
 else none
 else none
 else
 some (.inr (.inr ((),a6)))
def S5_7step (uu:Nat) (x:Unit×Int×PV):Option ((Unit×Int×PV)⊕((Int×PV)⊕(Unit×PV))):=S5_7 uu x.1 x.2.1 x.2.2
def S5_14 (uu:Nat) (a28:Unit) (a29:Int) (a30:PV):Option ((Unit×Int×PV)⊕((Int×PV)⊕(Unit×PV))):=
 bif (decide (a29<(((a30.fld 1).asList).length:Int))) then
 let x34:=(a30.fld 1).asList
 bif aaa a29 x34.length then
 (F15 uu (x34.getD a29.toNat .bad)).bind fun y36=>
 bif (!y36) then
 some (.inr (.inl ((1:Int),a30)))
 else
 some (.inl ((),(IntKind.wrap .i64 (a29+(1:Int))),a30))
 else none
 else
 some (.inr (.inr ((),a30)))
def S5_14step (uu:Nat) (x:Unit×Int×PV):Option ((Unit×Int×PV)⊕((Int×PV)⊕(Unit×PV))):=S5_14 uu x.1 x.2.1 x.2.2
def F5 (uu:Nat) (a0:PV):Option (Int):=
 (F12 uu a0).bind fun y1=>
 bif y1 then
 some (3:Int)
 else
 (F13 uu a0).bind fun y2=>
 bif (!y2) then
 some (11:Int)
 else
 (aaf uu (S5_7step uu) ((),(0:Int),a0)).bind fun z=>sumE (fun y24=>
 some y24.1
 ) (fun y25=>
 bif (decide (((y25.2.fld 0).asInt)<(0:Int))) then
 some (1:Int)
 else
 (aaf uu (S5_14step uu) ((),(0:Int),y25.2)).bind fun z=>sumE (fun y39=>
 some y39.1
 ) (fun y40=>
 (F16 uu y40.2 (5:Int)).bind fun y42=>
 bif (!y42) then
 some (10:Int)
 else
 (F16 uu y40.2 (6:Int)).bind fun y45=>
 bif (!y45) then
 some (25:Int)
 else
 (F16 uu y40.2 (7:Int)).bind fun y48=>
 bif (!y48) then
 some (5:Int)
 else
 some (0:Int)
 ) z
 ) z
def S5_7l (uu:Nat):LoopE:=⟨7,⟨[1,3],bx9,sv18⟩,[(.ret,⟨[2],bx9,sv17⟩),(.exit 0,⟨[1],bx9,[(.con (.ref 0 [] 24)),(.data 24)]⟩)],S5_7step uu⟩
def S5_14l (uu:Nat):LoopE:=⟨14,⟨[1,4],bx9,sv18⟩,[(.ret,⟨[2],bx9,sv17⟩),(.exit 2,⟨[1],bx9,[(.con (.ref 0 [] 24)),(.data 24)]⟩)],S5_14step uu⟩
def F5C (uu:Nat):Cfg:=cfg Tryz.prog 64 0 [F12c uu,F13c uu,F14c uu,F15c uu,F16c uu] [S5_7l uu,S5_14l uu] uu
def F5c (uu:Nat):CallE:=⟨5,⟨1,[],[(.data 24)]⟩,⟨1,[],[(.int .i64)]⟩,fun x=>F5 uu x,0⟩
theorem F5k (uu:Nat):aai (F5C uu):=aac (qc (F12ok uu)<|qc (F13ok uu)<|qc (F14ok uu)<|qc (F15ok uu)<|qc (F16ok uu)<|q0) (p0)
theorem S5_7ok (uu:Nat):LoopOk (F5C uu) (lp (aag Tryz.f5) 0):=okL (F5k uu) uu (S5_7l uu) L0
theorem S5_14ok (uu:Nat):LoopOk (F5C uu) (lp (aag Tryz.f5) 1):=okL (F5k uu) uu (S5_14l uu) L0
theorem F5ok (uu:Nat):(F5c uu).Ok Tryz.prog:=okE Tryz.f5 (F5k uu) (L2 (S5_7ok uu) (S5_14ok uu))
def S18_3 (uu:Nat) (a4:Unit) (a5:Int) (a6:PV):Option ((Unit×Int×PV)⊕((Int×PV)⊕(PV))):=
 bif (decide (a5≥(0:Int))) then
 let x8:=(a6.fld 4).asList
 bif aaa a5 x8.length then
 bif (((x8.getD a5.toNat .bad).fld 3).asInt != (3:Int)) then
 some (.inr (.inl (a5,a6)))
 else
 some (.inl ((),(IntKind.wrap .i64 (a5-(1:Int))),a6))
 else none
 else
 some (.inr (.inr a6))
def S18_3step (uu:Nat) (x:Unit×Int×PV):Option ((Unit×Int×PV)⊕((Int×PV)⊕(PV))):=S18_3 uu x.1 x.2.1 x.2.2
def F18 (uu:Nat) (a0:PV):Option (Int):=
 (aaf uu (S18_3step uu) ((),(IntKind.wrap .i64 ((((a0.fld 4).asList).length:Int)-(1:Int))),a0)).bind fun z=>sumE (fun y14=>
 some y14.1
 ) (fun y15=>
 some (-1:Int)
 ) z
def S18_3l (uu:Nat):LoopE:=⟨3,⟨[1,3],bx10,(.con (.ref 0 [] 48))::sv21⟩,[(.ret,⟨[2],bx10,sv21⟩),(.exit 0,⟨[],bx10,[(.data 48)]⟩)],S18_3step uu⟩
def F18C (uu:Nat):Cfg:=cfg Tryz.prog 20 0 [] [S18_3l uu] uu
def F18c (uu:Nat):CallE:=⟨18,⟨1,[],[(.data 48)]⟩,⟨1,[],[(.int .i64)]⟩,fun x=>F18 uu x,0⟩
theorem F18k (uu:Nat):aai (F18C uu):=aac (q0) (p0)
theorem S18_3ok (uu:Nat):LoopOk (F18C uu) (lp (aag Tryz.f18) 0):=okL (F18k uu) uu (S18_3l uu) L0
theorem F18ok (uu:Nat):(F18c uu).Ok Tryz.prog:=okE Tryz.f18 (F18k uu) (L1 (S18_3ok uu))
def F6 (uu:Nat) (a0:PV) (a1:List UInt8) (a2:Int) (a3:Int):Option (PV×Int):=
 (F17 uu a0 a1 a2).bind fun y1=>
 let x2:=y1.1
 let x3:=y1.2.1
 bif (!y1.2.2) then
 some (a0,(10:Int))
 else
 let x6:=(a0.fld 1).asList
 bif aaa x2 x6.length then
 let x9:=((x6.getD x2.toNat .bad).fld 4).asList
 bif aaa x3 x9.length then
 bif (((x9.getD x3.toNat .bad).fld 3).asInt != (1:Int)) then
 some (a0,(20:Int))
 else
 bif (decide (a3<=((a0.fld 0).asInt))) then
 some (a0,(1:Int))
 else
 let x16:=(a0.fld 1).asList
 bif aaa x2 x16.length then
 (F18 uu (x16.getD x2.toNat .bad)).bind fun y18=>
 bif (y18==x3) then
 some (a0,(20:Int))
 else
 (F19 uu a0 x2 x3 (2:Int) a3).bind fun y20=>
 some (y20,(0:Int))
 else none
 else none
 else none
def F6c (uu:Nat):CallE:=⟨6,⟨4,[],(.data 24)::.str::sv15⟩,⟨2,[],sv16⟩,fun x=>F6 uu x.1 x.2.1 x.2.2.1 x.2.2.2,(PV.bad,0)⟩
theorem F6ok (uu:Nat):(F6c uu).Ok Tryz.prog:=okJ Tryz.f6 59 0 uu _ [] false (qc (F17ok uu)<|qc (F18ok uu)<|qc (F19ok uu)<|q0) (p0) L0
def F9 (uu:Nat) (a0:PV) (a1:Int):Option (PV×Int):=
 bif (decide (a1<((a0.fld 0).asInt))) then
 some (a0,(1:Int))
 else
 some ((PV.agg [(PV.int a1),(PV.slice ((a0.fld 1).asList))]),(0:Int))
def F9c (uu:Nat):CallE:=⟨9,⟨2,[],sv16⟩,⟨2,[],sv16⟩,fun x=>F9 uu x.1 x.2,(PV.bad,0)⟩
theorem F9ok (uu:Nat):(F9c uu).Ok Tryz.prog:=okJ Tryz.f9 14 0 uu [] [] false (q0) (p0) L0
abbrev S10_4x:=(List UInt8)×Int×(List PV)×Int×PV
abbrev S10_4y:=(Bool×PV)⊕(PV)
def S10_4 (uu:Nat) (a2:List UInt8) (a3:Int) (a4:List PV) (a5:Int) (a6:PV):Option (S10_4x⊕S10_4y):=
 bif (decide (a5<(a4.length:Int))) then
 bif aaa a5 a4.length then
 let x12:=((a4.getD a5.toNat .bad).fld 0).asStr==a2
 bif imp x12 (aaa a5 a4.length) then
 bif (bif x12 then (((a4.getD a5.toNat .bad).fld 1).asInt==a3) else false) then
 some (.inr (.inl (true,a6)))
 else
 some (.inl (a2,a3,a4,(IntKind.wrap .i64 (a5+(1:Int))),a6))
 else none
 else none
 else
 some (.inr (.inr a6))
def S10_4step (uu:Nat) (x:S10_4x):Option (S10_4x⊕S10_4y):=S10_4 uu x.1 x.2.1 x.2.2.1 x.2.2.2.1 x.2.2.2.2
def F10 (uu:Nat) (a0:PV) (a1:List UInt8) (a2:Int):Option (Bool):=
 (F21 uu a0).bind fun y1=>
 (aaf uu (S10_4step uu) (a1,a2,y1,(0:Int),a0)).bind fun z=>sumE (fun y19=>
 some y19.1
 ) (fun y20=>
 some false
 ) z
def S10_4l (uu:Nat):LoopE:=⟨4,⟨[1,2,7,8],bx9,.str::(.int .i64)::(.slice 79)::sv17⟩,[(.ret,⟨[6],bx9,sv13⟩),(.exit 0,⟨[],bx9,[(.data 24)]⟩)],S10_4step uu⟩
def F10C (uu:Nat):Cfg:=cfg Tryz.prog 33 0 [F21c uu] [S10_4l uu] uu
def F10c (uu:Nat):CallE:=⟨10,⟨3,[],sv14⟩,⟨1,[],[.bool]⟩,fun x=>F10 uu x.1 x.2.1 x.2.2,false⟩
theorem F10k (uu:Nat):aai (F10C uu):=aac (qc (F21ok uu)<|q0) (p0)
theorem S10_4ok (uu:Nat):LoopOk (F10C uu) (lp (aag Tryz.f10) 0):=okL (F10k uu) uu (S10_4l uu) L0
theorem F10ok (uu:Nat):(F10c uu).Ok Tryz.prog:=okE Tryz.f10 (F10k uu) (L1 (S10_4ok uu))
def F31 (uu:Nat) (a0:PV) (a1:Unit) (a2:List UInt8):Option (Bool×(List UInt8)):=
 some ((((a0.fld 0).asStr)==a2),a2)
def F31c (uu:Nat):CallE:=⟨31,⟨2,bx0,(.data 48)::sv0⟩,⟨1,bx0,[.bool,.str]⟩,fun x=>F31 uu x.1 x.2.1 x.2.2,(false,[])⟩
theorem F31ok (uu:Nat):(F31c uu).Ok Tryz.prog:=okJ Tryz.f31 8 1 uu [] [] false (q0) (p0) L0
abbrev S30_3x:=(List PV)×Unit×Int×Int×(List UInt8)
abbrev S30_3y:=(Int×(List UInt8))⊕((List UInt8))
def S30_3 (uu:Nat) (a2:List PV) (a3:Unit) (a4:Int) (a5:Int) (a6:List UInt8):Option (S30_3x⊕S30_3y):=
 bif (decide (a5<a4)) then
 bif aaa a5 a2.length then
 (F31 uu (a2.getD a5.toNat .bad) () a6).bind fun y9=>
 bif y9.1 then
 some (.inr (.inl (a5,y9.2)))
 else
 some (.inl (a2,(),a4,(IntKind.wrap .i64 (a5+(1:Int))),y9.2))
 else none
 else
 some (.inr (.inr a6))
def S30_3step (uu:Nat) (x:S30_3x):Option (S30_3x⊕S30_3y):=S30_3 uu x.1 x.2.1 x.2.2.1 x.2.2.2.1 x.2.2.2.2
def F30 (uu:Nat) (a0:List PV) (a1:Unit) (a2:List UInt8):Option (Int×(List UInt8)):=
 (aaf uu (S30_3step uu) (a0,(),(a0.length:Int),(0:Int),a2)).bind fun z=>sumE (fun y11=>
 some (y11.1,y11.2)
 ) (fun y12=>
 some ((-1:Int),y12)
 ) z
def S30_3l (uu:Nat):LoopE:=⟨3,⟨[0,1,7,8],bx0,(.slice 48)::(.con (.fn 31 0 [(.ref 0 [] 9)]))::(.int .i64)::sv3⟩,[(.ret,⟨[4],bx0,sv3⟩),(.exit 0,⟨[],bx0,[.str]⟩)],S30_3step uu⟩
def F30C (uu:Nat):Cfg:=cfg Tryz.prog 19 1 [F31c uu] [S30_3l uu] uu
def F30c (uu:Nat):CallE:=⟨30,⟨2,bx0,[(.slice 48),(.con (.fn 31 0 [(.ref 0 [] 9)])),.str]⟩,⟨1,bx0,sv3⟩,fun x=>F30 uu x.1 x.2.1 x.2.2,(0,[])⟩
theorem F30k (uu:Nat):aai (F30C uu):=aac (qc (F31ok uu)<|q0) (p0)
theorem S30_3ok (uu:Nat):LoopOk (F30C uu) (lp (aag Tryz.f30) 0):=okL (F30k uu) uu (S30_3l uu) L0
theorem F30ok (uu:Nat):(F30c uu).Ok Tryz.prog:=okE Tryz.f30 (F30k uu) (L1 (S30_3ok uu))
def F22 (uu:Nat) (a0:PV) (a1:List UInt8):Option (Int):=
 (F30 uu ((a0.fld 1).asList) () a1).bind fun y2=>
 some y2.1
def F22c (uu:Nat):CallE:=⟨22,⟨2,[],[(.data 24),.str]⟩,⟨1,[],[(.int .i64)]⟩,fun x=>F22 uu x.1 x.2,0⟩
theorem F22ok (uu:Nat):(F22c uu).Ok Tryz.prog:=okJ Tryz.f22 9 0 uu _ [] false (qc (F30ok uu)<|q0) (p0) L0
def F23 (uu:Nat) (a0:PV):Option (PV):=
 some (PV.agg [(PV.int ((a0.fld 0).asInt)),(PV.int ((a0.fld 3).asInt))])
def F23c (uu:Nat):CallE:=⟨23,⟨1,[],[(.data 42)]⟩,⟨1,[],[(.data 83)]⟩,fun x=>F23 uu x,PV.bad⟩
theorem F23ok (uu:Nat):(F23c uu).Ok Tryz.prog:=okJ Tryz.f23 8 0 uu [] [] false (q0) (p0) L0
abbrev S11_5x:=Int×Unit×(List PV)×Int×Int×PV×PV
abbrev S11_5y:=(Unit×Int×PV×PV)⊕(Unit×PV×PV)
def S11_5 (uu:Nat) (a8:Int) (a9:Unit) (a10:List PV) (a11:Int) (a12:Int) (a13:PV) (a14:PV):Option (S11_5x⊕S11_5y):=
 bif (decide (a12<a11)) then
 bif aaa a12 a10.length then
 let x16:=a10.getD a12.toNat .bad
 (F23 uu x16).bind fun y17=>
 let x19:=bif ((y17.fld 0).asInt)==a8 then (bif ((y17.fld 1).asInt)==((x16.fld 3).asInt) then true else false) else false
 bif x19 then
 some (.inr (.inl ((),(0:Int),a13,x16)))
 else
 some (.inl (a8,(),a10,a11,(IntKind.wrap .i64 (a12+(1:Int))),a13,a14))
 else none
 else
 some (.inr (.inr ((),a13,a14)))
def S11_5step (uu:Nat) (x:S11_5x):Option (S11_5x⊕S11_5y):=S11_5 uu x.1 x.2.1 x.2.2.1 x.2.2.2.1 x.2.2.2.2.1 x.2.2.2.2.2.1 x.2.2.2.2.2.2
def F11 (uu:Nat) (a0:PV) (a1:List UInt8) (a2:Int):Option (PV×Int):=
 (F22 uu a0 a1).bind fun y1=>
 bif (decide (y1≥(0:Int))) then
 let x3:=(a0.fld 1).asList
 bif aaa y1 x3.length then
 let x6:=((x3.getD y1.toNat .bad).fld 4).asList
 (aaf uu (S11_5step uu) (a2,(),x6,(x6.length:Int),(0:Int),a0,(PV.agg [(PV.int (0:Int)),(PV.agg [(PV.slice []),(PV.slice []),(PV.slice [])]),(PV.int (0:Int)),(PV.int (0:Int)),(PV.int (0:Int))]))).bind fun z=>sumE (fun y21=>
 some (y21.2.2.2,y21.2.1)
 ) (fun y22=>
 some ((PV.agg [(PV.int (0:Int)),(PV.agg [(PV.slice []),(PV.slice []),(PV.slice [])]),(PV.int (0:Int)),(PV.int (0:Int)),(PV.int (0:Int))]),(10:Int))
 ) z
 else none
 else
 some ((PV.agg [(PV.int (0:Int)),(PV.agg [(PV.slice []),(PV.slice []),(PV.slice [])]),(PV.int (0:Int)),(PV.int (0:Int)),(PV.int (0:Int))]),(10:Int))
def S11_5l (uu:Nat):LoopE:=⟨5,⟨[2,6,21,22,23],bx39,(.int .i64)::(.con (.ref 1 [] 42))::(.slice 42)::(.int .i64)::(.int .i64)::sv68⟩,[(.ret,⟨[6,7],bx39,(.con (.ref 1 [] 42))::(.int .i64)::sv68⟩),(.exit 0,⟨[6],bx39,(.con (.ref 1 [] 42))::sv68⟩)],S11_5step uu⟩
def F11C (uu:Nat):Cfg:=cfg Tryz.prog 37 0 [F22c uu,F23c uu] [S11_5l uu] uu
def F11c (uu:Nat):CallE:=⟨11,⟨3,[],sv14⟩,⟨2,[],[(.data 42),(.int .i64)]⟩,fun x=>F11 uu x.1 x.2.1 x.2.2,(PV.bad,0)⟩
theorem F11k (uu:Nat):aai (F11C uu):=aac (qc (F22ok uu)<|qc (F23ok uu)<|q0) (p0)
theorem S11_5ok (uu:Nat):LoopOk (F11C uu) (lp (aag Tryz.f11) 0):=okL (F11k uu) uu (S11_5l uu) L0
theorem F11ok (uu:Nat):(F11c uu).Ok Tryz.prog:=okE Tryz.f11 (F11k uu) (L1 (S11_5ok uu))
def F3 (uu:Nat) (a0:PV) (a1:List UInt8) (a2:PV):Option (Bool):=
 (F4 uu a0).bind fun y1=>
 let x2:=!y1
 (bif !x2 then F5 uu a0 else some 0).bind fun y3=>
 bif (bif x2 then true else (y3 != (0:Int))) then
 some true
 else
 bif aaa (0:Int) 2 then
 bif aaa (1:Int) 2 then
 (F6 uu a0 a1 ((a2.fld ((0:Int).toNat)).asInt) ((a2.fld ((1:Int).toNat)).asInt)).bind fun y8=>
 let x9:=y8.1
 bif (y8.2 != (0:Int)) then
 (aot uu).bind fun y12=>
 some y12
 else
 bif aaa (0:Int) 2 then
 (F8 uu x9 a1 ((a2.fld ((0:Int).toNat)).asInt)).bind fun y14=>
 bif aaa (1:Int) 2 then
 (F9 uu x9 ((a2.fld ((1:Int).toNat)).asInt)).bind fun y18=>
 let x19:=y18.1
 bif aaa (0:Int) 2 then
 (F8 uu x19 a1 ((a2.fld ((0:Int).toNat)).asInt)).bind fun y22=>
 let x23:=y22.1
 let x29:=bif (bif (y14.2 != (20:Int)) then true else (y18.2 != (0:Int))) then true else (y22.2 != (0:Int))
 bif imp (!x29) (aaa (0:Int) 2) then
 (bif !x29 then F10 uu x9 a1 ((a2.fld ((0:Int).toNat)).asInt) else some false).bind fun y31=>
 let x32:=bif x29 then true else y31
 bif imp (!x32) (aaa (0:Int) 2) then
 (bif !x32 then F10 uu x19 a1 ((a2.fld ((0:Int).toNat)).asInt) else some false).bind fun y34=>
 let x36:=bif x32 then true else (!y34)
 bif imp (!x36) (aaa (0:Int) 2) then
 (bif !x36 then F10 uu x23 a1 ((a2.fld ((0:Int).toNat)).asInt) else some false).bind fun y38=>
 bif (bif x36 then true else y38) then
 some false
 else
 bif aaa (0:Int) 2 then
 (F11 uu x23 a1 ((a2.fld ((0:Int).toNat)).asInt)).bind fun y41=>
 let x42:=y41.1
 let x50:=bif (bif (y41.2==(0:Int)) then (((x42.fld 3).asInt)==(3:Int)) else false) then (((x42.fld 4).asInt)==(0:Int)) else false
 (bif x50 then aot uu else some false).bind fun y51=>
 some (bif x50 then y51 else false)
 else none
 else none
 else none
 else none
 else none
 else none
 else none
 else none
 else none
def F3c (uu:Nat):CallE:=⟨3,⟨3,[],[(.data 24),.str,(.data 25)]⟩,⟨1,[],[.bool]⟩,fun x=>F3 uu x.1 x.2.1 x.2.2,false⟩
theorem F3ok (uu:Nat):(F3c uu).Ok Tryz.prog:=okJ Tryz.f3 114 0 uu _ [] false (qc (F4ok uu)<|qc (F5ok uu)<|qc (F6ok uu)<|qc (awg uu)<|qc (F8ok uu)<|qc (F9ok uu)<|qc (F10ok uu)<|qc (F11ok uu)<|q0) (p0) L0
end
end Go.Ab
