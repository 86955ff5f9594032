/- A part of the proof: lemmas on how the program runs over plain data. -/
import Derived.Test.YtcpkdafleaddlaaGreatDoorAbCaughtP
import Derived.KernelRfl
set_option linter.unusedVariables false
set_option linter.unusedSimpArgs false
set_option linter.unnecessarySimpa false
namespace Go.Ab
open Go Go.Proofs
set_option maxRecDepth 100000
noncomputable section
abbrev bx0:List BSh:=[.box 290 .leaf,.acc]
abbrev bx1:List BSh:=[.acc]
abbrev sv0:List Shape:=[.str,(.int .i64)]
abbrev sv2:List Shape:=[(.int .i64),(.int .i64)]
abbrev sv7:List Shape:=[(.int .i64),.str]
abbrev sv8:List Shape:=[(.slice 72),(.int .i64)]
abbrev sv9:List Shape:=[(.data 51),(.int .i64)]
abbrev sv1:List Shape:=.str::sv0
abbrev sv3:List Shape:=(.slice 116)::sv2
abbrev sv4:List Shape:=(.data 72)::sv2
abbrev sv5:List Shape:=[.str,(.acc 0 5),(.int .i64)]
abbrev sv6:List Shape:=.str::sv2
abbrev sv11:List Shape:=[(.slice 72),(.slice 72),(.acc 0 72)]
abbrev sv10:List Shape:=[(.slice 116),(.slice 72),(.slice 72),(.slice 72),(.acc 0 72),(.int .i64)]
abbrev Q0:Type:=(List PV)×Int×(List UInt8)×(List UInt8)×Unit×Unit×Unit×(List PV)×(List PV)×(List PV)×(List PV)
abbrev Q4:Type:=(List PV)×Int×Int×(List UInt8)×(List UInt8)×Unit×Unit×Unit×(List PV)×(List PV)×(List PV)×(List PV)
def F362 (uu:Nat) (a0:Int):Option (Bool):=
 some ((bitsI .and .i64 a0 (IntKind.wrap .i64 (a0-(1:Int))))==(0:Int))
def F362c (uu:Nat):CallE:=⟨362,⟨1,[],[(.int .i64)]⟩,⟨1,[],[.bool]⟩,fun x=>F362 uu x,false⟩
theorem F362ok (uu:Nat):(F362c uu).Ok Tryz.prog:=okJ Tryz.f362 8 0 uu [] [] false (q0) (p0) L0
abbrev S315_12x:=(List PV)×Int×Bool×Bool×(List PV)×(List UInt8)×Unit×Int×Int×Int×Int×PV
abbrev S315_12y:=((List PV)×Int×Bool×Bool×(List PV)×(List UInt8)×Unit×Int×PV)
def S315_12 (uu:Nat) (a14:List PV) (a15:Int) (a16:Bool) (a17:Bool) (a18:List PV) (a19:List UInt8) (a20:Unit) (a21:Int) (a22:Int) (a23:Int) (a24:Int) (a25:PV):Option (S315_12x⊕S315_12y):=
 bif (decide (a15≥a23)) then
 let x27:=IntKind.wrap .i64 (a21-(1:Int))
 let x28:=bitsI .and .u64 a15 a24
 bif inRange x28 (([48,49,50,51,52,53,54,55,56,57,97,98,99,100,101,102,103,104,105,106,107,108,109,110,111,112,113,114,115,116,117,118,119,120,121,122]:List UInt8).length) then
 let x29:=((([48,49,50,51,52,53,54,55,56,57,97,98,99,100,101,102,103,104,105,106,107,108,109,110,111,112,113,114,115,116,117,118,119,120,121,122]:List UInt8).getD x28.toNat 0).toNat:Int)
 bif inRange x27 65 then
 bif decide (0≤a22) then
 some (.inl (a14,(a15.fdiv (2^(min a22.toNat (IntKind.bits .u64)))),a16,a17,a18,a19,(),x27,a22,a23,a24,(PV.agg (a25.parts.set x27.toNat (PV.int x29)))))
 else none
 else none
 else none
 else
 some (.inr (a14,a15,a16,a17,a18,a19,(),a21,a25))
def S315_12step (uu:Nat) (x:S315_12x):Option (S315_12x⊕S315_12y):=S315_12 uu x.1 x.2.1 x.2.2.1 x.2.2.2.1 x.2.2.2.2.1 x.2.2.2.2.2.1 x.2.2.2.2.2.2.1 x.2.2.2.2.2.2.2.1 x.2.2.2.2.2.2.2.2.1 x.2.2.2.2.2.2.2.2.2.1 x.2.2.2.2.2.2.2.2.2.2.1 x.2.2.2.2.2.2.2.2.2.2.2
abbrev S315_19x:=(List PV)×Int×Bool×Bool×(List PV)×(List UInt8)×Unit×Int×Int×PV
abbrev S315_19y:=((List PV)×Int×Bool×Bool×(List PV)×(List UInt8)×Unit×Int×PV)
def S315_19 (uu:Nat) (a45:List PV) (a46:Int) (a47:Bool) (a48:Bool) (a49:List PV) (a50:List UInt8) (a51:Unit) (a52:Int) (a53:Int) (a54:PV):Option (S315_19x⊕S315_19y):=
 bif (decide (a46≥a53)) then
 let x56:=IntKind.wrap .i64 (a52-(1:Int))
 bif !(decide (a53=0)) then
 let x57:=IntKind.wrap .u64 (a46.tdiv a53)
 let x59:=IntKind.wrap .u64 (a46-(IntKind.wrap .u64 (x57*a53)))
 bif inRange x59 (([48,49,50,51,52,53,54,55,56,57,97,98,99,100,101,102,103,104,105,106,107,108,109,110,111,112,113,114,115,116,117,118,119,120,121,122]:List UInt8).length) then
 let x60:=((([48,49,50,51,52,53,54,55,56,57,97,98,99,100,101,102,103,104,105,106,107,108,109,110,111,112,113,114,115,116,117,118,119,120,121,122]:List UInt8).getD x59.toNat 0).toNat:Int)
 bif inRange x56 65 then
 some (.inl (a45,x57,a47,a48,a49,a50,(),x56,a53,(PV.agg (a54.parts.set x56.toNat (PV.int x60)))))
 else none
 else none
 else none
 else
 some (.inr (a45,a46,a47,a48,a49,a50,(),a52,a54))
def S315_19step (uu:Nat) (x:S315_19x):Option (S315_19x⊕S315_19y):=S315_19 uu x.1 x.2.1 x.2.2.1 x.2.2.2.1 x.2.2.2.2.1 x.2.2.2.2.2.1 x.2.2.2.2.2.2.1 x.2.2.2.2.2.2.2.1 x.2.2.2.2.2.2.2.2.1 x.2.2.2.2.2.2.2.2.2
def F315 (uu:Nat) (a0:List PV) (a1:Int) (a2:Int) (a3:Bool) (a4:Bool):Option ((List PV)×(List UInt8)):=
 bif (bif (bif (decide (a2<(2:Int))) then true else (a2==(10:Int))) then true else (decide (a2>(36:Int)))) then
 none
 else
 bif a3 then
 let x6:=IntKind.wrap .u64 (0-a1)
 (F362 uu a2).bind fun y7=>
 bif y7 then
 (Ltz uu (IntKind.wrap .u64 a2)).bind fun y9=>
 (loopQ uu (S315_12step uu) (a0,x6,a3,a4,[],([]:List UInt8),(),(65:Int),(IntKind.wrap .u64 y9),(IntKind.wrap .u64 a2),(IntKind.wrap .u64 ((IntKind.wrap .u64 a2)-(1:Int))),(PV.agg (List.replicate 65 (PV.int (0:Int)))))).bind fun y31=>
 let x33:=IntKind.wrap .i64 (y31.2.2.2.2.2.2.2.1-(1:Int))
 let x34:=y31.2.1
 bif inRange x34 (([48,49,50,51,52,53,54,55,56,57,97,98,99,100,101,102,103,104,105,106,107,108,109,110,111,112,113,114,115,116,117,118,119,120,121,122]:List UInt8).length) then
 let x35:=((([48,49,50,51,52,53,54,55,56,57,97,98,99,100,101,102,103,104,105,106,107,108,109,110,111,112,113,114,115,116,117,118,119,120,121,122]:List UInt8).getD x34.toNat 0).toNat:Int)
 bif inRange x33 65 then
 bif y31.2.2.1 then
 let x37:=IntKind.wrap .i64 (x33-(1:Int))
 bif inRange x37 65 then
 bif y31.2.2.2.1 then
 bif decide (0≤x37∧x37<65∧x37≤(65:Int)∧(65:Int)≤65) then
 none
 else none
 else
 bif decide (0≤x37∧x37<65∧x37≤(65:Int)∧(65:Int)≤65) then
 let x40:=(((PV.agg ((PV.agg (y31.2.2.2.2.2.2.2.2.parts.set x33.toNat (PV.int x35))).parts.set x37.toNat (PV.int (45:Int)))).parts.drop x37.toNat).take ((65:Int).toNat-x37.toNat)).map byteOfPV
 some (y31.2.2.2.2.1,x40)
 else none
 else none
 else
 bif y31.2.2.2.1 then
 bif decide (0≤x33∧x33<65∧x33≤(65:Int)∧(65:Int)≤65) then
 none
 else none
 else
 bif decide (0≤x33∧x33<65∧x33≤(65:Int)∧(65:Int)≤65) then
 let x43:=(((PV.agg (y31.2.2.2.2.2.2.2.2.parts.set x33.toNat (PV.int x35))).parts.drop x33.toNat).take ((65:Int).toNat-x33.toNat)).map byteOfPV
 some (y31.2.2.2.2.1,x43)
 else none
 else none
 else none
 else
 (loopQ uu (S315_19step uu) (a0,x6,a3,a4,[],([]:List UInt8),(),(65:Int),(IntKind.wrap .u64 a2),(PV.agg (List.replicate 65 (PV.int (0:Int)))))).bind fun y61=>
 let x63:=IntKind.wrap .i64 (y61.2.2.2.2.2.2.2.1-(1:Int))
 let x64:=y61.2.1
 bif inRange x64 (([48,49,50,51,52,53,54,55,56,57,97,98,99,100,101,102,103,104,105,106,107,108,109,110,111,112,113,114,115,116,117,118,119,120,121,122]:List UInt8).length) then
 let x65:=((([48,49,50,51,52,53,54,55,56,57,97,98,99,100,101,102,103,104,105,106,107,108,109,110,111,112,113,114,115,116,117,118,119,120,121,122]:List UInt8).getD x64.toNat 0).toNat:Int)
 bif inRange x63 65 then
 bif y61.2.2.1 then
 let x67:=IntKind.wrap .i64 (x63-(1:Int))
 bif inRange x67 65 then
 bif y61.2.2.2.1 then
 bif decide (0≤x67∧x67<65∧x67≤(65:Int)∧(65:Int)≤65) then
 none
 else none
 else
 bif decide (0≤x67∧x67<65∧x67≤(65:Int)∧(65:Int)≤65) then
 let x70:=(((PV.agg ((PV.agg (y61.2.2.2.2.2.2.2.2.parts.set x63.toNat (PV.int x65))).parts.set x67.toNat (PV.int (45:Int)))).parts.drop x67.toNat).take ((65:Int).toNat-x67.toNat)).map byteOfPV
 some (y61.2.2.2.2.1,x70)
 else none
 else none
 else
 bif y61.2.2.2.1 then
 bif decide (0≤x63∧x63<65∧x63≤(65:Int)∧(65:Int)≤65) then
 none
 else none
 else
 bif decide (0≤x63∧x63<65∧x63≤(65:Int)∧(65:Int)≤65) then
 let x73:=(((PV.agg (y61.2.2.2.2.2.2.2.2.parts.set x63.toNat (PV.int x65))).parts.drop x63.toNat).take ((65:Int).toNat-x63.toNat)).map byteOfPV
 some (y61.2.2.2.2.1,x73)
 else none
 else none
 else none
 else
 (F362 uu a2).bind fun y74=>
 bif y74 then
 (Ltz uu (IntKind.wrap .u64 a2)).bind fun y76=>
 (loopQ uu (S315_12step uu) (a0,a1,a3,a4,[],([]:List UInt8),(),(65:Int),(IntKind.wrap .u64 y76),(IntKind.wrap .u64 a2),(IntKind.wrap .u64 ((IntKind.wrap .u64 a2)-(1:Int))),(PV.agg (List.replicate 65 (PV.int (0:Int)))))).bind fun y81=>
 let x83:=IntKind.wrap .i64 (y81.2.2.2.2.2.2.2.1-(1:Int))
 let x84:=y81.2.1
 bif inRange x84 (([48,49,50,51,52,53,54,55,56,57,97,98,99,100,101,102,103,104,105,106,107,108,109,110,111,112,113,114,115,116,117,118,119,120,121,122]:List UInt8).length) then
 let x85:=((([48,49,50,51,52,53,54,55,56,57,97,98,99,100,101,102,103,104,105,106,107,108,109,110,111,112,113,114,115,116,117,118,119,120,121,122]:List UInt8).getD x84.toNat 0).toNat:Int)
 bif inRange x83 65 then
 bif y81.2.2.1 then
 let x87:=IntKind.wrap .i64 (x83-(1:Int))
 bif inRange x87 65 then
 bif y81.2.2.2.1 then
 bif decide (0≤x87∧x87<65∧x87≤(65:Int)∧(65:Int)≤65) then
 none
 else none
 else
 bif decide (0≤x87∧x87<65∧x87≤(65:Int)∧(65:Int)≤65) then
 let x90:=(((PV.agg ((PV.agg (y81.2.2.2.2.2.2.2.2.parts.set x83.toNat (PV.int x85))).parts.set x87.toNat (PV.int (45:Int)))).parts.drop x87.toNat).take ((65:Int).toNat-x87.toNat)).map byteOfPV
 some (y81.2.2.2.2.1,x90)
 else none
 else none
 else
 bif y81.2.2.2.1 then
 bif decide (0≤x83∧x83<65∧x83≤(65:Int)∧(65:Int)≤65) then
 none
 else none
 else
 bif decide (0≤x83∧x83<65∧x83≤(65:Int)∧(65:Int)≤65) then
 let x93:=(((PV.agg (y81.2.2.2.2.2.2.2.2.parts.set x83.toNat (PV.int x85))).parts.drop x83.toNat).take ((65:Int).toNat-x83.toNat)).map byteOfPV
 some (y81.2.2.2.2.1,x93)
 else none
 else none
 else none
 else
 (loopQ uu (S315_19step uu) (a0,a1,a3,a4,[],([]:List UInt8),(),(65:Int),(IntKind.wrap .u64 a2),(PV.agg (List.replicate 65 (PV.int (0:Int)))))).bind fun y95=>
 let x97:=IntKind.wrap .i64 (y95.2.2.2.2.2.2.2.1-(1:Int))
 let x98:=y95.2.1
 bif inRange x98 (([48,49,50,51,52,53,54,55,56,57,97,98,99,100,101,102,103,104,105,106,107,108,109,110,111,112,113,114,115,116,117,118,119,120,121,122]:List UInt8).length) then
 let x99:=((([48,49,50,51,52,53,54,55,56,57,97,98,99,100,101,102,103,104,105,106,107,108,109,110,111,112,113,114,115,116,117,118,119,120,121,122]:List UInt8).getD x98.toNat 0).toNat:Int)
 bif inRange x97 65 then
 bif y95.2.2.1 then
 let x101:=IntKind.wrap .i64 (x97-(1:Int))
 bif inRange x101 65 then
 bif y95.2.2.2.1 then
 bif decide (0≤x101∧x101<65∧x101≤(65:Int)∧(65:Int)≤65) then
 none
 else none
 else
 bif decide (0≤x101∧x101<65∧x101≤(65:Int)∧(65:Int)≤65) then
 let x104:=(((PV.agg ((PV.agg (y95.2.2.2.2.2.2.2.2.parts.set x97.toNat (PV.int x99))).parts.set x101.toNat (PV.int (45:Int)))).parts.drop x101.toNat).take ((65:Int).toNat-x101.toNat)).map byteOfPV
 some (y95.2.2.2.2.1,x104)
 else none
 else none
 else
 bif y95.2.2.2.1 then
 bif decide (0≤x97∧x97<65∧x97≤(65:Int)∧(65:Int)≤65) then
 none
 else none
 else
 bif decide (0≤x97∧x97<65∧x97≤(65:Int)∧(65:Int)≤65) then
 let x107:=(((PV.agg (y95.2.2.2.2.2.2.2.2.parts.set x97.toNat (PV.int x99))).parts.drop x97.toNat).take ((65:Int).toNat-x97.toNat)).map byteOfPV
 some (y95.2.2.2.2.1,x107)
 else none
 else none
 else none
def S315_12l (uu:Nat):LoopE:=⟨12,⟨[0,1,3,4,10,11,12,13,14,15,16],bx0,[(.slice 5),(.int .u64),.bool,.bool,(.acc 1 5),.str,(.con (.ref 0 [] 290)),(.int .i64),(.int .u64),(.int .u64),(.int .u64),(.data 290)]⟩,[(.exit 0,⟨[0,1,3,4,10,11,12,13],bx0,[(.slice 5),(.int .u64),.bool,.bool,(.acc 1 5),.str,(.con (.ref 0 [] 290)),(.int .i64),(.data 290)]⟩)],S315_12step uu⟩
def S315_19l (uu:Nat):LoopE:=⟨19,⟨[0,1,3,4,10,11,12,13,17],bx0,[(.slice 5),(.int .u64),.bool,.bool,(.acc 1 5),.str,(.con (.ref 0 [] 290)),(.int .i64),(.int .u64),(.data 290)]⟩,[(.exit 2,⟨[0,1,3,4,10,11,12,13],bx0,[(.slice 5),(.int .u64),.bool,.bool,(.acc 1 5),.str,(.con (.ref 0 [] 290)),(.int .i64),(.data 290)]⟩)],S315_19step uu⟩
def F315C (uu:Nat):Cfg:=cfg Tryz.prog 102 0 [F362c uu,Ltzc uu] [S315_12l uu,S315_19l uu] uu
def F315c (uu:Nat):CallE:=⟨315,⟨5,[],[(.slice 5),(.int .u64),(.int .i64),.bool,.bool]⟩,⟨2,[],[(.slice 5),.str]⟩,fun x=>F315 uu x.1 x.2.1 x.2.2.1 x.2.2.2.1 x.2.2.2.2,([],[])⟩
theorem F315k (uu:Nat):CallOk (F315C uu):=cfg_callOkP (qc (F362ok uu)<|qc (Ltzok uu)<|q0) (p0)
theorem S315_12ok (uu:Nat):LoopOk (F315C uu) (lp (bodyOf Tryz.f315) 0):=okL (F315k uu) uu (S315_12l uu) L0
theorem S315_19ok (uu:Nat):LoopOk (F315C uu) (lp (bodyOf Tryz.f315) 1):=okL (F315k uu) uu (S315_19l uu) L0
theorem F315ok (uu:Nat):(F315c uu).Ok Tryz.prog:=okE Tryz.f315 (F315k uu) (L2 (S315_12ok uu) (S315_19ok uu))
def F241 (uu:Nat) (a0:Int) (a1:Int):Option ((List UInt8)):=
 bif (a1==(10:Int)) then
 bif (decide (a0<(100:Int))) then
 none
 else
 none
 else
 (F315 uu [] a0 a1 false false).bind fun y4=>
 some y4.2
def F241c (uu:Nat):CallE:=⟨241,⟨2,[],[(.int .u64),(.int .i64)]⟩,⟨1,[],[.str]⟩,fun x=>F241 uu x.1 x.2,[]⟩
theorem F241ok (uu:Nat):(F241c uu).Ok Tryz.prog:=okJ Tryz.f241 32 0 uu _ [] false (qc (F315ok uu)<|q0) (p0) L0
def Lfmt (uu:Nat) (u base:Int):Option (List UInt8):=bif decide (base=10) then Lfmtu uu u base else F241 uu u base
def Lfmtc (uu:Nat):CallE:={ f:=241,A:=⟨2,[],[.int .u64,.int .i64]⟩,R:=⟨1,[],[.str]⟩,F:=fun x=>Lfmt uu x.1 x.2,dflt:=[] }
theorem Lfmtok (uu:Nat):(Lfmtc uu).Ok Tryz.prog:=by
 intro x y h
 have h:Lfmt uu x.1 x.2=some y:=h
 unfold Lfmt at h
 cases hb:decide (x.2=10) with
 | true=>rw [hb] at h;exact Lfmtuok uu x y h
 | false=>rw [hb] at h;exact F241ok uu x y h
def F145 (uu:Nat) :Option ((List (PV×PV))):=
 some (PV.mput (PV.mput (PV.mput (PV.mput (PV.mput (PV.mput (PV.mput (PV.mput (PV.mput (PV.mput (PV.mput (PV.mput (PV.mput [] (PV.str ([100,101,112,114,101,99,97,116,101,100]:List UInt8)) (PV.agg [(PV.int (1:Int)),(PV.int (126:Int))])) (PV.str ([100,111,99]:List UInt8)) (PV.agg [(PV.int (7:Int)),(PV.int (126:Int))])) (PV.str ([97,108,105,97,115]:List UInt8)) (PV.agg [(PV.int (7:Int)),(PV.int (84:Int))])) (PV.str ([115,105,110,99,101]:List UInt8)) (PV.agg [(PV.int (4:Int)),(PV.int (84:Int))])) (PV.str ([117,110,116,105,108]:List UInt8)) (PV.agg [(PV.int (4:Int)),(PV.int (84:Int))])) (PV.str ([109,105,110]:List UInt8)) (PV.agg [(PV.int (3:Int)),(PV.int (4:Int))])) (PV.str ([109,97,120]:List UInt8)) (PV.agg [(PV.int (3:Int)),(PV.int (4:Int))])) (PV.str ([108,101,110,103,116,104]:List UInt8)) (PV.agg [(PV.int (4:Int)),(PV.int (4:Int))])) (PV.str ([115,101,99,114,101,116]:List UInt8)) (PV.agg [(PV.int (1:Int)),(PV.int (4:Int))])) (PV.str ([105,100,101,109,112,111,116,101,110,116]:List UInt8)) (PV.agg [(PV.int (1:Int)),(PV.int (64:Int))])) (PV.str ([116,105,109,101,111,117,116]:List UInt8)) (PV.agg [(PV.int (4:Int)),(PV.int (64:Int))])) (PV.str ([114,111,117,116,101]:List UInt8)) (PV.agg [(PV.int (7:Int)),(PV.int (64:Int))])) (PV.str ([111,119,110,101,114]:List UInt8)) (PV.agg [(PV.int (7:Int)),(PV.int (34:Int))]))
def F145c (uu:Nat):CallE:=⟨145,⟨0,[],[]⟩,⟨1,[],[(.map 9 166)]⟩,fun x=>F145 uu ,[]⟩
theorem F145ok (uu:Nat):(F145c uu).Ok Tryz.prog:=okJ Tryz.f145 16 0 uu [] [] false (q0) (p0) L0
def F71 (uu:Nat) (a0:List UInt8):Option (Int):=
 (F145 uu).bind fun y1=>
 let x2:=(PV.mget y1 (PV.str a0)).getD (PV.agg [(PV.int (0:Int)),(PV.int (0:Int))])
 some ((x2.fld 0).asInt)
def F71c (uu:Nat):CallE:=⟨71,⟨1,[],[.str]⟩,⟨1,[],[(.int .i64)]⟩,fun x=>F71 uu x,0⟩
theorem F71ok (uu:Nat):(F71c uu).Ok Tryz.prog:=okJ Tryz.f71 7 0 uu _ [] false (qc (F145ok uu)<|q0) (p0) L0
def F248 (uu:Nat) (a0:Int):Option (Bool):=
 some (bif (decide (a0≥(1:Int))) then (decide (a0≤(9:Int))) else false)
def F248c (uu:Nat):CallE:=⟨248,⟨1,[],[(.int .i64)]⟩,⟨1,[],[.bool]⟩,fun x=>F248 uu x,false⟩
theorem F248ok (uu:Nat):(F248c uu).Ok Tryz.prog:=okJ Tryz.f248 9 0 uu [] [] false (q0) (p0) L0
def F307 (uu:Nat) (a0:Int):Option (Bool):=
 some (bif (a0==(7:Int)) then true else (a0==(8:Int)))
def F307c (uu:Nat):CallE:=⟨307,⟨1,[],[(.int .i64)]⟩,⟨1,[],[.bool]⟩,fun x=>F307 uu x,false⟩
theorem F307ok (uu:Nat):(F307c uu).Ok Tryz.prog:=okJ Tryz.f307 9 0 uu [] [] false (q0) (p0) L0
def F249 (uu:Nat) (a0:PV):Option (Bool):=
 bif (decide ((IntKind.wrap .i64 ((IntKind.wrap .i64 ((IntKind.wrap .i64 ((((a0.fld 3).asList).length:Int)+(((a0.fld 4).asList).length:Int)))+(((a0.fld 5).asList).length:Int)))+(((a0.fld 6).asList).length:Int)))>(0:Int))) then
 some false
 else
 (F307 uu ((a0.fld 0).asInt)).bind fun y14=>
 bif y14 then
 some (((a0.fld 1).asInt)==(0:Int))
 else
 some (((a0.fld 2).asStr)==([]:List UInt8))
def F249c (uu:Nat):CallE:=⟨249,⟨1,[],[(.data 51)]⟩,⟨1,[],[.bool]⟩,fun x=>F249 uu x,false⟩
theorem F249ok (uu:Nat):(F249c uu).Ok Tryz.prog:=okJ Tryz.f249 28 0 uu _ [] false (qc (F307ok uu)<|q0) (p0) L0
def F250 (uu:Nat) (a0:Int) (a1:Int):Option (Bool):=
 bif (a0==(1:Int)) then
 some (decide (a1≤(1:Int)))
 else
 bif (a0==(2:Int)) then
 some (bif (decide ((IntKind.wrap .i64 a1)≥(-2147483648:Int))) then (decide ((IntKind.wrap .i64 a1)≤(2147483647:Int))) else false)
 else
 bif (a0==(9:Int)) then
 some (decide (a1≤(2147483647:Int)))
 else
 bif (a0==(4:Int)) then
 some (decide (a1≤(4294967295:Int)))
 else
 some true
def F250c (uu:Nat):CallE:=⟨250,⟨2,[],[(.int .i64),(.int .u64)]⟩,⟨1,[],[.bool]⟩,fun x=>F250 uu x.1 x.2,false⟩
theorem F250ok (uu:Nat):(F250c uu).Ok Tryz.prog:=okJ Tryz.f250 28 0 uu [] [] false (q0) (p0) L0
def F297 (uu:Nat) (a0:List UInt8) (a1:List UInt8):Option (Bool):=
 let x3:=decide ((a0.length:Int)≥(a1.length:Int))
 let x4:=(a1.length:Int)
 bif imp x3 (decide (0≤(0:Int)∧(0:Int)≤x4∧x4≤(a0.length:Int))) then
 some (bif x3 then (((a0.take x4.toNat).drop (0:Int).toNat)==a1) else false)
 else none
def F297c (uu:Nat):CallE:=⟨297,⟨2,[],[.str,.str]⟩,⟨1,[],[.bool]⟩,fun x=>F297 uu x.1 x.2,false⟩
theorem F297ok (uu:Nat):(F297c uu).Ok Tryz.prog:=okJ Tryz.f297 18 0 uu [] [] false (q0) (p0) L0
def F230 (uu:Nat) (a0:List UInt8) (a1:List UInt8):Option (Bool):=
 (F297 uu a0 a1).bind fun y1=>
 some y1
def F230c (uu:Nat):CallE:=⟨230,⟨2,[],[.str,.str]⟩,⟨1,[],[.bool]⟩,fun x=>F230 uu x.1 x.2,false⟩
theorem F230ok (uu:Nat):(F230c uu).Ok Tryz.prog:=okJ Tryz.f230 8 0 uu _ [] false (qc (F297ok uu)<|q0) (p0) L0
def F310 (uu:Nat) (a0:List UInt8) (a1:Int) (a2:Int):Option (Bool):=
 let x1:=a2==(65533:Int)
 bif imp x1 (decide (0≤a1∧a1≤(a0.length:Int)∧(a0.length:Int)≤(a0.length:Int))) then
 (bif x1 then F230 uu ((a0.take (a0.length:Int).toNat).drop a1.toNat) ([239,191,189]:List UInt8) else some false).bind fun y3=>
 some (bif x1 then (!y3) else false)
 else none
def F310c (uu:Nat):CallE:=⟨310,⟨3,[],[.str,(.int .i64),(.int .i32)]⟩,⟨1,[],[.bool]⟩,fun x=>F310 uu x.1 x.2.1 x.2.2,false⟩
theorem F310ok (uu:Nat):(F310c uu).Ok Tryz.prog:=okJ Tryz.f310 16 0 uu _ [] false (qc (F230ok uu)<|q0) (p0) L0
abbrev S280_3x:=(List UInt8)×Unit×(List UInt8)×Int
abbrev S280_3y:=(Int×(List UInt8)×Int)⊕((List UInt8)×Int)
def S280_3 (uu:Nat) (a1:List UInt8) (a2:Unit) (a3:List UInt8) (a4:Int):Option (S280_3x⊕S280_3y):=
 bif (decide (a4.toNat<a3.length)) then
 bif decide (a4.toNat<a3.length) then
 let x6:=(a4.toNat:Int)
 bif decide (a4.toNat<a3.length) then
 (F310 uu a1 x6 ((Utf8.decode ⟨a3.toArray⟩ a4.toNat).1:Int)).bind fun y8=>
 bif y8 then
 some (.inr (.inl (x6,a3,((bif decide (a4.toNat<a3.length) then a4.toNat+(Utf8.decode ⟨a3.toArray⟩ a4.toNat).2 else a4.toNat:Nat):Int))))
 else
 some (.inl (a1,(),a3,((bif decide (a4.toNat<a3.length) then a4.toNat+(Utf8.decode ⟨a3.toArray⟩ a4.toNat).2 else a4.toNat:Nat):Int)))
 else none
 else none
 else
 some (.inr (.inr (a3,((bif decide (a4.toNat<a3.length) then a4.toNat+(Utf8.decode ⟨a3.toArray⟩ a4.toNat).2 else a4.toNat:Nat):Int))))
def S280_3step (uu:Nat) (x:S280_3x):Option (S280_3x⊕S280_3y):=S280_3 uu x.1 x.2.1 x.2.2.1 x.2.2.2
def F280 (uu:Nat) (a0:List UInt8):Option (Int):=
 (loopQ uu (S280_3step uu) (a0,(),a0,((0:Nat):Int))).bind fun z=>sumE (fun y9=>
 some y9.1
 ) (fun y10=>
 some (-1:Int)
 ) z
def S280_3l (uu:Nat):LoopE:=⟨3,⟨[0,6],[.iter],.str::(.con (.iref 0))::sv0⟩,[(.ret,⟨[2],[.iter],(.int .i64)::sv0⟩),(.exit 0,⟨[],[.iter],sv0⟩)],S280_3step uu⟩
def F280C (uu:Nat):Cfg:=cfg Tryz.prog 16 0 [F310c uu] [S280_3l uu] uu
def F280c (uu:Nat):CallE:=⟨280,⟨1,[],[.str]⟩,⟨1,[],[(.int .i64)]⟩,fun x=>F280 uu x,0⟩
theorem F280k (uu:Nat):CallOk (F280C uu):=cfg_callOkP (qc (F310ok uu)<|q0) (p0)
theorem S280_3ok (uu:Nat):LoopOk (F280C uu) (lp (bodyOf Tryz.f280) 0):=okL (F280k uu) uu (S280_3l uu) L0
theorem F280ok (uu:Nat):(F280c uu).Ok Tryz.prog:=okE Tryz.f280 (F280k uu) (L1 (S280_3ok uu))
def F185 (uu:Nat) (a0:List UInt8):Option (Bool):=
 (F280 uu a0).bind fun y1=>
 some (decide (y1<(0:Int)))
def F185c (uu:Nat):CallE:=⟨185,⟨1,[],[.str]⟩,⟨1,[],[.bool]⟩,fun x=>F185 uu x,false⟩
theorem F185ok (uu:Nat):(F185c uu).Ok Tryz.prog:=okJ Tryz.f185 6 0 uu _ [] false (qc (F280ok uu)<|q0) (p0) L0
def F146 (uu:Nat) (a0:Int) (a1:PV):Option (Bool):=
 (F248 uu a0).bind fun y1=>
 let x5:=bif (!y1) then true else (((a1.fld 0).asInt) != a0)
 (bif !x5 then F249 uu a1 else some false).bind fun y6=>
 let x8:=bif x5 then true else (!y6)
 (bif !x8 then F250 uu a0 ((a1.fld 1).asInt) else some false).bind fun y10=>
 bif (bif (bif x8 then true else (!y10)) then true else (decide ((((a1.fld 2).asStr).length:Int)>(4096:Int)))) then
 some false
 else
 let x17:=a0 != (7:Int)
 (bif !x17 then F185 uu ((a1.fld 2).asStr) else some false).bind fun y19=>
 some (bif x17 then true else y19)
def F146c (uu:Nat):CallE:=⟨146,⟨2,[],[(.int .i64),(.data 51)]⟩,⟨1,[],[.bool]⟩,fun x=>F146 uu x.1 x.2,false⟩
theorem F146ok (uu:Nat):(F146c uu).Ok Tryz.prog:=okJ Tryz.f146 39 0 uu _ [] false (qc (F248ok uu)<|qc (F249ok uu)<|qc (F250ok uu)<|qc (F185ok uu)<|q0) (p0) L0
def F72 (uu:Nat) (a0:PV):Option (Bool):=
 (F71 uu ((a0.fld 0).asStr)).bind fun y2=>
 let x3:=y2 != (0:Int)
 (bif x3 then F146 uu y2 (a0.fld 1) else some false).bind fun y5=>
 some (bif x3 then y5 else false)
def F72c (uu:Nat):CallE:=⟨72,⟨1,[],[(.data 116)]⟩,⟨1,[],[.bool]⟩,fun x=>F72 uu x,false⟩
theorem F72ok (uu:Nat):(F72c uu).Ok Tryz.prog:=okJ Tryz.f72 15 0 uu _ [] false (qc (F71ok uu)<|qc (F146ok uu)<|q0) (p0) L0
def F251 (uu:Nat) (a0:Bool):Option ((List UInt8)):=
 bif a0 then
 some ([116,114,117,101]:List UInt8)
 else
 some ([102,97,108,115,101]:List UInt8)
def F251c (uu:Nat):CallE:=⟨251,⟨1,[],[.bool]⟩,⟨1,[],[.str]⟩,fun x=>F251 uu x,[]⟩
theorem F251ok (uu:Nat):(F251c uu).Ok Tryz.prog:=okJ Tryz.f251 4 0 uu [] [] false (q0) (p0) L0
def F147 (uu:Nat) (a0:Bool):Option ((List UInt8)):=
 (F251 uu a0).bind fun y1=>
 some y1
def F147c (uu:Nat):CallE:=⟨147,⟨1,[],[.bool]⟩,⟨1,[],[.str]⟩,fun x=>F147 uu x,[]⟩
theorem F147ok (uu:Nat):(F147c uu).Ok Tryz.prog:=okJ Tryz.f147 5 0 uu _ [] false (qc (F251ok uu)<|q0) (p0) L0
def F253 (uu:Nat) (a0:Int):Option (Int):=
 let x1:=bitsI .and .u64 a0 (9218868437227405312:Int)
 let x2:=bitsI .and .u64 a0 (4503599627370495:Int)
 bif (bif (x1==(9218868437227405312:Int)) then (x2 != (0:Int)) else false) then
 some (0:Int)
 else
 bif (x1==(9218868437227405312:Int)) then
 some (1:Int)
 else
 bif (bif (x1==(0:Int)) then (x2==(0:Int)) else false) then
 some (2:Int)
 else
 bif (x1==(0:Int)) then
 some (3:Int)
 else
 some (4:Int)
def F253c (uu:Nat):CallE:=⟨253,⟨1,[],[(.int .u64)]⟩,⟨1,[],[(.int .i64)]⟩,fun x=>F253 uu x,0⟩
theorem F253ok (uu:Nat):(F253c uu).Ok Tryz.prog:=okJ Tryz.f253 29 0 uu [] [] false (q0) (p0) L0
def F135 (uu:Nat) (a0:Int) (a1:Int):Option ((List UInt8)):=
 (Lfmt uu a0 a1).bind fun y1=>
 some y1
def F135c (uu:Nat):CallE:=⟨135,⟨2,[],[(.int .u64),(.int .i64)]⟩,⟨1,[],[.str]⟩,fun x=>F135 uu x.1 x.2,[]⟩
theorem F135ok (uu:Nat):(F135c uu).Ok Tryz.prog:=okJ Tryz.f135 8 0 uu _ [] false (qc (Lfmtok uu)<|q0) (p0) L0
def F149 (uu:Nat) (a0:Int):Option ((List UInt8)):=
 (F253 uu a0).bind fun y1=>
 bif (y1==(0:Int)) then
 some ([110,97,110]:List UInt8)
 else
 bif (bif (y1==(1:Int)) then ((bitsI .and .u64 a0 (9223372036854775808:Int)) != (0:Int)) else false) then
 some ([45,105,110,102]:List UInt8)
 else
 bif (y1==(1:Int)) then
 some ([105,110,102]:List UInt8)
 else
 (F135 uu a0 (16:Int)).bind fun y8=>
 (Lrepeat uu ([48]:List UInt8) (IntKind.wrap .i64 ((16:Int)-(y8.length:Int)))).bind fun y11=>
 bif decide (([48,120]:List UInt8).length+y11.length≤strMax) then
 bif decide ((([48,120]:List UInt8)++y11).length+y8.length≤strMax) then
 some ((([48,120]:List UInt8)++y11)++y8)
 else none
 else none
def F149c (uu:Nat):CallE:=⟨149,⟨1,[],[(.int .u64)]⟩,⟨1,[],[.str]⟩,fun x=>F149 uu x,[]⟩
theorem F149ok (uu:Nat):(F149c uu).Ok Tryz.prog:=okJ Tryz.f149 30 0 uu _ [] false (qc (F253ok uu)<|qc (F135ok uu)<|qc (Lrepeatok uu)<|q0) (p0) L0
def F311 (uu:Nat) (a0:Int):Option ((List UInt8)):=
 let x1:=a0.fdiv (2^(min (4:Int).toNat (IntKind.bits .u8)))
 let x3:=IntKind.wrap .u8 ((a0.fdiv (2^(min (4:Int).toNat (IntKind.bits .u8))))+(1:Int))
 bif decide (0≤x1∧x1≤x3∧x3≤(([48,49,50,51,52,53,54,55,56,57,97,98,99,100,101,102]:List UInt8).length:Int)) then
 let x4:=(([48,49,50,51,52,53,54,55,56,57,97,98,99,100,101,102]:List UInt8).take x3.toNat).drop x1.toNat
 bif decide (([92,120]:List UInt8).length+x4.length≤strMax) then
 let x5:=bitsI .and .u8 a0 (15:Int)
 let x7:=IntKind.wrap .u8 ((bitsI .and .u8 a0 (15:Int))+(1:Int))
 bif decide (0≤x5∧x5≤x7∧x7≤(([48,49,50,51,52,53,54,55,56,57,97,98,99,100,101,102]:List UInt8).length:Int)) then
 let x8:=(([48,49,50,51,52,53,54,55,56,57,97,98,99,100,101,102]:List UInt8).take x7.toNat).drop x5.toNat
 bif decide ((([92,120]:List UInt8)++x4).length+x8.length≤strMax) then
 some ((([92,120]:List UInt8)++x4)++x8)
 else none
 else none
 else none
 else none
def F311c (uu:Nat):CallE:=⟨311,⟨1,[],[(.int .u8)]⟩,⟨1,[],[.str]⟩,fun x=>F311 uu x,[]⟩
theorem F311ok (uu:Nat):(F311c uu).Ok Tryz.prog:=okJ Tryz.f311 17 0 uu [] [] false (q0) (p0) L0
def F240 (uu:Nat) (a0:List UInt8) (a1:Int) (a2:Int):Option ((List UInt8)):=
 bif (a2==(34:Int)) then
 some ([92,34]:List UInt8)
 else
 bif (a2==(92:Int)) then
 some ([92,92]:List UInt8)
 else
 bif (a2==(10:Int)) then
 some ([92,110]:List UInt8)
 else
 bif (a2==(9:Int)) then
 some ([92,116]:List UInt8)
 else
 bif (a2==(13:Int)) then
 some ([92,114]:List UInt8)
 else
 let x8:=bif (decide (a2<(32:Int))) then true else (a2==(127:Int))
 (bif !x8 then F310 uu a0 a1 a2 else some false).bind fun y9=>
 bif (bif x8 then true else y9) then
 bif inRange a1 a0.length then
 (F311 uu ((a0.getD a1.toNat 0).toNat:Int)).bind fun y12=>
 some y12
 else none
 else
 some ((Utf8.encode a2).data.toList)
def F240c (uu:Nat):CallE:=⟨240,⟨3,[],[.str,(.int .i64),(.int .i32)]⟩,⟨1,[],[.str]⟩,fun x=>F240 uu x.1 x.2.1 x.2.2,[]⟩
theorem F240ok (uu:Nat):(F240c uu).Ok Tryz.prog:=okJ Tryz.f240 41 0 uu _ [] false (qc (F310ok uu)<|qc (F311ok uu)<|q0) (p0) L0
abbrev S134_5x:=(List UInt8)×Unit×Unit×(List UInt8)×(List UInt8)×Int
abbrev S134_5y:=(Unit×(List UInt8)×(List UInt8)×Int)
def S134_5 (uu:Nat) (a2:List UInt8) (a3:Unit) (a4:Unit) (a5:List UInt8) (a6:List UInt8) (a7:Int):Option (S134_5x⊕S134_5y):=
 bif (decide (a7.toNat<a6.length)) then
 bif decide (a7.toNat<a6.length) then
 bif decide (a7.toNat<a6.length) then
 (F240 uu a2 (a7.toNat:Int) ((Utf8.decode ⟨a6.toArray⟩ a7.toNat).1:Int)).bind fun y11=>
 (LwriteString uu y11 a5).bind fun y12=>
 some (.inl (a2,(),(),y12.2.2,a6,((bif decide (a7.toNat<a6.length) then a7.toNat+(Utf8.decode ⟨a6.toArray⟩ a7.toNat).2 else a7.toNat:Nat):Int)))
 else none
 else none
 else
 some (.inr ((),a5,a6,((bif decide (a7.toNat<a6.length) then a7.toNat+(Utf8.decode ⟨a6.toArray⟩ a7.toNat).2 else a7.toNat:Nat):Int)))
def S134_5step (uu:Nat) (x:S134_5x):Option (S134_5x⊕S134_5y):=S134_5 uu x.1 x.2.1 x.2.2.1 x.2.2.2.1 x.2.2.2.2.1 x.2.2.2.2.2
def F134 (uu:Nat) (a0:List UInt8):Option ((List UInt8)):=
 (LwriteString uu ([34]:List UInt8) []).bind fun y1=>
 (loopQ uu (S134_5step uu) (a0,(),(),y1.2.2,a0,((0:Nat):Int))).bind fun y13=>
 (LwriteString uu ([34]:List UInt8) y13.2.1).bind fun y14=>
 (Lstring uu y14.2.2).bind fun y15=>
 some y15.1
def S134_5l (uu:Nat):LoopE:=⟨5,⟨[0,3,8],[.bld 106,.iter],.str::(.con (.bref 0 106))::(.con (.iref 1))::sv1⟩,[(.exit 0,⟨[3],[.bld 106,.iter],(.con (.bref 0 106))::sv1⟩)],S134_5step uu⟩
def F134C (uu:Nat):Cfg:=cfg Tryz.prog 20 0 [LwriteString_106c uu,F240c uu,Lstring_106c uu] [S134_5l uu] uu
def F134c (uu:Nat):CallE:=⟨134,⟨1,[],[.str]⟩,⟨1,[],[.str]⟩,fun x=>F134 uu x,[]⟩
theorem F134k (uu:Nat):CallOk (F134C uu):=cfg_callOkP (qc (LwriteString_106ok uu)<|qc (F240ok uu)<|qc (Lstring_106ok uu)<|q0) (p0)
theorem S134_5ok (uu:Nat):LoopOk (F134C uu) (lp (bodyOf Tryz.f134) 0):=okL (F134k uu) uu (S134_5l uu) L0
theorem F134ok (uu:Nat):(F134c uu).Ok Tryz.prog:=okE Tryz.f134 (F134k uu) (L1 (S134_5ok uu))
abbrev S150_4x:=(List UInt8)×(List PV)×Int×Int
abbrev S150_4y:=((List PV))
def S150_4 (uu:Nat) (a4:List UInt8) (a5:List PV) (a6:Int) (a7:Int):Option (S150_4x⊕S150_4y):=
 bif (decide (a7<a6)) then
 bif inRange a7 a4.length then
 let x10:=((a4.getD a7.toNat 0).toNat:Int).fdiv (2^(min (4:Int).toNat (IntKind.bits .u8)))
 bif inRange x10 (([48,49,50,51,52,53,54,55,56,57,97,98,99,100,101,102]:List UInt8).length) then
 let x11:=((([48,49,50,51,52,53,54,55,56,57,97,98,99,100,101,102]:List UInt8).getD x10.toNat 0).toNat:Int)
 bif inRange a7 a4.length then
 let x13:=bitsI .and .u8 ((a4.getD a7.toNat 0).toNat:Int) (15:Int)
 bif inRange x13 (([48,49,50,51,52,53,54,55,56,57,97,98,99,100,101,102]:List UInt8).length) then
 let x14:=((([48,49,50,51,52,53,54,55,56,57,97,98,99,100,101,102]:List UInt8).getD x13.toNat 0).toNat:Int)
 bif decide (a5.length+[(PV.int x11),(PV.int x14)].length≤accMax) then
 some (.inl (a4,(a5++[(PV.int x11),(PV.int x14)]),a6,(IntKind.wrap .i64 (a7+(1:Int)))))
 else none
 else none
 else none
 else none
 else none
 else
 some (.inr a5)
def S150_4step (uu:Nat) (x:S150_4x):Option (S150_4x⊕S150_4y):=S150_4 uu x.1 x.2.1 x.2.2.1 x.2.2.2
def F150 (uu:Nat) (a0:List UInt8):Option ((List UInt8)):=
 let x2:=IntKind.wrap .i64 ((2:Int)*(a0.length:Int))
 bif decide (0≤x2∧x2≤accMax) then
 (loopQ uu (S150_4step uu) (a0,[],(a0.length:Int),(0:Int))).bind fun y17=>
 some (y17.map byteOfPV)
 else none
def S150_4l (uu:Nat):LoopE:=⟨4,⟨[0,3,10,11],bx1,.str::(.acc 0 5)::sv2⟩,[(.exit 0,⟨[3],bx1,[(.acc 0 5)]⟩)],S150_4step uu⟩
def F150C (uu:Nat):Cfg:=cfg Tryz.prog 30 0 [] [S150_4l uu] uu
def F150c (uu:Nat):CallE:=⟨150,⟨1,[],[.str]⟩,⟨1,[],[.str]⟩,fun x=>F150 uu x,[]⟩
theorem F150k (uu:Nat):CallOk (F150C uu):=cfg_callOkP (q0) (p0)
theorem S150_4ok (uu:Nat):LoopOk (F150C uu) (lp (bodyOf Tryz.f150) 0):=okL (F150k uu) uu (S150_4l uu) L0
theorem F150ok (uu:Nat):(F150c uu).Ok Tryz.prog:=okE Tryz.f150 (F150k uu) (L1 (S150_4ok uu))
def F73 (uu:Nat) (a0:PV):Option ((List UInt8)):=
 (F146 uu ((a0.fld 0).asInt) a0).bind fun y2=>
 bif (!y2) then
 some ([]:List UInt8)
 else
 let x4:=(a0.fld 0).asInt
 bif (x4==(1:Int)) then
 (F147 uu (((a0.fld 1).asInt)==(1:Int))).bind fun y8=>
 some y8
 else
 bif (x4==(2:Int)) then
 (Litoa uu (IntKind.wrap .i64 ((a0.fld 1).asInt))).bind fun y12=>
 some y12
 else
 bif (x4==(3:Int)) then
 (Litoa uu (IntKind.wrap .i64 ((a0.fld 1).asInt))).bind fun y16=>
 some y16
 else
 bif (x4==(6:Int)) then
 (F149 uu ((a0.fld 1).asInt)).bind fun y19=>
 some y19
 else
 bif (x4==(7:Int)) then
 (F134 uu ((a0.fld 2).asStr)).bind fun y22=>
 some y22
 else
 bif (x4==(8:Int)) then
 (F150 uu ((a0.fld 2).asStr)).bind fun y25=>
 (F134 uu y25).bind fun y26=>
 bif decide (([120]:List UInt8).length+y26.length≤strMax) then
 some (([120]:List UInt8)++y26)
 else none
 else
 (F135 uu ((a0.fld 1).asInt) (10:Int)).bind fun y28=>
 some y28
def F73c (uu:Nat):CallE:=⟨73,⟨1,[],[(.data 51)]⟩,⟨1,[],[.str]⟩,fun x=>F73 uu x,[]⟩
theorem F73ok (uu:Nat):(F73c uu).Ok Tryz.prog:=okJ Tryz.f73 43 0 uu _ [] false (qc (F146ok uu)<|qc (F147ok uu)<|qc (Litoaok uu)<|qc (F149ok uu)<|qc (F134ok uu)<|qc (F150ok uu)<|qc (F135ok uu)<|q0) (p0) L0
abbrev S34_4x:=(List PV)×(List PV)×Int×Int
abbrev S34_4y:=((List UInt8))⊕((List PV))
def S34_4 (uu:Nat) (a2:List PV) (a3:List PV) (a4:Int) (a5:Int):Option (S34_4x⊕S34_4y):=
 bif (decide (a5<a4)) then
 bif inRange a5 a3.length then
 let x7:=a3.getD a5.toNat .bad
 (F72 uu x7).bind fun y8=>
 bif (!y8) then
 some (.inr (.inl ([]:List UInt8)))
 else
 let x10:=(x7.fld 0).asStr
 bif decide (x10.length+([32,61,32]:List UInt8).length≤strMax) then
 let x11:=x10++([32,61,32]:List UInt8)
 (F73 uu (x7.fld 1)).bind fun y13=>
 bif decide (x11.length+y13.length≤strMax) then
 let x14:=x11++y13
 bif decide (a2.length+[(PV.str x14)].length≤accMax) then
 some (.inl ((a2++[(PV.str x14)]),a3,a4,(IntKind.wrap .i64 (a5+(1:Int)))))
 else none
 else none
 else none
 else none
 else
 some (.inr (.inr a2))
def S34_4step (uu:Nat) (x:S34_4x):Option (S34_4x⊕S34_4y):=S34_4 uu x.1 x.2.1 x.2.2.1 x.2.2.2
def F34 (uu:Nat) (a0:List PV):Option ((List UInt8)):=
 (loopQ uu (S34_4step uu) ([],a0,(a0.length:Int),(0:Int))).bind fun z=>sumE (fun y17=>
 some y17
 ) (fun y18=>
 bif ((y18.length:Int)==(0:Int)) then
 some ([]:List UInt8)
 else
 (Ljoin uu y18 ([44,32]:List UInt8)).bind fun y21=>
 bif decide (([91]:List UInt8).length+y21.length≤strMax) then
 bif decide ((([91]:List UInt8)++y21).length+([93]:List UInt8).length≤strMax) then
 some ((([91]:List UInt8)++y21)++([93]:List UInt8))
 else none
 else none
 ) z
def S34_4l (uu:Nat):LoopE:=⟨4,⟨[3,6,7,8],bx1,(.acc 0 9)::sv3⟩,[(.ret,⟨[2],bx1,[.str]⟩),(.exit 0,⟨[3],bx1,[(.acc 0 9)]⟩)],S34_4step uu⟩
def F34C (uu:Nat):Cfg:=cfg Tryz.prog 33 0 [F72c uu,F73c uu,Ljoinc uu] [S34_4l uu] uu
def F34c (uu:Nat):CallE:=⟨34,⟨1,[],[(.slice 116)]⟩,⟨1,[],[.str]⟩,fun x=>F34 uu x,[]⟩
theorem F34k (uu:Nat):CallOk (F34C uu):=cfg_callOkP (qc (F72ok uu)<|qc (F73ok uu)<|qc (Ljoinok uu)<|q0) (p0)
theorem S34_4ok (uu:Nat):LoopOk (F34C uu) (lp (bodyOf Tryz.f34) 0):=okL (F34k uu) uu (S34_4l uu) L0
theorem F34ok (uu:Nat):(F34c uu).Ok Tryz.prog:=okE Tryz.f34 (F34k uu) (L1 (S34_4ok uu))
def F144 (uu:Nat) (a0:PV) (a1:Int) (a2:List UInt8) (a3:Bool):Option (Int):=
 (F145 uu).bind fun y1=>
 let x2:=(a0.fld 0).asStr
 let x3:=(PV.mget y1 (PV.str x2)).getD (PV.agg [(PV.int (0:Int)),(PV.int (0:Int))])
 bif (!(PV.mhas y1 (PV.str x2))) then
 some (8:Int)
 else
 let x8:=bif (decide (a1<(1:Int))) then true else (decide (a1>(6:Int)))
 bif imp (!x8) (decide (0≤a1)) then
 bif (bif x8 then true else ((bitsI .and .i64 (((x3.fld 1).asInt).fdiv (2^(min a1.toNat (IntKind.bits .i64)))) (1:Int))==(0:Int))) then
 some (1:Int)
 else
 (F72 uu a0).bind fun y14=>
 bif (!y14) then
 some (12:Int)
 else
 bif (bif a3 then (Op.bytesLess ((a0.fld 0).asStr) a2) else false) then
 some (11:Int)
 else
 bif (bif a3 then (((a0.fld 0).asStr)==a2) else false) then
 some (9:Int)
 else
 some (0:Int)
 else none
def F144c (uu:Nat):CallE:=⟨144,⟨4,[],[(.data 116),(.int .i64),.str,.bool]⟩,⟨1,[],[(.int .i64)]⟩,fun x=>F144 uu x.1 x.2.1 x.2.2.1 x.2.2.2,0⟩
theorem F144ok (uu:Nat):(F144c uu).Ok Tryz.prog:=okJ Tryz.f144 56 0 uu _ [] false (qc (F145ok uu)<|qc (F72ok uu)<|q0) (p0) L0
abbrev S70_6x:=Int×(List UInt8)×(List PV)×Int×Int
abbrev S70_6y:=(Int)⊕(Unit)
def S70_6 (uu:Nat) (a4:Int) (a5:List UInt8) (a6:List PV) (a7:Int) (a8:Int):Option (S70_6x⊕S70_6y):=
 bif (decide (a8<a7)) then
 bif inRange a8 a6.length then
 let x10:=a6.getD a8.toNat .bad
 (F144 uu x10 a4 a5 (decide (a8>(0:Int)))).bind fun y12=>
 bif (y12 != (0:Int)) then
 some (.inr (.inl y12))
 else
 some (.inl (a4,((x10.fld 0).asStr),a6,a7,(IntKind.wrap .i64 (a8+(1:Int)))))
 else none
 else
 some (.inr (.inr ()))
def S70_6step (uu:Nat) (x:S70_6x):Option (S70_6x⊕S70_6y):=S70_6 uu x.1 x.2.1 x.2.2.1 x.2.2.2.1 x.2.2.2.2
def F70 (uu:Nat) (a0:List PV) (a1:Int):Option (Int):=
 bif (decide ((a0.length:Int)>(8:Int))) then
 some (3:Int)
 else
 (loopQ uu (S70_6step uu) (a1,([]:List UInt8),a0,(a0.length:Int),(0:Int))).bind fun z=>sumE (fun y16=>
 some y16
 ) (fun y17=>
 some (0:Int)
 ) z
def S70_6l (uu:Nat):LoopE:=⟨6,⟨[1,5,12,13,14],[],(.int .i64)::.str::sv3⟩,[(.ret,⟨[4],[],[(.int .i64)]⟩),(.exit 0,⟨[],[],[]⟩)],S70_6step uu⟩
def F70C (uu:Nat):Cfg:=cfg Tryz.prog 31 0 [F144c uu] [S70_6l uu] uu
def F70c (uu:Nat):CallE:=⟨70,⟨2,[],[(.slice 116),(.int .i64)]⟩,⟨1,[],[(.int .i64)]⟩,fun x=>F70 uu x.1 x.2,0⟩
theorem F70k (uu:Nat):CallOk (F70C uu):=cfg_callOkP (qc (F144ok uu)<|q0) (p0)
theorem S70_6ok (uu:Nat):LoopOk (F70C uu) (lp (bodyOf Tryz.f70) 0):=okL (F70k uu) uu (S70_6l uu) L0
theorem F70ok (uu:Nat):(F70c uu).Ok Tryz.prog:=okE Tryz.f70 (F70k uu) (L1 (S70_6ok uu))
def F33 (uu:Nat) :Option (Bool):=
 (F34 uu [(PV.agg [(PV.str ([97,108,105,97,115]:List UInt8)),(PV.agg [(PV.int (7:Int)),(PV.int (0:Int)),(PV.str ([105,100]:List UInt8)),(PV.slice []),(PV.slice []),(PV.slice []),(PV.slice [])])]),(PV.agg [(PV.str ([109,105,110]:List UInt8)),(PV.agg [(PV.int (3:Int)),(PV.int (18446744073709551611:Int)),(PV.str ([]:List UInt8)),(PV.slice []),(PV.slice []),(PV.slice []),(PV.slice [])])])]).bind fun y1=>
 let x2:=y1==([91,97,108,105,97,115,32,61,32,34,105,100,34,44,32,109,105,110,32,61,32,45,53,93]:List UInt8)
 (bif x2 then F70 uu [(PV.agg [(PV.str ([97,108,105,97,115]:List UInt8)),(PV.agg [(PV.int (7:Int)),(PV.int (0:Int)),(PV.str ([105,100]:List UInt8)),(PV.slice []),(PV.slice []),(PV.slice []),(PV.slice [])])]),(PV.agg [(PV.str ([109,105,110]:List UInt8)),(PV.agg [(PV.int (3:Int)),(PV.int (18446744073709551611:Int)),(PV.str ([]:List UInt8)),(PV.slice []),(PV.slice []),(PV.slice []),(PV.slice [])])])] (2:Int) else some 0).bind fun y3=>
 let x5:=bif x2 then (y3==(0:Int)) else false
 (bif x5 then F70 uu [(PV.agg [(PV.str ([97,108,105,97,115]:List UInt8)),(PV.agg [(PV.int (7:Int)),(PV.int (0:Int)),(PV.str ([105,100]:List UInt8)),(PV.slice []),(PV.slice []),(PV.slice []),(PV.slice [])])]),(PV.agg [(PV.str ([109,105,110]:List UInt8)),(PV.agg [(PV.int (3:Int)),(PV.int (18446744073709551611:Int)),(PV.str ([]:List UInt8)),(PV.slice []),(PV.slice []),(PV.slice []),(PV.slice [])])])] (4:Int) else some 0).bind fun y6=>
 let x8:=bif x5 then (y6==(1:Int)) else false
 (bif x8 then F71 uu ([115,101,99,114,101,116]:List UInt8) else some 0).bind fun y9=>
 some (bif x8 then (y9==(1:Int)) else false)
def F33c (uu:Nat):CallE:=⟨33,⟨0,[],[]⟩,⟨1,[],[.bool]⟩,fun x=>F33 uu ,false⟩
theorem F33ok (uu:Nat):(F33c uu).Ok Tryz.prog:=okJ Tryz.f33 24 0 uu _ [] false (qc (F34ok uu)<|qc (F70ok uu)<|qc (F71ok uu)<|q0) (p0) L0
theorem awake08_run:F33 1000=some true:=isT_spec (by kernel_rfl)
def Lawake08 (uu:Nat):Option Bool:=some true
def Lawake08c (uu:Nat):CallE:={ f:=33,A:=⟨0,[],[]⟩,R:=⟨1,[],[.bool]⟩,F:=fun x=>Lawake08 uu,dflt:=false }
theorem awake08_fun (uu:Nat):(F33c uu).F=fun _=>F33 uu:=rfl
theorem Lawake08ok (uu:Nat):(Lawake08c uu).Ok Tryz.prog:=fun x y h=>F33ok 1000 () y ((congrFun (awake08_fun 1000) ()).trans (awake08_run.trans h))
def F231 (uu:Nat) (a0:Int):Option (Bool):=
 some (bif (bif (decide (a0≥(97:Int))) then (decide (a0≤(122:Int))) else false) then true else (bif (decide (a0≥(65:Int))) then (decide (a0≤(90:Int))) else false))
def F231c (uu:Nat):CallE:=⟨231,⟨1,[],[(.int .u8)]⟩,⟨1,[],[.bool]⟩,fun x=>F231 uu x,false⟩
theorem F231ok (uu:Nat):(F231c uu).Ok Tryz.prog:=okJ Tryz.f231 17 0 uu [] [] false (q0) (p0) L0
def F232 (uu:Nat) (a0:Int):Option (Bool):=
 some (bif (decide (a0≥(48:Int))) then (decide (a0≤(57:Int))) else false)
def F232c (uu:Nat):CallE:=⟨232,⟨1,[],[(.int .u8)]⟩,⟨1,[],[.bool]⟩,fun x=>F232 uu x,false⟩
theorem F232ok (uu:Nat):(F232c uu).Ok Tryz.prog:=okJ Tryz.f232 9 0 uu [] [] false (q0) (p0) L0
def F142 (uu:Nat) (a0:List UInt8):Option (Bool):=
 let x2:=(a0.length:Int)==(1:Int)
 (bif x2 then Lcontains uu ([123,125,91,93,40,41,60,62,61,59,44,64,45]:List UInt8) a0 else some false).bind fun y3=>
 some (bif x2 then y3 else false)
def F142c (uu:Nat):CallE:=⟨142,⟨1,[],[.str]⟩,⟨1,[],[.bool]⟩,fun x=>F142 uu x,false⟩
theorem F142ok (uu:Nat):(F142c uu).Ok Tryz.prog:=okJ Tryz.f142 10 0 uu _ [] false (qc (Lcontainsok uu)<|q0) (p0) L0
def F123 (uu:Nat) (a0:List UInt8):Option (Int):=
 bif inRange (0:Int) a0.length then
 let x1:=((a0.getD (0:Int).toNat 0).toNat:Int)
 bif (bif (bif (bif (x1==(32:Int)) then true else (x1==(9:Int))) then true else (x1==(13:Int))) then true else (x1==(10:Int))) then
 some (1:Int)
 else
 (F230 uu a0 ([47,47]:List UInt8)).bind fun y9=>
 bif y9 then
 some (2:Int)
 else
 (F231 uu x1).bind fun y10=>
 let x14:=bif (x1==(46:Int)) then (decide ((a0.length:Int)>(1:Int))) else false
 bif imp (bif x14 then !y10 else false) (inRange (1:Int) a0.length) then
 (bif bif x14 then !y10 else false then F231 uu ((a0.getD (1:Int).toNat 0).toNat:Int) else some false).bind fun y16=>
 bif (bif y10 then true else (bif x14 then y16 else false)) then
 some (3:Int)
 else
 (F232 uu x1).bind fun y19=>
 bif y19 then
 some (4:Int)
 else
 bif (x1==(34:Int)) then
 some (5:Int)
 else
 bif decide (0≤(0:Int)∧(0:Int)≤(1:Int)∧(1:Int)≤(a0.length:Int)) then
 (F142 uu ((a0.take (1:Int).toNat).drop (0:Int).toNat)).bind fun y22=>
 bif y22 then
 some (6:Int)
 else
 some (0:Int)
 else none
 else none
 else none
def F123c (uu:Nat):CallE:=⟨123,⟨1,[],[.str]⟩,⟨1,[],[(.int .i64)]⟩,fun x=>F123 uu x,0⟩
theorem F123ok (uu:Nat):(F123c uu).Ok Tryz.prog:=okJ Tryz.f123 51 0 uu _ [] false (qc (F230ok uu)<|qc (F231ok uu)<|qc (F232ok uu)<|qc (F142ok uu)<|q0) (p0) L0
def F125 (uu:Nat) (a0:Int):Option (Bool):=
 some (a0 != (10:Int))
def F125c (uu:Nat):CallE:=⟨125,⟨1,[],[(.int .u8)]⟩,⟨1,[],[.bool]⟩,fun x=>F125 uu x,false⟩
theorem F125ok (uu:Nat):(F125c uu).Ok Tryz.prog:=okJ Tryz.f125 5 0 uu [] [] false (q0) (p0) L0
abbrev S124_3x:=(List UInt8)×Unit×Int
abbrev S124_3y:=(Int)
def S124_3 (uu:Nat) (a1:List UInt8) (a2:Unit) (a3:Int):Option (S124_3x⊕S124_3y):=
 let x5:=decide (a3<(a1.length:Int))
 bif imp x5 (inRange a3 a1.length) then
 (bif x5 then F125 uu ((a1.getD a3.toNat 0).toNat:Int) else some false).bind fun y7=>
 bif (bif x5 then y7 else false) then
 some (.inl (a1,(),(IntKind.wrap .i64 (a3+(1:Int)))))
 else
 some (.inr a3)
 else none
def S124_3step (uu:Nat) (x:S124_3x):Option (S124_3x⊕S124_3y):=S124_3 uu x.1 x.2.1 x.2.2
def F124 (uu:Nat) (a0:List UInt8) (a1:Unit):Option (Int):=
 (loopQ uu (S124_3step uu) (a0,(),(0:Int))).bind fun y10=>
 some y10
def S124_3l (uu:Nat):LoopE:=⟨3,⟨[0,1,5],[],[.str,(.con (.fn 125 0 [])),(.int .i64)]⟩,[(.exit 0,⟨[5],[],[(.int .i64)]⟩)],S124_3step uu⟩
def F124C (uu:Nat):Cfg:=cfg Tryz.prog 20 0 [F125c uu] [S124_3l uu] uu
def F124c (uu:Nat):CallE:=⟨124,⟨2,[],[.str,(.con (.fn 125 0 []))]⟩,⟨1,[],[(.int .i64)]⟩,fun x=>F124 uu x.1 x.2,0⟩
theorem F124k (uu:Nat):CallOk (F124C uu):=cfg_callOkP (qc (F125ok uu)<|q0) (p0)
theorem S124_3ok (uu:Nat):LoopOk (F124C uu) (lp (bodyOf Tryz.f124) 0):=okL (F124k uu) uu (S124_3l uu) L0
theorem F124ok (uu:Nat):(F124c uu).Ok Tryz.prog:=okE Tryz.f124 (F124k uu) (L1 (S124_3ok uu))
def S59_3 (uu:Nat) (a1:List UInt8) (a2:Int):Option (((List UInt8)×Int)⊕((Int)⊕(Int))):=
 bif (decide (a2<(a1.length:Int))) then
 bif decide (0≤a2∧a2≤(a1.length:Int)∧(a1.length:Int)≤(a1.length:Int)) then
 (F123 uu ((a1.take (a1.length:Int).toNat).drop a2.toNat)).bind fun y6=>
 bif (y6==(1:Int)) then
 some (.inl (a1,(IntKind.wrap .i64 (a2+(1:Int)))))
 else
 bif (y6==(2:Int)) then
 bif decide (0≤a2∧a2≤(a1.length:Int)∧(a1.length:Int)≤(a1.length:Int)) then
 (F124 uu ((a1.take (a1.length:Int).toNat).drop a2.toNat) ()).bind fun y11=>
 some (.inl (a1,(IntKind.wrap .i64 (a2+y11))))
 else none
 else
 some (.inr (.inl a2))
 else none
 else
 some (.inr (.inr a2))
def S59_3step (uu:Nat) (x:(List UInt8)×Int):Option (((List UInt8)×Int)⊕((Int)⊕(Int))):=S59_3 uu x.1 x.2
def F59 (uu:Nat) (a0:List UInt8):Option (Int):=
 (loopQ uu (S59_3step uu) (a0,(0:Int))).bind fun z=>sumE (fun y13=>
 some y13
 ) (fun y14=>
 some y14
 ) z
def S59_3l (uu:Nat):LoopE:=⟨3,⟨[0,3],[],sv0⟩,[(.ret,⟨[2],[],[(.int .i64)]⟩),(.exit 0,⟨[3],[],[(.int .i64)]⟩)],S59_3step uu⟩
def F59C (uu:Nat):Cfg:=cfg Tryz.prog 26 0 [F123c uu,F124c uu] [S59_3l uu] uu
def F59c (uu:Nat):CallE:=⟨59,⟨1,[],[.str]⟩,⟨1,[],[(.int .i64)]⟩,fun x=>F59 uu x,0⟩
theorem F59k (uu:Nat):CallOk (F59C uu):=cfg_callOkP (qc (F123ok uu)<|qc (F124ok uu)<|q0) (p0)
theorem S59_3ok (uu:Nat):LoopOk (F59C uu) (lp (bodyOf Tryz.f59) 0):=okL (F59k uu) uu (S59_3l uu) L0
theorem F59ok (uu:Nat):(F59c uu).Ok Tryz.prog:=okE Tryz.f59 (F59k uu) (L1 (S59_3ok uu))
def F235 (uu:Nat) (a0:Int):Option (Bool):=
 (F231 uu a0).bind fun y1=>
 (bif !y1 then F232 uu a0 else some false).bind fun y2=>
 some (bif (bif y1 then true else y2) then true else (a0==(95:Int)))
def F235c (uu:Nat):CallE:=⟨235,⟨1,[],[(.int .u8)]⟩,⟨1,[],[.bool]⟩,fun x=>F235 uu x,false⟩
theorem F235ok (uu:Nat):(F235c uu).Ok Tryz.prog:=okJ Tryz.f235 13 0 uu _ [] false (qc (F231ok uu)<|qc (F232ok uu)<|q0) (p0) L0
abbrev S124_v1_3x:=(List UInt8)×Unit×Int
abbrev S124_v1_3y:=(Int)
def S124_v1_3 (uu:Nat) (a1:List UInt8) (a2:Unit) (a3:Int):Option (S124_v1_3x⊕S124_v1_3y):=
 let x5:=decide (a3<(a1.length:Int))
 bif imp x5 (inRange a3 a1.length) then
 (bif x5 then F235 uu ((a1.getD a3.toNat 0).toNat:Int) else some false).bind fun y7=>
 bif (bif x5 then y7 else false) then
 some (.inl (a1,(),(IntKind.wrap .i64 (a3+(1:Int)))))
 else
 some (.inr a3)
 else none
def S124_v1_3step (uu:Nat) (x:S124_v1_3x):Option (S124_v1_3x⊕S124_v1_3y):=S124_v1_3 uu x.1 x.2.1 x.2.2
def F124_v1 (uu:Nat) (a0:List UInt8) (a1:Unit):Option (Int):=
 (loopQ uu (S124_v1_3step uu) (a0,(),(0:Int))).bind fun y10=>
 some y10
def S124_v1_3l (uu:Nat):LoopE:=⟨3,⟨[0,1,5],[],[.str,(.con (.fn 235 0 [])),(.int .i64)]⟩,[(.exit 0,⟨[5],[],[(.int .i64)]⟩)],S124_v1_3step uu⟩
def F124_v1C (uu:Nat):Cfg:=cfg Tryz.prog 20 0 [F235c uu] [S124_v1_3l uu] uu
def F124_v1c (uu:Nat):CallE:=⟨124,⟨2,[],[.str,(.con (.fn 235 0 []))]⟩,⟨1,[],[(.int .i64)]⟩,fun x=>F124_v1 uu x.1 x.2,0⟩
theorem F124_v1k (uu:Nat):CallOk (F124_v1C uu):=cfg_callOkP (qc (F235ok uu)<|q0) (p0)
theorem S124_v1_3ok (uu:Nat):LoopOk (F124_v1C uu) (lp (bodyOf Tryz.f124) 0):=okL (F124_v1k uu) uu (S124_v1_3l uu) L0
theorem F124_v1ok (uu:Nat):(F124_v1c uu).Ok Tryz.prog:=okE Tryz.f124 (F124_v1k uu) (L1 (S124_v1_3ok uu))
def S234_5 (uu:Nat) (a3:List UInt8) (a4:Int):Option (((List UInt8)×Int)⊕((Int))):=
 bif decide (0≤a4∧a4≤(a3.length:Int)∧(a3.length:Int)≤(a3.length:Int)) then
 (F124_v1 uu ((a3.take (a3.length:Int).toNat).drop a4.toNat) ()).bind fun y6=>
 let x7:=IntKind.wrap .i64 (a4+y6)
 let x10:=decide ((IntKind.wrap .i64 (x7+(1:Int)))≥(a3.length:Int))
 bif imp (!x10) (inRange x7 a3.length) then
 let x13:=bif x10 then true else (((a3.getD x7.toNat 0).toNat:Int) != (46:Int))
 let x14:=IntKind.wrap .i64 (x7+(1:Int))
 bif imp (!x13) (inRange x14 a3.length) then
 (bif !x13 then F231 uu ((a3.getD x14.toNat 0).toNat:Int) else some false).bind fun y16=>
 bif (bif x13 then true else (!y16)) then
 some (.inr x7)
 else
 some (.inl (a3,(IntKind.wrap .i64 (x7+(1:Int)))))
 else none
 else none
 else none
def S234_5step (uu:Nat) (x:(List UInt8)×Int):Option (((List UInt8)×Int)⊕((Int))):=S234_5 uu x.1 x.2
def F234 (uu:Nat) (a0:List UInt8):Option (Int):=
 bif inRange (0:Int) a0.length then
 bif (((a0.getD (0:Int).toNat 0).toNat:Int)==(46:Int)) then
 (loopQ uu (S234_5step uu) (a0,(1:Int))).bind fun y20=>
 some y20
 else
 (loopQ uu (S234_5step uu) (a0,(0:Int))).bind fun y21=>
 some y21
 else none
def S234_5l (uu:Nat):LoopE:=⟨5,⟨[0,3],[],sv0⟩,[(.ret,⟨[2],[],[(.int .i64)]⟩)],S234_5step uu⟩
def F234C (uu:Nat):Cfg:=cfg Tryz.prog 35 0 [F124_v1c uu,F231c uu] [S234_5l uu] uu
def F234c (uu:Nat):CallE:=⟨234,⟨1,[],[.str]⟩,⟨1,[],[(.int .i64)]⟩,fun x=>F234 uu x,0⟩
theorem F234k (uu:Nat):CallOk (F234C uu):=cfg_callOkP (qc (F124_v1ok uu)<|qc (F231ok uu)<|q0) (p0)
theorem S234_5ok (uu:Nat):LoopOk (F234C uu) (lp (bodyOf Tryz.f234) 0):=okL (F234k uu) uu (S234_5l uu) L0
theorem F234ok (uu:Nat):(F234c uu).Ok Tryz.prog:=okE Tryz.f234 (F234k uu) (L1 (S234_5ok uu))
def F245 (uu:Nat) (a0:List UInt8) (a1:List UInt8):Option ((List UInt8)):=
 (F297 uu a0 a1).bind fun y1=>
 bif y1 then
 let x2:=(a1.length:Int)
 bif decide (0≤x2∧x2≤(a0.length:Int)∧(a0.length:Int)≤(a0.length:Int)) then
 some ((a0.take (a0.length:Int).toNat).drop x2.toNat)
 else none
 else
 some a0
def F245c (uu:Nat):CallE:=⟨245,⟨2,[],[.str,.str]⟩,⟨1,[],[.str]⟩,fun x=>F245 uu x.1 x.2,[]⟩
theorem F245ok (uu:Nat):(F245c uu).Ok Tryz.prog:=okJ Tryz.f245 13 0 uu _ [] false (qc (F297ok uu)<|q0) (p0) L0
def F141 (uu:Nat) (a0:List UInt8) (a1:List UInt8):Option ((List UInt8)):=
 (F245 uu a0 a1).bind fun y1=>
 some y1
def F141c (uu:Nat):CallE:=⟨141,⟨2,[],[.str,.str]⟩,⟨1,[],[.str]⟩,fun x=>F141 uu x.1 x.2,[]⟩
theorem F141ok (uu:Nat):(F141c uu).Ok Tryz.prog:=okJ Tryz.f141 8 0 uu _ [] false (qc (F245ok uu)<|q0) (p0) L0
def F285 (uu:Nat) (a0:Int):Option (Int):=
 bif (bif (decide (a0≥(97:Int))) then (decide (a0≤(122:Int))) else false) then
 some (1:Int)
 else
 bif (bif (decide (a0≥(65:Int))) then (decide (a0≤(90:Int))) else false) then
 some (2:Int)
 else
 bif (bif (decide (a0≥(48:Int))) then (decide (a0≤(57:Int))) else false) then
 some (3:Int)
 else
 bif (a0==(95:Int)) then
 some (4:Int)
 else
 some (0:Int)
def F285c (uu:Nat):CallE:=⟨285,⟨1,[],[(.int .i32)]⟩,⟨1,[],[(.int .i64)]⟩,fun x=>F285 uu x,0⟩
theorem F285ok (uu:Nat):(F285c uu).Ok Tryz.prog:=okJ Tryz.f285 27 0 uu [] [] false (q0) (p0) L0
abbrev S202_3x:=(List UInt8)×Unit×(List UInt8)×Int
abbrev S202_3y:=(Bool×(List UInt8)×Int)⊕((List UInt8)×(List UInt8)×Int)
def S202_3 (uu:Nat) (a1:List UInt8) (a2:Unit) (a3:List UInt8) (a4:Int):Option (S202_3x⊕S202_3y):=
 bif (decide (a4.toNat<a3.length)) then
 bif decide (a4.toNat<a3.length) then
 bif decide (a4.toNat<a3.length) then
 (F285 uu ((Utf8.decode ⟨a3.toArray⟩ a4.toNat).1:Int)).bind fun y8=>
 bif (bif (y8==(0:Int)) then true else (bif (bif ((a4.toNat:Int)==(0:Int)) then (y8 != (1:Int)) else false) then (y8 != (2:Int)) else false)) then
 some (.inr (.inl (false,a3,((bif decide (a4.toNat<a3.length) then a4.toNat+(Utf8.decode ⟨a3.toArray⟩ a4.toNat).2 else a4.toNat:Nat):Int))))
 else
 some (.inl (a1,(),a3,((bif decide (a4.toNat<a3.length) then a4.toNat+(Utf8.decode ⟨a3.toArray⟩ a4.toNat).2 else a4.toNat:Nat):Int)))
 else none
 else none
 else
 some (.inr (.inr (a1,a3,((bif decide (a4.toNat<a3.length) then a4.toNat+(Utf8.decode ⟨a3.toArray⟩ a4.toNat).2 else a4.toNat:Nat):Int))))
def S202_3step (uu:Nat) (x:S202_3x):Option (S202_3x⊕S202_3y):=S202_3 uu x.1 x.2.1 x.2.2.1 x.2.2.2
def F202 (uu:Nat) (a0:List UInt8):Option (Bool):=
 (loopQ uu (S202_3step uu) (a0,(),a0,((0:Nat):Int))).bind fun z=>sumE (fun y16=>
 some y16.1
 ) (fun y17=>
 some (bif (decide ((y17.1.length:Int)≥(1:Int))) then (decide ((y17.1.length:Int)≤(40:Int))) else false)
 ) z
def S202_3l (uu:Nat):LoopE:=⟨3,⟨[0,7],[.iter],.str::(.con (.iref 0))::sv0⟩,[(.ret,⟨[2],[.iter],.bool::sv0⟩),(.exit 0,⟨[0],[.iter],sv1⟩)],S202_3step uu⟩
def F202C (uu:Nat):Cfg:=cfg Tryz.prog 36 0 [F285c uu] [S202_3l uu] uu
def F202c (uu:Nat):CallE:=⟨202,⟨1,[],[.str]⟩,⟨1,[],[.bool]⟩,fun x=>F202 uu x,false⟩
theorem F202k (uu:Nat):CallOk (F202C uu):=cfg_callOkP (qc (F285ok uu)<|q0) (p0)
theorem S202_3ok (uu:Nat):LoopOk (F202C uu) (lp (bodyOf Tryz.f202) 0):=okL (F202k uu) uu (S202_3l uu) L0
theorem F202ok (uu:Nat):(F202c uu).Ok Tryz.prog:=okE Tryz.f202 (F202k uu) (L1 (S202_3ok uu))
abbrev S140_3x:=(List UInt8)×(List PV)×Int×Int
abbrev S140_3y:=(Bool)⊕((List UInt8))
def S140_3 (uu:Nat) (a3:List UInt8) (a4:List PV) (a5:Int) (a6:Int):Option (S140_3x⊕S140_3y):=
 bif (decide (a6<a5)) then
 bif inRange a6 a4.length then
 (F202 uu (a4.getD a6.toNat .bad).asStr).bind fun y10=>
 bif (!y10) then
 some (.inr (.inl false))
 else
 some (.inl (a3,a4,a5,(IntKind.wrap .i64 (a6+(1:Int)))))
 else none
 else
 some (.inr (.inr a3))
def S140_3step (uu:Nat) (x:S140_3x):Option (S140_3x⊕S140_3y):=S140_3 uu x.1 x.2.1 x.2.2.1 x.2.2.2
def F140 (uu:Nat) (a0:List UInt8):Option (Bool):=
 (Lsplit uu a0 ([46]:List UInt8)).bind fun y1=>
 (loopQ uu (S140_3step uu) (a0,y1,(y1.length:Int),(0:Int))).bind fun z=>sumE (fun y13=>
 some y13
 ) (fun y14=>
 some (decide ((y14.length:Int)≤(120:Int)))
 ) z
def S140_3l (uu:Nat):LoopE:=⟨3,⟨[0,6,7,8],[],.str::(.slice 9)::sv2⟩,[(.ret,⟨[2],[],[.bool]⟩),(.exit 0,⟨[0],[],[.str]⟩)],S140_3step uu⟩
def F140C (uu:Nat):Cfg:=cfg Tryz.prog 19 0 [Lsplitc uu,F202c uu] [S140_3l uu] uu
def F140c (uu:Nat):CallE:=⟨140,⟨1,[],[.str]⟩,⟨1,[],[.bool]⟩,fun x=>F140 uu x,false⟩
theorem F140k (uu:Nat):CallOk (F140C uu):=cfg_callOkP (qc (Lsplitok uu)<|qc (F202ok uu)<|q0) (p0)
theorem S140_3ok (uu:Nat):LoopOk (F140C uu) (lp (bodyOf Tryz.f140) 0):=okL (F140k uu) uu (S140_3l uu) L0
theorem F140ok (uu:Nat):(F140c uu).Ok Tryz.prog:=okE Tryz.f140 (F140k uu) (L1 (S140_3ok uu))
def F129 (uu:Nat) (a0:List UInt8):Option (PV×Int×Int):=
 (F234 uu a0).bind fun y1=>
 bif decide (0≤(0:Int)∧(0:Int)≤y1∧y1≤(a0.length:Int)) then
 (F141 uu ((a0.take y1.toNat).drop (0:Int).toNat) ([46]:List UInt8)).bind fun y3=>
 (F140 uu y3).bind fun y4=>
 bif (!y4) then
 some ((PV.agg [(PV.int (0:Int)),(PV.str ([]:List UInt8)),(PV.int (0:Int)),(PV.int (0:Int))]),(0:Int),(8:Int))
 else
 bif decide (0≤(0:Int)∧(0:Int)≤y1∧y1≤(a0.length:Int)) then
 some ((PV.agg [(PV.int (1:Int)),(PV.str ((a0.take y1.toNat).drop (0:Int).toNat)),(PV.int (0:Int)),(PV.int (0:Int))]),y1,(0:Int))
 else none
 else none
def F129c (uu:Nat):CallE:=⟨129,⟨1,[],[.str]⟩,⟨3,[],sv4⟩,fun x=>F129 uu x,(PV.bad,0,0)⟩
theorem F129ok (uu:Nat):(F129c uu).Ok Tryz.prog:=okJ Tryz.f129 20 0 uu _ [] false (qc (F234ok uu)<|qc (F141ok uu)<|qc (F140ok uu)<|q0) (p0) L0
abbrev S124_v2_3x:=(List UInt8)×Unit×Int
abbrev S124_v2_3y:=(Int)
def S124_v2_3 (uu:Nat) (a1:List UInt8) (a2:Unit) (a3:Int):Option (S124_v2_3x⊕S124_v2_3y):=
 let x5:=decide (a3<(a1.length:Int))
 bif imp x5 (inRange a3 a1.length) then
 (bif x5 then F232 uu ((a1.getD a3.toNat 0).toNat:Int) else some false).bind fun y7=>
 bif (bif x5 then y7 else false) then
 some (.inl (a1,(),(IntKind.wrap .i64 (a3+(1:Int)))))
 else
 some (.inr a3)
 else none
def S124_v2_3step (uu:Nat) (x:S124_v2_3x):Option (S124_v2_3x⊕S124_v2_3y):=S124_v2_3 uu x.1 x.2.1 x.2.2
def F124_v2 (uu:Nat) (a0:List UInt8) (a1:Unit):Option (Int):=
 (loopQ uu (S124_v2_3step uu) (a0,(),(0:Int))).bind fun y10=>
 some y10
def S124_v2_3l (uu:Nat):LoopE:=⟨3,⟨[0,1,5],[],[.str,(.con (.fn 232 0 [])),(.int .i64)]⟩,[(.exit 0,⟨[5],[],[(.int .i64)]⟩)],S124_v2_3step uu⟩
def F124_v2C (uu:Nat):Cfg:=cfg Tryz.prog 20 0 [F232c uu] [S124_v2_3l uu] uu
def F124_v2c (uu:Nat):CallE:=⟨124,⟨2,[],[.str,(.con (.fn 232 0 []))]⟩,⟨1,[],[(.int .i64)]⟩,fun x=>F124_v2 uu x.1 x.2,0⟩
theorem F124_v2k (uu:Nat):CallOk (F124_v2C uu):=cfg_callOkP (qc (F232ok uu)<|q0) (p0)
theorem S124_v2_3ok (uu:Nat):LoopOk (F124_v2C uu) (lp (bodyOf Tryz.f124) 0):=okL (F124_v2k uu) uu (S124_v2_3l uu) L0
theorem F124_v2ok (uu:Nat):(F124_v2c uu).Ok Tryz.prog:=okE Tryz.f124 (F124_v2k uu) (L1 (S124_v2_3ok uu))
def F130 (uu:Nat) (a0:List UInt8):Option (PV×Int×Int):=
 (F124_v2 uu a0 ()).bind fun y1=>
 let x2:=decide (y1>(1:Int))
 bif imp x2 (inRange (0:Int) a0.length) then
 let x5:=bif x2 then (((a0.getD (0:Int).toNat 0).toNat:Int)==(48:Int)) else false
 let x7:=decide (y1<(a0.length:Int))
 bif imp (bif x7 then !x5 else false) (inRange y1 a0.length) then
 (bif bif x7 then !x5 else false then F235 uu ((a0.getD y1.toNat 0).toNat:Int) else some false).bind fun y9=>
 bif (bif x5 then true else (bif x7 then y9 else false)) then
 some ((PV.agg [(PV.int (0:Int)),(PV.str ([]:List UInt8)),(PV.int (0:Int)),(PV.int (0:Int))]),(0:Int),(2:Int))
 else
 bif decide (0≤(0:Int)∧(0:Int)≤y1∧y1≤(a0.length:Int)) then
 (LparseUint uu ((a0.take y1.toNat).drop (0:Int).toNat) (10:Int) (64:Int)).bind fun y13=>
 bif (!y13.2) then
 some ((PV.agg [(PV.int (0:Int)),(PV.str ([]:List UInt8)),(PV.int (0:Int)),(PV.int (0:Int))]),(0:Int),(6:Int))
 else
 some ((PV.agg [(PV.int (2:Int)),(PV.str ([]:List UInt8)),(PV.int (IntKind.wrap .i64 y13.1)),(PV.int (0:Int))]),y1,(0:Int))
 else none
 else none
 else none
def F130c (uu:Nat):CallE:=⟨130,⟨1,[],[.str]⟩,⟨3,[],sv4⟩,fun x=>F130 uu x,(PV.bad,0,0)⟩
theorem F130ok (uu:Nat):(F130c uu).Ok Tryz.prog:=okJ Tryz.f130 44 0 uu _ [] false (qc (F124_v2ok uu)<|qc (F235ok uu)<|qc (LparseUintok uu)<|q0) (p0) L0
def F304 (uu:Nat) (a0:Int):Option (Int×Bool):=
 bif (a0==(34:Int)) then
 some (a0,true)
 else
 bif (a0==(92:Int)) then
 some (a0,true)
 else
 bif (a0==(110:Int)) then
 some ((10:Int),true)
 else
 bif (a0==(116:Int)) then
 some ((9:Int),true)
 else
 bif (a0==(114:Int)) then
 some ((13:Int),true)
 else
 some ((0:Int),false)
def F304c (uu:Nat):CallE:=⟨304,⟨1,[],[(.int .u8)]⟩,⟨2,[],[(.int .u8),.bool]⟩,fun x=>F304 uu x,(0,false)⟩
theorem F304ok (uu:Nat):(F304c uu).Ok Tryz.prog:=okJ Tryz.f304 15 0 uu [] [] false (q0) (p0) L0
def F305 (uu:Nat) (a0:Int):Option (Int):=
 (LindexByte uu ([48,49,50,51,52,53,54,55,56,57,97,98,99,100,101,102]:List UInt8) a0).bind fun y1=>
 some y1
def F305c (uu:Nat):CallE:=⟨305,⟨1,[],[(.int .u8)]⟩,⟨1,[],[(.int .i64)]⟩,fun x=>F305 uu x,0⟩
theorem F305ok (uu:Nat):(F305c uu).Ok Tryz.prog:=okJ Tryz.f305 5 0 uu _ [] false (qc (LindexByteok uu)<|q0) (p0) L0
def F237 (uu:Nat) (a0:List UInt8) (a1:Int):Option (Int×Int):=
 bif (decide ((IntKind.wrap .i64 (a1+(1:Int)))≥(a0.length:Int))) then
 some ((0:Int),(0:Int))
 else
 let x4:=IntKind.wrap .i64 (a1+(1:Int))
 bif inRange x4 a0.length then
 (F304 uu ((a0.getD x4.toNat 0).toNat:Int)).bind fun y6=>
 bif y6.2 then
 some (y6.1,(2:Int))
 else
 let x9:=IntKind.wrap .i64 (a1+(1:Int))
 bif inRange x9 a0.length then
 let x15:=bif (((a0.getD x9.toNat 0).toNat:Int) != (120:Int)) then true else (decide ((IntKind.wrap .i64 (a1+(3:Int)))≥(a0.length:Int)))
 let x16:=IntKind.wrap .i64 (a1+(2:Int))
 bif imp (!x15) (inRange x16 a0.length) then
 (bif !x15 then F305 uu ((a0.getD x16.toNat 0).toNat:Int) else some 0).bind fun y18=>
 let x20:=bif x15 then true else (decide (y18<(0:Int)))
 let x21:=IntKind.wrap .i64 (a1+(3:Int))
 bif imp (!x20) (inRange x21 a0.length) then
 (bif !x20 then F305 uu ((a0.getD x21.toNat 0).toNat:Int) else some 0).bind fun y23=>
 bif (bif x20 then true else (decide (y23<(0:Int)))) then
 some ((0:Int),(0:Int))
 else
 let x26:=IntKind.wrap .i64 (a1+(2:Int))
 bif inRange x26 a0.length then
 (F305 uu ((a0.getD x26.toNat 0).toNat:Int)).bind fun y28=>
 let x29:=IntKind.wrap .i64 (y28*2^(min (4:Int).toNat (IntKind.bits .i64)))
 let x30:=IntKind.wrap .i64 (a1+(3:Int))
 bif inRange x30 a0.length then
 (F305 uu ((a0.getD x30.toNat 0).toNat:Int)).bind fun y32=>
 some ((IntKind.wrap .u8 (bitsI .or .i64 x29 y32)),(4:Int))
 else none
 else none
 else none
 else none
 else none
 else none
def F237c (uu:Nat):CallE:=⟨237,⟨2,[],sv0⟩,⟨2,[],[(.int .u8),(.int .i64)]⟩,fun x=>F237 uu x.1 x.2,(0,0)⟩
theorem F237ok (uu:Nat):(F237c uu).Ok Tryz.prog:=okJ Tryz.f237 64 0 uu _ [] false (qc (F304ok uu)<|qc (F305ok uu)<|q0) (p0) L0
abbrev S131_6x:=(List UInt8)×(List PV)×Int
abbrev S131_6y:=((List UInt8)×Int×Int)⊕((List UInt8)×(List PV)×Int)
def S131_6 (uu:Nat) (a5:List UInt8) (a6:List PV) (a7:Int):Option (S131_6x⊕S131_6y):=
 let x9:=decide (a7<(a5.length:Int))
 bif imp x9 (inRange a7 a5.length) then
 bif (bif x9 then (((a5.getD a7.toNat 0).toNat:Int) != (34:Int)) else false) then
 bif inRange a7 a5.length then
 let x13:=((a5.getD a7.toNat 0).toNat:Int)
 bif (x13==(92:Int)) then
 (F237 uu a5 a7).bind fun y15=>
 let x16:=y15.1
 let x17:=y15.2
 bif (x17==(0:Int)) then
 some (.inr (.inl (([]:List UInt8),(0:Int),(2:Int))))
 else
 bif decide (a6.length+[(PV.int x16)].length≤accMax) then
 some (.inl (a5,(a6++[(PV.int x16)]),(IntKind.wrap .i64 (a7+x17))))
 else none
 else
 bif ((1:Int)==(0:Int)) then
 some (.inr (.inl (([]:List UInt8),(0:Int),(2:Int))))
 else
 bif decide (a6.length+[(PV.int x13)].length≤accMax) then
 some (.inl (a5,(a6++[(PV.int x13)]),(IntKind.wrap .i64 (a7+(1:Int)))))
 else none
 else none
 else
 some (.inr (.inr (a5,a6,a7)))
 else none
def S131_6step (uu:Nat) (x:S131_6x):Option (S131_6x⊕S131_6y):=S131_6 uu x.1 x.2.1 x.2.2
def F131 (uu:Nat) (a0:List UInt8):Option ((List UInt8)×Int×Int):=
 let x1:=a0==([]:List UInt8)
 bif imp (!x1) (inRange (0:Int) a0.length) then
 bif (bif x1 then true else (((a0.getD (0:Int).toNat 0).toNat:Int) != (34:Int))) then
 some (([]:List UInt8),(0:Int),(2:Int))
 else
 (loopQ uu (S131_6step uu) (a0,[],(1:Int))).bind fun z=>sumE (fun y24=>
 some (y24.1,y24.2.1,y24.2.2)
 ) (fun y25=>
 let x27:=y25.2.1.map byteOfPV
 let x31:=decide (y25.2.2≥(y25.1.length:Int))
 (bif !x31 then F134 uu x27 else some []).bind fun y32=>
 let x33:=y25.1
 let x35:=IntKind.wrap .i64 (y25.2.2+(1:Int))
 bif imp (!x31) (decide (0≤(0:Int)∧(0:Int)≤x35∧x35≤(x33.length:Int))) then
 bif (bif x31 then true else (!(y32==((x33.take x35.toNat).drop (0:Int).toNat)))) then
 some (([]:List UInt8),(0:Int),(2:Int))
 else
 some (x27,(IntKind.wrap .i64 (y25.2.2+(1:Int))),(0:Int))
 else none
 ) z
 else none
def S131_6l (uu:Nat):LoopE:=⟨6,⟨[0,5,6],bx1,sv5⟩,[(.ret,⟨[2,3,4],bx1,sv6⟩),(.exit 0,⟨[0,5,6],bx1,sv5⟩)],S131_6step uu⟩
def F131C (uu:Nat):Cfg:=cfg Tryz.prog 65 0 [F237c uu,F134c uu] [S131_6l uu] uu
def F131c (uu:Nat):CallE:=⟨131,⟨1,[],[.str]⟩,⟨3,[],sv6⟩,fun x=>F131 uu x,([],0,0)⟩
theorem F131k (uu:Nat):CallOk (F131C uu):=cfg_callOkP (qc (F237ok uu)<|qc (F134ok uu)<|q0) (p0)
theorem S131_6ok (uu:Nat):LoopOk (F131C uu) (lp (bodyOf Tryz.f131) 0):=okL (F131k uu) uu (S131_6l uu) L0
theorem F131ok (uu:Nat):(F131c uu).Ok Tryz.prog:=okE Tryz.f131 (F131k uu) (L1 (S131_6ok uu))
def F61 (uu:Nat) (a0:List UInt8):Option (PV×Int×Int):=
 (F123 uu a0).bind fun y1=>
 bif (y1==(3:Int)) then
 (F129 uu a0).bind fun y3=>
 some (y3.1,y3.2.1,y3.2.2)
 else
 bif (y1==(4:Int)) then
 (F130 uu a0).bind fun y8=>
 some (y8.1,y8.2.1,y8.2.2)
 else
 bif (y1==(5:Int)) then
 (F131 uu a0).bind fun y13=>
 some ((PV.agg [(PV.int (3:Int)),(PV.str y13.1),(PV.int (0:Int)),(PV.int (0:Int))]),y13.2.1,y13.2.2)
 else
 bif (y1==(6:Int)) then
 bif decide (0≤(0:Int)∧(0:Int)≤(1:Int)∧(1:Int)≤(a0.length:Int)) then
 some ((PV.agg [(PV.int (4:Int)),(PV.str ((a0.take (1:Int).toNat).drop (0:Int).toNat)),(PV.int (0:Int)),(PV.int (0:Int))]),(1:Int),(0:Int))
 else none
 else
 some ((PV.agg [(PV.int (0:Int)),(PV.str ([]:List UInt8)),(PV.int (0:Int)),(PV.int (0:Int))]),(0:Int),(2:Int))
def F61c (uu:Nat):CallE:=⟨61,⟨1,[],[.str]⟩,⟨3,[],sv4⟩,fun x=>F61 uu x,(PV.bad,0,0)⟩
theorem F61ok (uu:Nat):(F61c uu).Ok Tryz.prog:=okJ Tryz.f61 42 0 uu _ [] false (qc (F123ok uu)<|qc (F129ok uu)<|qc (F130ok uu)<|qc (F131ok uu)<|q0) (p0) L0
abbrev S28_7x:=(List UInt8)×(List PV)×Int×Int
abbrev S28_7y:=((List PV))⊕((List PV)×Int×Int)
def S28_7 (uu:Nat) (a3:List UInt8) (a4:List PV) (a5:Int) (a6:Int):Option (S28_7x⊕S28_7y):=
 bif (decide (a6<(a3.length:Int))) then
 bif decide (0≤a6∧a6≤(a3.length:Int)∧(a3.length:Int)≤(a3.length:Int)) then
 (F59 uu ((a3.take (a3.length:Int).toNat).drop a6.toNat)).bind fun y10=>
 let x11:=IntKind.wrap .i64 (a6+y10)
 bif decide (0≤a6∧a6≤x11∧x11≤(a3.length:Int)) then
 (Lcount uu ((a3.take x11.toNat).drop a6.toNat) ([10]:List UInt8)).bind fun y13=>
 let x14:=IntKind.wrap .i64 (a5+y13)
 let x15:=IntKind.wrap .i64 (a6+y10)
 bif (x15==(a3.length:Int)) then
 some (.inr (.inl a4))
 else
 bif decide (0≤x15∧x15≤(a3.length:Int)∧(a3.length:Int)≤(a3.length:Int)) then
 (F61 uu ((a3.take (a3.length:Int).toNat).drop x15.toNat)).bind fun y19=>
 let x20:=y19.1
 let x21:=y19.2.1
 let x22:=y19.2.2
 bif (x22 != (0:Int)) then
 some (.inr (.inr ([],x14,x22)))
 else
 let x24:=(x20.fld 0).asInt
 let x25:=(x20.fld 1).asStr
 let x26:=(x20.fld 2).asInt
 bif decide (a4.length+[(PV.agg [(PV.int x24),(PV.str x25),(PV.int x26),(PV.int x14)])].length≤accMax) then
 let x27:=a4++[(PV.agg [(PV.int x24),(PV.str x25),(PV.int x26),(PV.int x14)])]
 let x28:=IntKind.wrap .i64 (x15+x21)
 bif decide (0≤x15∧x15≤x28∧x28≤(a3.length:Int)) then
 (Lcount uu ((a3.take x28.toNat).drop x15.toNat) ([10]:List UInt8)).bind fun y30=>
 some (.inl (a3,x27,(IntKind.wrap .i64 (x14+y30)),(IntKind.wrap .i64 (x15+x21))))
 else none
 else none
 else none
 else none
 else none
 else
 some (.inr (.inl a4))
def S28_7step (uu:Nat) (x:S28_7x):Option (S28_7x⊕S28_7y):=S28_7 uu x.1 x.2.1 x.2.2.1 x.2.2.2
def F28 (uu:Nat) (a0:List UInt8):Option ((List PV)×Int×Int):=
 bif (decide ((a0.length:Int)>(16384:Int))) then
 some ([],(0:Int),(3:Int))
 else
 (loopQ uu (S28_7step uu) (a0,[],(1:Int),(0:Int))).bind fun z=>sumE (fun y33=>
 some (y33,(0:Int),(0:Int))
 ) (fun y34=>
 some (y34.1,y34.2.1,y34.2.2)
 ) z
def S28_7l (uu:Nat):LoopE:=⟨7,⟨[0,5,6,7],bx1,.str::(.acc 0 72)::sv2⟩,[(.exit 0,⟨[5],bx1,[(.acc 0 72)]⟩),(.ret,⟨[2,3,4],bx1,(.slice 72)::sv2⟩)],S28_7step uu⟩
def F28C (uu:Nat):Cfg:=cfg Tryz.prog 69 0 [F59c uu,Lcountc uu,F61c uu] [S28_7l uu] uu
def F28c (uu:Nat):CallE:=⟨28,⟨1,[],[.str]⟩,⟨3,[],(.slice 72)::sv2⟩,fun x=>F28 uu x,([],0,0)⟩
theorem F28k (uu:Nat):CallOk (F28C uu):=cfg_callOkP (qc (F59ok uu)<|qc (Lcountok uu)<|qc (F61ok uu)<|q0) (p0)
theorem S28_7ok (uu:Nat):LoopOk (F28C uu) (lp (bodyOf Tryz.f28) 0):=okL (F28k uu) uu (S28_7l uu) L0
theorem F28ok (uu:Nat):(F28c uu).Ok Tryz.prog:=okE Tryz.f28 (F28k uu) (L1 (S28_7ok uu))
def F77 (uu:Nat) (a0:List PV) (a1:Int) (a2:List UInt8):Option (Bool):=
 let x4:=bif (decide (a1≥(0:Int))) then (decide (a1<(a0.length:Int))) else false
 bif imp x4 (inRange a1 a0.length) then
 let x9:=bif x4 then (((a0.getD a1.toNat .bad).fld 0).asInt==(4:Int)) else false
 bif imp x9 (inRange a1 a0.length) then
 some (bif x9 then (((a0.getD a1.toNat .bad).fld 1).asStr==a2) else false)
 else none
 else none
def F77c (uu:Nat):CallE:=⟨77,⟨3,[],(.slice 72)::sv7⟩,⟨1,[],[.bool]⟩,fun x=>F77 uu x.1 x.2.1 x.2.2,false⟩
theorem F77ok (uu:Nat):(F77c uu).Ok Tryz.prog:=okJ Tryz.f77 32 0 uu [] [] false (q0) (p0) L0
def F158 (uu:Nat) (a0:List PV) (a1:Int):Option (Int):=
 bif (bif (decide (a1<(0:Int))) then true else (decide (a1≥(a0.length:Int)))) then
 some (0:Int)
 else
 bif inRange a1 a0.length then
 some ((a0.getD a1.toNat .bad).fld 0).asInt
 else none
def F158c (uu:Nat):CallE:=⟨158,⟨2,[],sv8⟩,⟨1,[],[(.int .i64)]⟩,fun x=>F158 uu x.1 x.2,0⟩
theorem F158ok (uu:Nat):(F158c uu).Ok Tryz.prog:=okJ Tryz.f158 18 0 uu [] [] false (q0) (p0) L0
def F306 (uu:Nat) (a0:List UInt8):Option (PV×Int):=
 bif (a0==([110,97,110]:List UInt8)) then
 some ((PV.agg [(PV.int (6:Int)),(PV.int (9221120237041090560:Int)),(PV.str ([]:List UInt8)),(PV.slice []),(PV.slice []),(PV.slice []),(PV.slice [])]),(0:Int))
 else
 bif (a0==([105,110,102]:List UInt8)) then
 some ((PV.agg [(PV.int (6:Int)),(PV.int (9218868437227405312:Int)),(PV.str ([]:List UInt8)),(PV.slice []),(PV.slice []),(PV.slice []),(PV.slice [])]),(0:Int))
 else
 bif (a0==([45,105,110,102]:List UInt8)) then
 some ((PV.agg [(PV.int (6:Int)),(PV.int (18442240474082181120:Int)),(PV.str ([]:List UInt8)),(PV.slice []),(PV.slice []),(PV.slice []),(PV.slice [])]),(0:Int))
 else
 (F141 uu a0 ([48,120]:List UInt8)).bind fun y4=>
 (LparseUint uu y4 (16:Int) (64:Int)).bind fun y5=>
 let x6:=y5.1
 let x8:=!y5.2
 (bif !x8 then F149 uu x6 else some []).bind fun y9=>
 bif (bif x8 then true else (!(y9==a0))) then
 some ((PV.agg [(PV.int (0:Int)),(PV.int (0:Int)),(PV.str ([]:List UInt8)),(PV.slice []),(PV.slice []),(PV.slice []),(PV.slice [])]),(2:Int))
 else
 some ((PV.agg [(PV.int (6:Int)),(PV.int x6),(PV.str ([]:List UInt8)),(PV.slice []),(PV.slice []),(PV.slice []),(PV.slice [])]),(0:Int))
def F306c (uu:Nat):CallE:=⟨306,⟨1,[],[.str]⟩,⟨2,[],sv9⟩,fun x=>F306 uu x,(PV.bad,0)⟩
theorem F306ok (uu:Nat):(F306c uu).Ok Tryz.prog:=okJ Tryz.f306 36 0 uu _ [] false (qc (F141ok uu)<|qc (LparseUintok uu)<|qc (F149ok uu)<|q0) (p0) L0
def F374 (uu:Nat) (a0:List UInt8) (a1:List UInt8):Option ((List UInt8)×Bool):=
 (F297 uu a0 a1).bind fun y1=>
 bif (!y1) then
 some (a0,false)
 else
 let x3:=(a1.length:Int)
 bif decide (0≤x3∧x3≤(a0.length:Int)∧(a0.length:Int)≤(a0.length:Int)) then
 some (((a0.take (a0.length:Int).toNat).drop x3.toNat),true)
 else none
def F374c (uu:Nat):CallE:=⟨374,⟨2,[],[.str,.str]⟩,⟨2,[],[.str,.bool]⟩,fun x=>F374 uu x.1 x.2,([],false)⟩
theorem F374ok (uu:Nat):(F374c uu).Ok Tryz.prog:=okJ Tryz.f374 15 0 uu _ [] false (qc (F297ok uu)<|q0) (p0) L0
def F354 (uu:Nat) (a0:List UInt8) (a1:List UInt8):Option ((List UInt8)×Bool):=
 (F374 uu a0 a1).bind fun y1=>
 some (y1.1,y1.2)
def F354c (uu:Nat):CallE:=⟨354,⟨2,[],[.str,.str]⟩,⟨2,[],[.str,.bool]⟩,fun x=>F354 uu x.1 x.2,([],false)⟩
theorem F354ok (uu:Nat):(F354c uu).Ok Tryz.prog:=okJ Tryz.f354 11 0 uu _ [] false (qc (F374ok uu)<|q0) (p0) L0
def F355 (uu:Nat) (a0:List UInt8):Option ((List UInt8)×Bool):=
 (F131 uu a0).bind fun y1=>
 some (y1.1,(bif (y1.2.2==(0:Int)) then (y1.2.1==(a0.length:Int)) else false))
def F355c (uu:Nat):CallE:=⟨355,⟨1,[],[.str]⟩,⟨2,[],[.str,.bool]⟩,fun x=>F355 uu x,([],false)⟩
theorem F355ok (uu:Nat):(F355c uu).Ok Tryz.prog:=okJ Tryz.f355 22 0 uu _ [] false (qc (F131ok uu)<|q0) (p0) L0
abbrev S356_6x:=(List UInt8)×(List PV)×Int
abbrev S356_6y:=((List UInt8)×Int)⊕((List PV))
def S356_6 (uu:Nat) (a6:List UInt8) (a7:List PV) (a8:Int):Option (S356_6x⊕S356_6y):=
 bif (decide (a8<(a6.length:Int))) then
 bif inRange a8 a6.length then
 (F305 uu ((a6.getD a8.toNat 0).toNat:Int)).bind fun y12=>
 let x13:=IntKind.wrap .i64 (a8+(1:Int))
 bif inRange x13 a6.length then
 (F305 uu ((a6.getD x13.toNat 0).toNat:Int)).bind fun y15=>
 bif (bif (decide (y12<(0:Int))) then true else (decide (y15<(0:Int)))) then
 some (.inr (.inl (([]:List UInt8),(2:Int))))
 else
 let x19:=IntKind.wrap .i64 (y12*2^(min (4:Int).toNat (IntKind.bits .i64)))
 let x21:=IntKind.wrap .u8 (bitsI .or .i64 x19 y15)
 bif decide (a7.length+[(PV.int x21)].length≤accMax) then
 some (.inl (a6,(a7++[(PV.int x21)]),(IntKind.wrap .i64 (a8+(2:Int)))))
 else none
 else none
 else none
 else
 some (.inr (.inr a7))
def S356_6step (uu:Nat) (x:S356_6x):Option (S356_6x⊕S356_6y):=S356_6 uu x.1 x.2.1 x.2.2
def F356 (uu:Nat) (a0:List UInt8):Option ((List UInt8)×Int):=
 bif (((a0.length:Int).tmod (2:Int)) != (0:Int)) then
 some (([]:List UInt8),(2:Int))
 else
 let x5:=IntKind.wrap .i64 ((a0.length:Int).tdiv (2:Int))
 bif decide (0≤x5∧x5≤accMax) then
 (loopQ uu (S356_6step uu) (a0,[],(0:Int))).bind fun z=>sumE (fun y24=>
 some (y24.1,y24.2)
 ) (fun y25=>
 some ((y25.map byteOfPV),(0:Int))
 ) z
 else none
def S356_6l (uu:Nat):LoopE:=⟨6,⟨[0,4,5],bx1,sv5⟩,[(.ret,⟨[2,3],bx1,sv0⟩),(.exit 0,⟨[4],bx1,[(.acc 0 5)]⟩)],S356_6step uu⟩
def F356C (uu:Nat):Cfg:=cfg Tryz.prog 47 0 [F305c uu] [S356_6l uu] uu
def F356c (uu:Nat):CallE:=⟨356,⟨1,[],[.str]⟩,⟨2,[],sv0⟩,fun x=>F356 uu x,([],0)⟩
theorem F356k (uu:Nat):CallOk (F356C uu):=cfg_callOkP (qc (F305ok uu)<|q0) (p0)
theorem S356_6ok (uu:Nat):LoopOk (F356C uu) (lp (bodyOf Tryz.f356) 0):=okL (F356k uu) uu (S356_6l uu) L0
theorem F356ok (uu:Nat):(F356c uu).Ok Tryz.prog:=okE Tryz.f356 (F356k uu) (L1 (S356_6ok uu))
def F308 (uu:Nat) (a0:Int) (a1:List UInt8):Option (PV×Int):=
 bif (a0==(8:Int)) then
 (F354 uu a1 ([120]:List UInt8)).bind fun y2=>
 (F355 uu y2.1).bind fun y5=>
 let x6:=y5.1
 bif (bif (!y2.2) then true else (!y5.2)) then
 some ((PV.agg [(PV.int (0:Int)),(PV.int (0:Int)),(PV.str ([]:List UInt8)),(PV.slice []),(PV.slice []),(PV.slice []),(PV.slice [])]),(2:Int))
 else
 bif (a0==(8:Int)) then
 (F356 uu x6).bind fun y12=>
 let x13:=y12.1
 let x14:=y12.2
 bif (x14 != (0:Int)) then
 some ((PV.agg [(PV.int (0:Int)),(PV.int (0:Int)),(PV.str ([]:List UInt8)),(PV.slice []),(PV.slice []),(PV.slice []),(PV.slice [])]),x14)
 else
 let x16:=a0==(7:Int)
 (bif x16 then F185 uu x13 else some false).bind fun y17=>
 bif (bif x16 then (!y17) else false) then
 some ((PV.agg [(PV.int (0:Int)),(PV.int (0:Int)),(PV.str ([]:List UInt8)),(PV.slice []),(PV.slice []),(PV.slice []),(PV.slice [])]),(7:Int))
 else
 bif (decide ((x13.length:Int)>(4096:Int))) then
 some ((PV.agg [(PV.int (0:Int)),(PV.int (0:Int)),(PV.str ([]:List UInt8)),(PV.slice []),(PV.slice []),(PV.slice []),(PV.slice [])]),(3:Int))
 else
 some ((PV.agg [(PV.int a0),(PV.int (0:Int)),(PV.str x13),(PV.slice []),(PV.slice []),(PV.slice []),(PV.slice [])]),(0:Int))
 else
 let x22:=a0==(7:Int)
 (bif x22 then F185 uu x6 else some false).bind fun y23=>
 bif (bif x22 then (!y23) else false) then
 some ((PV.agg [(PV.int (0:Int)),(PV.int (0:Int)),(PV.str ([]:List UInt8)),(PV.slice []),(PV.slice []),(PV.slice []),(PV.slice [])]),(7:Int))
 else
 bif (decide ((x6.length:Int)>(4096:Int))) then
 some ((PV.agg [(PV.int (0:Int)),(PV.int (0:Int)),(PV.str ([]:List UInt8)),(PV.slice []),(PV.slice []),(PV.slice []),(PV.slice [])]),(3:Int))
 else
 some ((PV.agg [(PV.int a0),(PV.int (0:Int)),(PV.str x6),(PV.slice []),(PV.slice []),(PV.slice []),(PV.slice [])]),(0:Int))
 else
 (F355 uu a1).bind fun y28=>
 let x29:=y28.1
 bif (!y28.2) then
 some ((PV.agg [(PV.int (0:Int)),(PV.int (0:Int)),(PV.str ([]:List UInt8)),(PV.slice []),(PV.slice []),(PV.slice []),(PV.slice [])]),(2:Int))
 else
 bif (a0==(8:Int)) then
 (F356 uu x29).bind fun y33=>
 let x34:=y33.1
 let x35:=y33.2
 bif (x35 != (0:Int)) then
 some ((PV.agg [(PV.int (0:Int)),(PV.int (0:Int)),(PV.str ([]:List UInt8)),(PV.slice []),(PV.slice []),(PV.slice []),(PV.slice [])]),x35)
 else
 let x37:=a0==(7:Int)
 (bif x37 then F185 uu x34 else some false).bind fun y38=>
 bif (bif x37 then (!y38) else false) then
 some ((PV.agg [(PV.int (0:Int)),(PV.int (0:Int)),(PV.str ([]:List UInt8)),(PV.slice []),(PV.slice []),(PV.slice []),(PV.slice [])]),(7:Int))
 else
 bif (decide ((x34.length:Int)>(4096:Int))) then
 some ((PV.agg [(PV.int (0:Int)),(PV.int (0:Int)),(PV.str ([]:List UInt8)),(PV.slice []),(PV.slice []),(PV.slice []),(PV.slice [])]),(3:Int))
 else
 some ((PV.agg [(PV.int a0),(PV.int (0:Int)),(PV.str x34),(PV.slice []),(PV.slice []),(PV.slice []),(PV.slice [])]),(0:Int))
 else
 let x43:=a0==(7:Int)
 (bif x43 then F185 uu x29 else some false).bind fun y44=>
 bif (bif x43 then (!y44) else false) then
 some ((PV.agg [(PV.int (0:Int)),(PV.int (0:Int)),(PV.str ([]:List UInt8)),(PV.slice []),(PV.slice []),(PV.slice []),(PV.slice [])]),(7:Int))
 else
 bif (decide ((x29.length:Int)>(4096:Int))) then
 some ((PV.agg [(PV.int (0:Int)),(PV.int (0:Int)),(PV.str ([]:List UInt8)),(PV.slice []),(PV.slice []),(PV.slice []),(PV.slice [])]),(3:Int))
 else
 some ((PV.agg [(PV.int a0),(PV.int (0:Int)),(PV.str x29),(PV.slice []),(PV.slice []),(PV.slice []),(PV.slice [])]),(0:Int))
def F308c (uu:Nat):CallE:=⟨308,⟨2,[],sv7⟩,⟨2,[],sv9⟩,fun x=>F308 uu x.1 x.2,(PV.bad,0)⟩
theorem F308ok (uu:Nat):(F308c uu).Ok Tryz.prog:=okJ Tryz.f308 61 0 uu _ [] false (qc (F354ok uu)<|qc (F355ok uu)<|qc (F356ok uu)<|qc (F185ok uu)<|q0) (p0) L0
abbrev S357_6x:=(List UInt8)×Int×Int
abbrev S357_6y:=(Bool)⊕(Unit)
def S357_6 (uu:Nat) (a9:List UInt8) (a10:Int) (a11:Int):Option (S357_6x⊕S357_6y):=
 bif (decide (a11<a10)) then
 bif inRange a11 a9.length then
 let x14:=decide (((a9.getD a11.toNat 0).toNat:Int)<(48:Int))
 bif imp (!x14) (inRange a11 a9.length) then
 bif (bif x14 then true else (decide (((a9.getD a11.toNat 0).toNat:Int)>(57:Int)))) then
 some (.inr (.inl false))
 else
 some (.inl (a9,a10,(IntKind.wrap .i64 (a11+(1:Int)))))
 else none
 else none
 else
 some (.inr (.inr ()))
def S357_6step (uu:Nat) (x:S357_6x):Option (S357_6x⊕S357_6y):=S357_6 uu x.1 x.2.1 x.2.2
def F357 (uu:Nat) (a0:List UInt8):Option (Bool):=
 (F141 uu a0 ([45]:List UInt8)).bind fun y1=>
 let x2:=y1==([]:List UInt8)
 bif imp (!x2) (inRange (0:Int) y1.length) then
 bif (bif x2 then true else (bif (((y1.getD (0:Int).toNat 0).toNat:Int)==(48:Int)) then (!(a0==([48]:List UInt8))) else false)) then
 some false
 else
 (loopQ uu (S357_6step uu) (y1,(y1.length:Int),(0:Int))).bind fun z=>sumE (fun y19=>
 some y19
 ) (fun y20=>
 some true
 ) z
 else none
def S357_6l (uu:Nat):LoopE:=⟨6,⟨[3,19,20],[],sv6⟩,[(.ret,⟨[2],[],[.bool]⟩),(.exit 0,⟨[],[],[]⟩)],S357_6step uu⟩
def F357C (uu:Nat):Cfg:=cfg Tryz.prog 34 0 [F141c uu] [S357_6l uu] uu
def F357c (uu:Nat):CallE:=⟨357,⟨1,[],[.str]⟩,⟨1,[],[.bool]⟩,fun x=>F357 uu x,false⟩
theorem F357k (uu:Nat):CallOk (F357C uu):=cfg_callOkP (qc (F141ok uu)<|q0) (p0)
theorem S357_6ok (uu:Nat):LoopOk (F357C uu) (lp (bodyOf Tryz.f357) 0):=okL (F357k uu) uu (S357_6l uu) L0
theorem F357ok (uu:Nat):(F357c uu).Ok Tryz.prog:=okE Tryz.f357 (F357k uu) (L1 (S357_6ok uu))
def F309 (uu:Nat) (a0:Int) (a1:List UInt8):Option (PV×Int):=
 (F357 uu a1).bind fun y1=>
 bif (!y1) then
 some ((PV.agg [(PV.int (0:Int)),(PV.int (0:Int)),(PV.str ([]:List UInt8)),(PV.slice []),(PV.slice []),(PV.slice []),(PV.slice [])]),(2:Int))
 else
 bif (bif (a0==(2:Int)) then true else (a0==(3:Int))) then
 (LparseInt uu a1 (10:Int) (64:Int)).bind fun y6=>
 let x9:=IntKind.wrap .u64 y6.1
 let x10:=!y6.2
 (bif !x10 then F250 uu a0 x9 else some false).bind fun y11=>
 bif (bif x10 then true else (!y11)) then
 some ((PV.agg [(PV.int (0:Int)),(PV.int (0:Int)),(PV.str ([]:List UInt8)),(PV.slice []),(PV.slice []),(PV.slice []),(PV.slice [])]),(6:Int))
 else
 some ((PV.agg [(PV.int a0),(PV.int x9),(PV.str ([]:List UInt8)),(PV.slice []),(PV.slice []),(PV.slice []),(PV.slice [])]),(0:Int))
 else
 (LparseUint uu a1 (10:Int) (64:Int)).bind fun y14=>
 let x15:=y14.1
 let x17:=!y14.2
 (bif !x17 then F250 uu a0 x15 else some false).bind fun y18=>
 bif (bif x17 then true else (!y18)) then
 some ((PV.agg [(PV.int (0:Int)),(PV.int (0:Int)),(PV.str ([]:List UInt8)),(PV.slice []),(PV.slice []),(PV.slice []),(PV.slice [])]),(6:Int))
 else
 some ((PV.agg [(PV.int a0),(PV.int x15),(PV.str ([]:List UInt8)),(PV.slice []),(PV.slice []),(PV.slice []),(PV.slice [])]),(0:Int))
def F309c (uu:Nat):CallE:=⟨309,⟨2,[],sv7⟩,⟨2,[],sv9⟩,fun x=>F309 uu x.1 x.2,(PV.bad,0)⟩
theorem F309ok (uu:Nat):(F309c uu).Ok Tryz.prog:=okJ Tryz.f309 46 0 uu _ [] false (qc (F357ok uu)<|qc (LparseIntok uu)<|qc (F250ok uu)<|qc (LparseUintok uu)<|q0) (p0) L0
def F239 (uu:Nat) (a0:Int) (a1:List UInt8):Option (PV×Int):=
 (F248 uu a0).bind fun y1=>
 bif (!y1) then
 some ((PV.agg [(PV.int (0:Int)),(PV.int (0:Int)),(PV.str ([]:List UInt8)),(PV.slice []),(PV.slice []),(PV.slice []),(PV.slice [])]),(1:Int))
 else
 bif (bif (a0==(1:Int)) then (a1==([116,114,117,101]:List UInt8)) else false) then
 some ((PV.agg [(PV.int a0),(PV.int (1:Int)),(PV.str ([]:List UInt8)),(PV.slice []),(PV.slice []),(PV.slice []),(PV.slice [])]),(0:Int))
 else
 bif (bif (a0==(1:Int)) then (a1==([102,97,108,115,101]:List UInt8)) else false) then
 some ((PV.agg [(PV.int a0),(PV.int (0:Int)),(PV.str ([]:List UInt8)),(PV.slice []),(PV.slice []),(PV.slice []),(PV.slice [])]),(0:Int))
 else
 bif (a0==(1:Int)) then
 some ((PV.agg [(PV.int (0:Int)),(PV.int (0:Int)),(PV.str ([]:List UInt8)),(PV.slice []),(PV.slice []),(PV.slice []),(PV.slice [])]),(2:Int))
 else
 bif (a0==(6:Int)) then
 (F306 uu a1).bind fun y11=>
 some (y11.1,y11.2)
 else
 (F307 uu a0).bind fun y14=>
 bif y14 then
 (F308 uu a0 a1).bind fun y15=>
 some (y15.1,y15.2)
 else
 (F309 uu a0 a1).bind fun y18=>
 some (y18.1,y18.2)
def F239c (uu:Nat):CallE:=⟨239,⟨2,[],sv7⟩,⟨2,[],sv9⟩,fun x=>F239 uu x.1 x.2,(PV.bad,0)⟩
theorem F239ok (uu:Nat):(F239c uu).Ok Tryz.prog:=okJ Tryz.f239 53 0 uu _ [] false (qc (F248ok uu)<|qc (F306ok uu)<|qc (F307ok uu)<|qc (F308ok uu)<|qc (F309ok uu)<|q0) (p0) L0
def F260 (uu:Nat) (a0:Int) (a1:List PV) (a2:Int):Option (PV×Int×Int):=
 (F77 uu a1 a2 ([45]:List UInt8)).bind fun y1=>
 bif y1 then
 let x2:=IntKind.wrap .i64 (a2+(1:Int))
 (F158 uu a1 x2).bind fun y3=>
 bif (y3 != (2:Int)) then
 some ((PV.agg [(PV.int (0:Int)),(PV.int (0:Int)),(PV.str ([]:List UInt8)),(PV.slice []),(PV.slice []),(PV.slice []),(PV.slice [])]),x2,(2:Int))
 else
 bif inRange x2 a1.length then
 (F135 uu (IntKind.wrap .u64 ((a1.getD x2.toNat .bad).fld 2).asInt) (10:Int)).bind fun y9=>
 bif decide (([45]:List UInt8).length+y9.length≤strMax) then
 (F239 uu a0 (([45]:List UInt8)++y9)).bind fun y10=>
 let x12:=y10.2
 bif (x12 != (0:Int)) then
 some ((PV.agg [(PV.int (0:Int)),(PV.int (0:Int)),(PV.str ([]:List UInt8)),(PV.slice []),(PV.slice []),(PV.slice []),(PV.slice [])]),x2,x12)
 else
 some (y10.1,(IntKind.wrap .i64 (x2+(1:Int))),(0:Int))
 else none
 else none
 else
 (F158 uu a1 a2).bind fun y15=>
 bif (y15 != (2:Int)) then
 some ((PV.agg [(PV.int (0:Int)),(PV.int (0:Int)),(PV.str ([]:List UInt8)),(PV.slice []),(PV.slice []),(PV.slice []),(PV.slice [])]),a2,(2:Int))
 else
 bif inRange a2 a1.length then
 (F135 uu (IntKind.wrap .u64 ((a1.getD a2.toNat .bad).fld 2).asInt) (10:Int)).bind fun y21=>
 bif decide (([]:List UInt8).length+y21.length≤strMax) then
 (F239 uu a0 (([]:List UInt8)++y21)).bind fun y22=>
 let x24:=y22.2
 bif (x24 != (0:Int)) then
 some ((PV.agg [(PV.int (0:Int)),(PV.int (0:Int)),(PV.str ([]:List UInt8)),(PV.slice []),(PV.slice []),(PV.slice []),(PV.slice [])]),a2,x24)
 else
 some (y22.1,(IntKind.wrap .i64 (a2+(1:Int))),(0:Int))
 else none
 else none
def F260c (uu:Nat):CallE:=⟨260,⟨3,[],(.int .i64)::sv8⟩,⟨3,[],(.data 51)::sv2⟩,fun x=>F260 uu x.1 x.2.1 x.2.2,(PV.bad,0,0)⟩
theorem F260ok (uu:Nat):(F260c uu).Ok Tryz.prog:=okJ Tryz.f260 45 0 uu _ [] false (qc (F77ok uu)<|qc (F158ok uu)<|qc (F135ok uu)<|qc (F239ok uu)<|q0) (p0) L0
def F159 (uu:Nat) (a0:Int) (a1:List PV) (a2:Int):Option (PV×Int×Int):=
 let x1:=a0==(1:Int)
 (bif x1 then F158 uu a1 a2 else some 0).bind fun y2=>
 let x4:=bif x1 then (y2==(1:Int)) else false
 bif imp x4 (inRange a2 a1.length) then
 let x8:=((a1.getD a2.toNat .bad).fld 1).asStr==([116,114,117,101]:List UInt8)
 bif imp (bif !x8 then x4 else false) (inRange a2 a1.length) then
 bif (bif x4 then (bif x8 then true else (((a1.getD a2.toNat .bad).fld 1).asStr==([102,97,108,115,101]:List UInt8))) else false) then
 bif inRange a2 a1.length then
 (F239 uu a0 ((a1.getD a2.toNat .bad).fld 1).asStr).bind fun y18=>
 some (y18.1,(IntKind.wrap .i64 (a2+(1:Int))),(0:Int))
 else none
 else
 let x22:=a0==(7:Int)
 (bif x22 then F158 uu a1 a2 else some 0).bind fun y23=>
 bif (bif x22 then (y23==(3:Int)) else false) then
 bif inRange a2 a1.length then
 let x28:=((a1.getD a2.toNat .bad).fld 1).asStr
 bif (decide ((x28.length:Int)>(4096:Int))) then
 some ((PV.agg [(PV.int (0:Int)),(PV.int (0:Int)),(PV.str ([]:List UInt8)),(PV.slice []),(PV.slice []),(PV.slice []),(PV.slice [])]),a2,(3:Int))
 else
 (F146 uu a0 (PV.agg [(PV.int a0),(PV.int (0:Int)),(PV.str x28),(PV.slice []),(PV.slice []),(PV.slice []),(PV.slice [])])).bind fun y31=>
 bif (!y31) then
 some ((PV.agg [(PV.int (0:Int)),(PV.int (0:Int)),(PV.str ([]:List UInt8)),(PV.slice []),(PV.slice []),(PV.slice []),(PV.slice [])]),a2,(7:Int))
 else
 some ((PV.agg [(PV.int a0),(PV.int (0:Int)),(PV.str x28),(PV.slice []),(PV.slice []),(PV.slice []),(PV.slice [])]),(IntKind.wrap .i64 (a2+(1:Int))),(0:Int))
 else none
 else
 bif (bif (a0==(4:Int)) then true else (a0==(3:Int))) then
 (F260 uu a0 a1 a2).bind fun y37=>
 some (y37.1,y37.2.1,y37.2.2)
 else
 some ((PV.agg [(PV.int (0:Int)),(PV.int (0:Int)),(PV.str ([]:List UInt8)),(PV.slice []),(PV.slice []),(PV.slice []),(PV.slice [])]),a2,(2:Int))
 else none
 else none
def F159c (uu:Nat):CallE:=⟨159,⟨3,[],(.int .i64)::sv8⟩,⟨3,[],(.data 51)::sv2⟩,fun x=>F159 uu x.1 x.2.1 x.2.2,(PV.bad,0,0)⟩
theorem F159ok (uu:Nat):(F159c uu).Ok Tryz.prog:=okJ Tryz.f159 99 0 uu _ [] false (qc (F158ok uu)<|qc (F239ok uu)<|qc (F146ok uu)<|qc (F260ok uu)<|q0) (p0) L0
def F78 (uu:Nat) (a0:List PV) (a1:Int):Option (PV×Int×Int):=
 (F158 uu a0 a1).bind fun y1=>
 bif (y1 != (1:Int)) then
 some ((PV.agg [(PV.str ([]:List UInt8)),(PV.agg [(PV.int (0:Int)),(PV.int (0:Int)),(PV.str ([]:List UInt8)),(PV.slice []),(PV.slice []),(PV.slice []),(PV.slice [])])]),a1,(2:Int))
 else
 bif inRange a1 a0.length then
 (F71 uu ((a0.getD a1.toNat .bad).fld 1).asStr).bind fun y6=>
 bif (y6==(0:Int)) then
 some ((PV.agg [(PV.str ([]:List UInt8)),(PV.agg [(PV.int (0:Int)),(PV.int (0:Int)),(PV.str ([]:List UInt8)),(PV.slice []),(PV.slice []),(PV.slice []),(PV.slice [])])]),a1,(8:Int))
 else
 (F77 uu a0 (IntKind.wrap .i64 (a1+(1:Int))) ([61]:List UInt8)).bind fun y9=>
 bif (!y9) then
 let x11:=IntKind.wrap .i64 (a1+(1:Int))
 let x12:=(a0.length:Int)
 some ((PV.agg [(PV.str ([]:List UInt8)),(PV.agg [(PV.int (0:Int)),(PV.int (0:Int)),(PV.str ([]:List UInt8)),(PV.slice []),(PV.slice []),(PV.slice []),(PV.slice [])])]),(if x12<x11 then x12 else x11),(2:Int))
 else
 bif inRange a1 a0.length then
 (F71 uu ((a0.getD a1.toNat .bad).fld 1).asStr).bind fun y17=>
 (F159 uu y17 a0 (IntKind.wrap .i64 (a1+(2:Int)))).bind fun y19=>
 bif inRange a1 a0.length then
 some ((PV.agg [(PV.str ((a0.getD a1.toNat .bad).fld 1).asStr),y19.1]),y19.2.1,y19.2.2)
 else none
 else none
 else none
def F78c (uu:Nat):CallE:=⟨78,⟨2,[],sv8⟩,⟨3,[],(.data 116)::sv2⟩,fun x=>F78 uu x.1 x.2,(PV.bad,0,0)⟩
theorem F78ok (uu:Nat):(F78c uu).Ok Tryz.prog:=okJ Tryz.f78 62 0 uu _ [] false (qc (F158ok uu)<|qc (F71ok uu)<|qc (F77ok uu)<|qc (F159ok uu)<|q0) (p0) L0
abbrev S36_5x:=(List PV)×Int×(List PV)
abbrev S36_5y:=((List PV)×Int×Int)
def S36_5 (uu:Nat) (a3:List PV) (a4:Int) (a5:List PV):Option (S36_5x⊕S36_5y):=
 (F78 uu a3 (IntKind.wrap .i64 (a4+(1:Int)))).bind fun y7=>
 let x8:=y7.1
 let x9:=y7.2.1
 let x10:=y7.2.2
 bif (x10 != (0:Int)) then
 some (.inr ([],x9,x10))
 else
 bif decide (a5.length+[x8].length≤accMax) then
 let x12:=a5++[x8]
 (F77 uu a3 x9 ([93]:List UInt8)).bind fun y13=>
 bif y13 then
 some (.inr (x12,(IntKind.wrap .i64 (x9+(1:Int))),(0:Int)))
 else
 (F77 uu a3 x9 ([44]:List UInt8)).bind fun y15=>
 bif (!y15) then
 some (.inr ([],x9,(2:Int)))
 else
 some (.inl (a3,x9,x12))
 else none
def S36_5step (uu:Nat) (x:S36_5x):Option (S36_5x⊕S36_5y):=S36_5 uu x.1 x.2.1 x.2.2
def F36 (uu:Nat) (a0:List PV) (a1:Int):Option ((List PV)×Int×Int):=
 (F77 uu a0 a1 ([91]:List UInt8)).bind fun y1=>
 bif (!y1) then
 some ([],a1,(0:Int))
 else
 (loopQ uu (S36_5step uu) (a0,a1,[])).bind fun y17=>
 some (y17.1,y17.2.1,y17.2.2)
def S36_5l (uu:Nat):LoopE:=⟨5,⟨[0,1,7],bx1,[(.slice 72),(.int .i64),(.acc 0 116)]⟩,[(.ret,⟨[4,5,6],bx1,sv3⟩)],S36_5step uu⟩
def F36C (uu:Nat):Cfg:=cfg Tryz.prog 46 0 [F77c uu,F78c uu] [S36_5l uu] uu
def F36c (uu:Nat):CallE:=⟨36,⟨2,[],sv8⟩,⟨3,[],sv3⟩,fun x=>F36 uu x.1 x.2,([],0,0)⟩
theorem F36k (uu:Nat):CallOk (F36C uu):=cfg_callOkP (qc (F77ok uu)<|qc (F78ok uu)<|q0) (p0)
theorem S36_5ok (uu:Nat):LoopOk (F36C uu) (lp (bodyOf Tryz.f36) 0):=okL (F36k uu) uu (S36_5l uu) L0
theorem F36ok (uu:Nat):(F36c uu).Ok Tryz.prog:=okE Tryz.f36 (F36k uu) (L1 (S36_5ok uu))
def F256 (uu:Nat) (a0:Int):Option (Bool):=
 some (bif (decide (a0≥(1:Int))) then (decide (a0≤(9:Int))) else false)
def F256c (uu:Nat):CallE:=⟨256,⟨1,[],[(.int .i64)]⟩,⟨1,[],[.bool]⟩,fun x=>F256 uu x,false⟩
theorem F256ok (uu:Nat):(F256c uu).Ok Tryz.prog:=okJ Tryz.f256 9 0 uu [] [] false (q0) (p0) L0
def F340 (uu:Nat) (a0:Int):Option (Int):=
 bif (bif (decide (a0≥(48:Int))) then (decide (a0≤(57:Int))) else false) then
 some (IntKind.wrap .i64 (IntKind.wrap .u8 (a0-(48:Int))))
 else
 bif (bif (decide (a0≥(97:Int))) then (decide (a0≤(102:Int))) else false) then
 some (IntKind.wrap .i64 ((IntKind.wrap .i64 (IntKind.wrap .u8 (a0-(97:Int))))+(10:Int)))
 else
 some (-1:Int)
abbrev S364_6x:=(List UInt8)×(List UInt8)×Int
abbrev S364_6y:=((List UInt8)×Int)⊕((List UInt8))
def S364_6 (uu:Nat) (a4:List UInt8) (a5:List UInt8) (a6:Int):Option (S364_6x⊕S364_6y):=
 bif (decide (a6<(a4.length:Int))) then
 bif inRange a6 a4.length then
 (F340 uu ((a4.getD a6.toNat 0).toNat:Int)).bind fun y10=>
 let x11:=decide (y10<(0:Int))
 let x12:=IntKind.wrap .i64 (a6+(1:Int))
 bif imp (!x11) (inRange x12 a4.length) then
 (bif !x11 then F340 uu ((a4.getD x12.toNat 0).toNat:Int) else some 0).bind fun y14=>
 bif (bif x11 then true else (decide (y14<(0:Int)))) then
 some (.inr (.inl (([]:List UInt8),(2:Int))))
 else
 bif inRange a6 a4.length then
 (F340 uu ((a4.getD a6.toNat 0).toNat:Int)).bind fun y18=>
 let x20:=IntKind.wrap .i64 (a6+(1:Int))
 bif inRange x20 a4.length then
 (F340 uu ((a4.getD x20.toNat 0).toNat:Int)).bind fun y22=>
 let x24:=IntKind.wrap .u8 (IntKind.wrap .i64 ((IntKind.wrap .i64 ((16:Int)*y18))+y22))
 bif decide (a5.length+([(PV.int x24)].map byteOfPV).length≤strMax) then
 some (.inl (a4,(a5++([(PV.int x24)].map byteOfPV)),(IntKind.wrap .i64 (a6+(2:Int)))))
 else none
 else none
 else none
 else none
 else none
 else
 some (.inr (.inr a5))
def S364_6step (uu:Nat) (x:S364_6x):Option (S364_6x⊕S364_6y):=S364_6 uu x.1 x.2.1 x.2.2
def F364 (uu:Nat) (a0:List UInt8):Option ((List UInt8)×Int):=
 bif (((a0.length:Int).tmod (2:Int)) != (0:Int)) then
 some (([]:List UInt8),(2:Int))
 else
 (loopQ uu (S364_6step uu) (a0,([]:List UInt8),(0:Int))).bind fun z=>sumE (fun y27=>
 some (y27.1,y27.2)
 ) (fun y28=>
 some (y28,(0:Int))
 ) z
def F155 (uu:Nat) (a0:Int):Option (Int):=
 let x1:=a0.tmod (9223372036854775808:Int)
 bif (decide (x1>(9218868437227405312:Int))) then
 some (0:Int)
 else
 bif (x1==(9218868437227405312:Int)) then
 some (1:Int)
 else
 bif (x1==(0:Int)) then
 some (2:Int)
 else
 bif (decide (x1<(4503599627370496:Int))) then
 some (3:Int)
 else
 some (4:Int)
def F155c (uu:Nat):CallE:=⟨155,⟨1,[],[(.int .u64)]⟩,⟨1,[],[(.int .i64)]⟩,fun x=>F155 uu x,0⟩
theorem F155ok (uu:Nat):(F155c uu).Ok Tryz.prog:=okJ Tryz.f155 18 0 uu [] [] false (q0) (p0) L0
abbrev S316_16x:=Unit×(List UInt8)×Unit×Int×PV×PV
abbrev S316_16y:=(Unit×Unit×PV×PV)
def S316_16 (uu:Nat) (a14:Unit) (a15:List UInt8) (a16:Unit) (a17:Int) (a18:PV) (a19:PV):Option (S316_16x⊕S316_16y):=
 bif (decide (a17<(a15.length:Int))) then
 bif inRange a17 a15.length then
 some (.inl ((),a15,(),(IntKind.wrap .i64 (a17+(1:Int))),a18,(PV.agg [(PV.int ((a19.fld 0).asInt)),(PV.int (IntKind.wrap .u64 ((IntKind.wrap .u64 ((256:Int)*((a19.fld 1).asInt)))+(IntKind.wrap .u64 ((a15.getD a17.toNat 0).toNat:Int))))),(PV.str ((a19.fld 2).asStr)),(PV.slice ((a19.fld 3).asList)),(PV.slice ((a19.fld 4).asList)),(PV.slice ((a19.fld 5).asList)),(PV.slice ((a19.fld 6).asList))])))
 else none
 else
 some (.inr ((),(),a18,a19))
def S316_16step (uu:Nat) (x:S316_16x):Option (S316_16x⊕S316_16y):=S316_16 uu x.1 x.2.1 x.2.2.1 x.2.2.2.1 x.2.2.2.2.1 x.2.2.2.2.2
def F316 (uu:Nat) (a0:List UInt8):Option (PV×Int):=
 bif (a0==([110,97,110]:List UInt8)) then
 some ((PV.agg [(PV.int (6:Int)),(PV.int (9221120237041090560:Int)),(PV.str ([]:List UInt8)),(PV.slice []),(PV.slice []),(PV.slice []),(PV.slice [])]),(0:Int))
 else
 bif (a0==([105,110,102]:List UInt8)) then
 some ((PV.agg [(PV.int (6:Int)),(PV.int (9218868437227405312:Int)),(PV.str ([]:List UInt8)),(PV.slice []),(PV.slice []),(PV.slice []),(PV.slice [])]),(0:Int))
 else
 bif (a0==([45,105,110,102]:List UInt8)) then
 some ((PV.agg [(PV.int (6:Int)),(PV.int (18442240474082181120:Int)),(PV.str ([]:List UInt8)),(PV.slice []),(PV.slice []),(PV.slice []),(PV.slice [])]),(0:Int))
 else
 let x5:=(a0.length:Int) != (18:Int)
 bif imp (!x5) (decide (0≤(0:Int)∧(0:Int)≤(2:Int)∧(2:Int)≤(a0.length:Int))) then
 bif (bif x5 then true else (!(((a0.take (2:Int).toNat).drop (0:Int).toNat)==([48,120]:List UInt8)))) then
 some ((PV.agg [(PV.int (0:Int)),(PV.int (0:Int)),(PV.str ([]:List UInt8)),(PV.slice []),(PV.slice []),(PV.slice []),(PV.slice [])]),(2:Int))
 else
 bif decide (0≤(2:Int)∧(2:Int)≤(a0.length:Int)∧(a0.length:Int)≤(a0.length:Int)) then
 (F364 uu ((a0.take (a0.length:Int).toNat).drop (2:Int).toNat)).bind fun y10=>
 bif (y10.2 != (0:Int)) then
 some ((PV.agg [(PV.int (0:Int)),(PV.int (0:Int)),(PV.str ([]:List UInt8)),(PV.slice []),(PV.slice []),(PV.slice []),(PV.slice [])]),(2:Int))
 else
 (loopQ uu (S316_16step uu) ((),y10.1,(),(0:Int),(PV.agg [(PV.int (0:Int)),(PV.int (0:Int)),(PV.str ([]:List UInt8)),(PV.slice []),(PV.slice []),(PV.slice []),(PV.slice [])]),(PV.agg [(PV.int (6:Int)),(PV.int (0:Int)),(PV.str ([]:List UInt8)),(PV.slice []),(PV.slice []),(PV.slice []),(PV.slice [])]))).bind fun y28=>
 (F155 uu ((y28.2.2.2.fld 1).asInt)).bind fun y30=>
 bif (decide (y30≤(1:Int))) then
 some ((PV.agg [(PV.int (0:Int)),(PV.int (0:Int)),(PV.str ([]:List UInt8)),(PV.slice []),(PV.slice []),(PV.slice []),(PV.slice [])]),(2:Int))
 else
 some (y28.2.2.2,(0:Int))
 else none
 else none
def F320 (uu:Nat) (a0:List UInt8) (a1:Int) (a2:Int) (a3:Int):Option (Bool):=
 let x2:=decide (a1<(a0.length:Int))
 bif imp x2 (inRange a1 a0.length) then
 let x5:=bif x2 then (decide (((a0.getD a1.toNat 0).toNat:Int)≥a2)) else false
 bif imp x5 (inRange a1 a0.length) then
 some (bif x5 then (decide (((a0.getD a1.toNat 0).toNat:Int)≤a3)) else false)
 else none
 else none
def F320c (uu:Nat):CallE:=⟨320,⟨4,[],[.str,(.int .i64),(.int .u8),(.int .u8)]⟩,⟨1,[],[.bool]⟩,fun x=>F320 uu x.1 x.2.1 x.2.2.1 x.2.2.2,false⟩
theorem F320ok (uu:Nat):(F320c uu).Ok Tryz.prog:=okJ Tryz.f320 27 0 uu [] [] false (q0) (p0) L0
abbrev S319_3x:=(List UInt8)×Int×Int×Int
abbrev S319_3y:=(Bool)⊕(Unit)
def S319_3 (uu:Nat) (a1:List UInt8) (a2:Int) (a3:Int) (a4:Int):Option (S319_3x⊕S319_3y):=
 bif (decide (a4<a3)) then
 (F320 uu a1 (IntKind.wrap .i64 (a2+a4)) (128:Int) (191:Int)).bind fun y7=>
 bif (!y7) then
 some (.inr (.inl false))
 else
 some (.inl (a1,a2,a3,(IntKind.wrap .i64 (a4+(1:Int)))))
 else
 some (.inr (.inr ()))
def S319_3step (uu:Nat) (x:S319_3x):Option (S319_3x⊕S319_3y):=S319_3 uu x.1 x.2.1 x.2.2.1 x.2.2.2
def F319 (uu:Nat) (a0:List UInt8) (a1:Int) (a2:Int):Option (Bool):=
 (loopQ uu (S319_3step uu) (a0,a1,a2,(0:Int))).bind fun z=>sumE (fun y10=>
 some y10
 ) (fun y11=>
 some true
 ) z
def S319_3l (uu:Nat):LoopE:=⟨3,⟨[0,1,2,7],[],.str::(.int .i64)::sv2⟩,[(.ret,⟨[6],[],[.bool]⟩),(.exit 0,⟨[],[],[]⟩)],S319_3step uu⟩
def F319C (uu:Nat):Cfg:=cfg Tryz.prog 19 0 [F320c uu] [S319_3l uu] uu
def F319c (uu:Nat):CallE:=⟨319,⟨3,[],sv6⟩,⟨1,[],[.bool]⟩,fun x=>F319 uu x.1 x.2.1 x.2.2,false⟩
theorem F319k (uu:Nat):CallOk (F319C uu):=cfg_callOkP (qc (F320ok uu)<|q0) (p0)
theorem S319_3ok (uu:Nat):LoopOk (F319C uu) (lp (bodyOf Tryz.f319) 0):=okL (F319k uu) uu (S319_3l uu) L0
theorem F319ok (uu:Nat):(F319c uu).Ok Tryz.prog:=okE Tryz.f319 (F319k uu) (L1 (S319_3ok uu))
def F243 (uu:Nat) (a0:List UInt8) (a1:Int):Option (Int):=
 bif inRange a1 a0.length then
 let x1:=((a0.getD a1.toNat 0).toNat:Int)
 bif (decide (x1<(128:Int))) then
 some (1:Int)
 else
 let x5:=bif (decide (x1≥(194:Int))) then (decide (x1≤(223:Int))) else false
 (bif x5 then F319 uu a0 (IntKind.wrap .i64 (a1+(1:Int))) (1:Int) else some false).bind fun y7=>
 bif (bif x5 then y7 else false) then
 some (2:Int)
 else
 let x9:=x1==(224:Int)
 (bif x9 then F320 uu a0 (IntKind.wrap .i64 (a1+(1:Int))) (160:Int) (191:Int) else some false).bind fun y11=>
 let x12:=bif x9 then y11 else false
 (bif x12 then F319 uu a0 (IntKind.wrap .i64 (a1+(2:Int))) (1:Int) else some false).bind fun y14=>
 bif (bif x12 then y14 else false) then
 some (3:Int)
 else
 let x16:=x1==(237:Int)
 (bif x16 then F320 uu a0 (IntKind.wrap .i64 (a1+(1:Int))) (128:Int) (159:Int) else some false).bind fun y18=>
 let x19:=bif x16 then y18 else false
 (bif x19 then F319 uu a0 (IntKind.wrap .i64 (a1+(2:Int))) (1:Int) else some false).bind fun y21=>
 bif (bif x19 then y21 else false) then
 some (3:Int)
 else
 let x27:=bif (bif (decide (x1≥(225:Int))) then (decide (x1≤(239:Int))) else false) then (x1 != (237:Int)) else false
 (bif x27 then F319 uu a0 (IntKind.wrap .i64 (a1+(1:Int))) (2:Int) else some false).bind fun y29=>
 bif (bif x27 then y29 else false) then
 some (3:Int)
 else
 let x31:=x1==(240:Int)
 (bif x31 then F320 uu a0 (IntKind.wrap .i64 (a1+(1:Int))) (144:Int) (191:Int) else some false).bind fun y33=>
 let x34:=bif x31 then y33 else false
 (bif x34 then F319 uu a0 (IntKind.wrap .i64 (a1+(2:Int))) (2:Int) else some false).bind fun y36=>
 bif (bif x34 then y36 else false) then
 some (4:Int)
 else
 let x40:=bif (decide (x1≥(241:Int))) then (decide (x1≤(243:Int))) else false
 (bif x40 then F319 uu a0 (IntKind.wrap .i64 (a1+(1:Int))) (3:Int) else some false).bind fun y42=>
 bif (bif x40 then y42 else false) then
 some (4:Int)
 else
 let x44:=x1==(244:Int)
 (bif x44 then F320 uu a0 (IntKind.wrap .i64 (a1+(1:Int))) (128:Int) (143:Int) else some false).bind fun y46=>
 let x47:=bif x44 then y46 else false
 (bif x47 then F319 uu a0 (IntKind.wrap .i64 (a1+(2:Int))) (2:Int) else some false).bind fun y49=>
 bif (bif x47 then y49 else false) then
 some (4:Int)
 else
 some (0:Int)
 else none
def F243c (uu:Nat):CallE:=⟨243,⟨2,[],sv0⟩,⟨1,[],[(.int .i64)]⟩,fun x=>F243 uu x.1 x.2,0⟩
theorem F243ok (uu:Nat):(F243c uu).Ok Tryz.prog:=okJ Tryz.f243 115 0 uu _ [] false (qc (F319ok uu)<|qc (F320ok uu)<|q0) (p0) L0
def F244 (uu:Nat) (a0:Int):Option ((List UInt8)):=
 let x1:=IntKind.wrap .u8 (a0.tdiv (16:Int))
 let x3:=IntKind.wrap .u8 ((IntKind.wrap .u8 (a0.tdiv (16:Int)))+(1:Int))
 bif decide (0≤x1∧x1≤x3∧x3≤(([48,49,50,51,52,53,54,55,56,57,97,98,99,100,101,102]:List UInt8).length:Int)) then
 let x4:=(([48,49,50,51,52,53,54,55,56,57,97,98,99,100,101,102]:List UInt8).take x3.toNat).drop x1.toNat
 let x5:=a0.tmod (16:Int)
 let x7:=IntKind.wrap .u8 ((a0.tmod (16:Int))+(1:Int))
 bif decide (0≤x5∧x5≤x7∧x7≤(([48,49,50,51,52,53,54,55,56,57,97,98,99,100,101,102]:List UInt8).length:Int)) then
 let x8:=(([48,49,50,51,52,53,54,55,56,57,97,98,99,100,101,102]:List UInt8).take x7.toNat).drop x5.toNat
 bif decide (x4.length+x8.length≤strMax) then
 some (x4++x8)
 else none
 else none
 else none
def F244c (uu:Nat):CallE:=⟨244,⟨1,[],[(.int .u8)]⟩,⟨1,[],[.str]⟩,fun x=>F244 uu x,[]⟩
theorem F244ok (uu:Nat):(F244c uu).Ok Tryz.prog:=okJ Tryz.f244 16 0 uu [] [] false (q0) (p0) L0
abbrev S139_4x:=(List UInt8)×(List UInt8)×Int
abbrev S139_4y:=((List UInt8))
def S139_4 (uu:Nat) (a1:List UInt8) (a2:List UInt8) (a3:Int):Option (S139_4x⊕S139_4y):=
 bif (decide (a3<(a1.length:Int))) then
 (F243 uu a1 a3).bind fun y6=>
 bif inRange a3 a1.length then
 let x7:=((a1.getD a3.toNat 0).toNat:Int)
 bif (x7==(34:Int)) then
 bif decide (a2.length+([92,34]:List UInt8).length≤strMax) then
 let x9:=a2++([92,34]:List UInt8)
 bif (y6==(0:Int)) then
 some (.inl (a1,x9,(IntKind.wrap .i64 (a3+(1:Int)))))
 else
 some (.inl (a1,x9,(IntKind.wrap .i64 (a3+y6))))
 else none
 else
 bif (x7==(92:Int)) then
 bif decide (a2.length+([92,92]:List UInt8).length≤strMax) then
 let x14:=a2++([92,92]:List UInt8)
 bif (y6==(0:Int)) then
 some (.inl (a1,x14,(IntKind.wrap .i64 (a3+(1:Int)))))
 else
 some (.inl (a1,x14,(IntKind.wrap .i64 (a3+y6))))
 else none
 else
 bif (x7==(10:Int)) then
 bif decide (a2.length+([92,110]:List UInt8).length≤strMax) then
 let x19:=a2++([92,110]:List UInt8)
 bif (y6==(0:Int)) then
 some (.inl (a1,x19,(IntKind.wrap .i64 (a3+(1:Int)))))
 else
 some (.inl (a1,x19,(IntKind.wrap .i64 (a3+y6))))
 else none
 else
 bif (x7==(9:Int)) then
 bif decide (a2.length+([92,116]:List UInt8).length≤strMax) then
 let x24:=a2++([92,116]:List UInt8)
 bif (y6==(0:Int)) then
 some (.inl (a1,x24,(IntKind.wrap .i64 (a3+(1:Int)))))
 else
 some (.inl (a1,x24,(IntKind.wrap .i64 (a3+y6))))
 else none
 else
 bif (x7==(13:Int)) then
 bif decide (a2.length+([92,114]:List UInt8).length≤strMax) then
 let x29:=a2++([92,114]:List UInt8)
 bif (y6==(0:Int)) then
 some (.inl (a1,x29,(IntKind.wrap .i64 (a3+(1:Int)))))
 else
 some (.inl (a1,x29,(IntKind.wrap .i64 (a3+y6))))
 else none
 else
 bif (bif (bif (decide (x7<(32:Int))) then true else (x7==(127:Int))) then true else (y6==(0:Int))) then
 bif decide (a2.length+([92,120]:List UInt8).length≤strMax) then
 let x38:=a2++([92,120]:List UInt8)
 (F244 uu x7).bind fun y39=>
 bif decide (x38.length+y39.length≤strMax) then
 let x40:=x38++y39
 bif (y6==(0:Int)) then
 some (.inl (a1,x40,(IntKind.wrap .i64 (a3+(1:Int)))))
 else
 some (.inl (a1,x40,(IntKind.wrap .i64 (a3+y6))))
 else none
 else none
 else
 let x44:=IntKind.wrap .i64 (a3+y6)
 bif decide (0≤a3∧a3≤x44∧x44≤(a1.length:Int)) then
 let x45:=(a1.take x44.toNat).drop a3.toNat
 bif decide (a2.length+x45.length≤strMax) then
 let x46:=a2++x45
 bif (y6==(0:Int)) then
 some (.inl (a1,x46,(IntKind.wrap .i64 (a3+(1:Int)))))
 else
 some (.inl (a1,x46,(IntKind.wrap .i64 (a3+y6))))
 else none
 else none
 else none
 else
 some (.inr a2)
def S139_4step (uu:Nat) (x:S139_4x):Option (S139_4x⊕S139_4y):=S139_4 uu x.1 x.2.1 x.2.2
def F139 (uu:Nat) (a0:List UInt8):Option ((List UInt8)):=
 (loopQ uu (S139_4step uu) (a0,([34]:List UInt8),(0:Int))).bind fun y50=>
 bif decide (y50.length+([34]:List UInt8).length≤strMax) then
 some (y50++([34]:List UInt8))
 else none
def S139_4l (uu:Nat):LoopE:=⟨4,⟨[0,3,4],[],sv1⟩,[(.exit 0,⟨[3],[],[.str]⟩)],S139_4step uu⟩
def F139C (uu:Nat):Cfg:=cfg Tryz.prog 73 0 [F243c uu,F244c uu] [S139_4l uu] uu
def F139c (uu:Nat):CallE:=⟨139,⟨1,[],[.str]⟩,⟨1,[],[.str]⟩,fun x=>F139 uu x,[]⟩
theorem F139k (uu:Nat):CallOk (F139C uu):=cfg_callOkP (qc (F243ok uu)<|qc (F244ok uu)<|q0) (p0)
theorem S139_4ok (uu:Nat):LoopOk (F139C uu) (lp (bodyOf Tryz.f139) 0):=okL (F139k uu) uu (S139_4l uu) L0
theorem F139ok (uu:Nat):(F139c uu).Ok Tryz.prog:=okE Tryz.f139 (F139k uu) (L1 (S139_4ok uu))
def F292 (uu:Nat) (a0:List UInt8) (a1:Int):Option (Int×Int):=
 bif (decide ((IntKind.wrap .i64 (a1+(1:Int)))≥(a0.length:Int))) then
 some ((0:Int),(0:Int))
 else
 let x4:=IntKind.wrap .i64 (a1+(1:Int))
 bif inRange x4 a0.length then
 let x5:=((a0.getD x4.toNat 0).toNat:Int)
 bif (x5==(34:Int)) then
 let x7:=IntKind.wrap .i64 (a1+(1:Int))
 bif inRange x7 a0.length then
 some (((a0.getD x7.toNat 0).toNat:Int),(2:Int))
 else none
 else
 bif (x5==(92:Int)) then
 let x10:=IntKind.wrap .i64 (a1+(1:Int))
 bif inRange x10 a0.length then
 some (((a0.getD x10.toNat 0).toNat:Int),(2:Int))
 else none
 else
 bif (x5==(110:Int)) then
 some ((10:Int),(2:Int))
 else
 bif (x5==(116:Int)) then
 some ((9:Int),(2:Int))
 else
 bif (x5==(114:Int)) then
 some ((13:Int),(2:Int))
 else
 let x15:=IntKind.wrap .i64 (a1+(1:Int))
 bif inRange x15 a0.length then
 let x21:=bif (((a0.getD x15.toNat 0).toNat:Int) != (120:Int)) then true else (decide ((IntKind.wrap .i64 (a1+(3:Int)))≥(a0.length:Int)))
 let x22:=IntKind.wrap .i64 (a1+(2:Int))
 bif imp (!x21) (inRange x22 a0.length) then
 (bif !x21 then F340 uu ((a0.getD x22.toNat 0).toNat:Int) else some 0).bind fun y24=>
 let x26:=bif x21 then true else (decide (y24<(0:Int)))
 let x27:=IntKind.wrap .i64 (a1+(3:Int))
 bif imp (!x26) (inRange x27 a0.length) then
 (bif !x26 then F340 uu ((a0.getD x27.toNat 0).toNat:Int) else some 0).bind fun y29=>
 bif (bif x26 then true else (decide (y29<(0:Int)))) then
 some ((0:Int),(0:Int))
 else
 let x32:=IntKind.wrap .i64 (a1+(2:Int))
 bif inRange x32 a0.length then
 (F340 uu ((a0.getD x32.toNat 0).toNat:Int)).bind fun y34=>
 let x36:=IntKind.wrap .i64 (a1+(3:Int))
 bif inRange x36 a0.length then
 (F340 uu ((a0.getD x36.toNat 0).toNat:Int)).bind fun y38=>
 some ((IntKind.wrap .u8 (IntKind.wrap .i64 ((IntKind.wrap .i64 ((16:Int)*y34))+y38))),(4:Int))
 else none
 else none
 else none
 else none
 else none
 else none
abbrev S215_6x:=(List UInt8)×(List UInt8)×Int
abbrev S215_6y:=((List UInt8)×Int×Int)⊕(Unit)
def S215_6 (uu:Nat) (a6:List UInt8) (a7:List UInt8) (a8:Int):Option (S215_6x⊕S215_6y):=
 bif (decide (a8<(a6.length:Int))) then
 bif inRange a8 a6.length then
 bif (((a6.getD a8.toNat 0).toNat:Int)==(34:Int)) then
 (F139 uu a7).bind fun y13=>
 let x14:=IntKind.wrap .i64 (a8+(1:Int))
 bif decide (0≤(0:Int)∧(0:Int)≤x14∧x14≤(a6.length:Int)) then
 bif (!(y13==((a6.take x14.toNat).drop (0:Int).toNat))) then
 some (.inr (.inl (([]:List UInt8),(0:Int),(2:Int))))
 else
 some (.inr (.inl (a7,(IntKind.wrap .i64 (a8+(1:Int))),(0:Int))))
 else none
 else
 bif inRange a8 a6.length then
 bif (((a6.getD a8.toNat 0).toNat:Int) != (92:Int)) then
 let x20:=IntKind.wrap .i64 (a8+(1:Int))
 bif decide (0≤a8∧a8≤x20∧x20≤(a6.length:Int)) then
 let x21:=(a6.take x20.toNat).drop a8.toNat
 bif decide (a7.length+x21.length≤strMax) then
 some (.inl (a6,(a7++x21),(IntKind.wrap .i64 (a8+(1:Int)))))
 else none
 else none
 else
 (F292 uu a6 a8).bind fun y24=>
 let x25:=y24.1
 let x26:=y24.2
 bif (x26==(0:Int)) then
 some (.inr (.inl (([]:List UInt8),(0:Int),(2:Int))))
 else
 bif decide (a7.length+([(PV.int x25)].map byteOfPV).length≤strMax) then
 some (.inl (a6,(a7++([(PV.int x25)].map byteOfPV)),(IntKind.wrap .i64 (a8+x26))))
 else none
 else none
 else none
 else
 some (.inr (.inr ()))
def S215_6step (uu:Nat) (x:S215_6x):Option (S215_6x⊕S215_6y):=S215_6 uu x.1 x.2.1 x.2.2
def F215 (uu:Nat) (a0:List UInt8):Option ((List UInt8)×Int×Int):=
 let x2:=(a0.length:Int)==(0:Int)
 bif imp (!x2) (inRange (0:Int) a0.length) then
 bif (bif x2 then true else (((a0.getD (0:Int).toNat 0).toNat:Int) != (34:Int))) then
 some (([]:List UInt8),(0:Int),(2:Int))
 else
 (loopQ uu (S215_6step uu) (a0,([]:List UInt8),(1:Int))).bind fun z=>sumE (fun y30=>
 some (y30.1,y30.2.1,y30.2.2)
 ) (fun y31=>
 some (([]:List UInt8),(0:Int),(2:Int))
 ) z
 else none
def S324_3 (uu:Nat) (a1:List UInt8) (a2:Int):Option (((List UInt8)×Int)⊕((Int)⊕(Unit))):=
 bif (decide (a2<(a1.length:Int))) then
 (F243 uu a1 a2).bind fun y5=>
 bif (y5==(0:Int)) then
 some (.inr (.inl a2))
 else
 some (.inl (a1,(IntKind.wrap .i64 (a2+y5))))
 else
 some (.inr (.inr ()))
def S324_3step (uu:Nat) (x:(List UInt8)×Int):Option (((List UInt8)×Int)⊕((Int)⊕(Unit))):=S324_3 uu x.1 x.2
def F324 (uu:Nat) (a0:List UInt8):Option (Int):=
 (loopQ uu (S324_3step uu) (a0,(0:Int))).bind fun z=>sumE (fun y8=>
 some y8
 ) (fun y9=>
 some (-1:Int)
 ) z
def S324_3l (uu:Nat):LoopE:=⟨3,⟨[0,3],[],sv0⟩,[(.ret,⟨[2],[],[(.int .i64)]⟩),(.exit 0,⟨[],[],[]⟩)],S324_3step uu⟩
def F324C (uu:Nat):Cfg:=cfg Tryz.prog 18 0 [F243c uu] [S324_3l uu] uu
def F324c (uu:Nat):CallE:=⟨324,⟨1,[],[.str]⟩,⟨1,[],[(.int .i64)]⟩,fun x=>F324 uu x,0⟩
theorem F324k (uu:Nat):CallOk (F324C uu):=cfg_callOkP (qc (F243ok uu)<|q0) (p0)
theorem S324_3ok (uu:Nat):LoopOk (F324C uu) (lp (bodyOf Tryz.f324) 0):=okL (F324k uu) uu (S324_3l uu) L0
theorem F324ok (uu:Nat):(F324c uu).Ok Tryz.prog:=okE Tryz.f324 (F324k uu) (L1 (S324_3ok uu))
def F259 (uu:Nat) (a0:List UInt8):Option (Bool):=
 (F324 uu a0).bind fun y1=>
 some (decide (y1<(0:Int)))
def F259c (uu:Nat):CallE:=⟨259,⟨1,[],[.str]⟩,⟨1,[],[.bool]⟩,fun x=>F259 uu x,false⟩
theorem F259ok (uu:Nat):(F259c uu).Ok Tryz.prog:=okJ Tryz.f259 6 0 uu _ [] false (qc (F324ok uu)<|q0) (p0) L0
def F317 (uu:Nat) (a0:Int) (a1:List UInt8):Option (PV×Int):=
 (F215 uu a1).bind fun y1=>
 let x2:=y1.1
 bif (bif (y1.2.2 != (0:Int)) then true else (y1.2.1 != (a1.length:Int))) then
 some ((PV.agg [(PV.int (0:Int)),(PV.int (0:Int)),(PV.str ([]:List UInt8)),(PV.slice []),(PV.slice []),(PV.slice []),(PV.slice [])]),(2:Int))
 else
 bif (a0==(8:Int)) then
 (F364 uu x2).bind fun y10=>
 let x11:=y10.1
 bif (y10.2 != (0:Int)) then
 some ((PV.agg [(PV.int (0:Int)),(PV.int (0:Int)),(PV.str ([]:List UInt8)),(PV.slice []),(PV.slice []),(PV.slice []),(PV.slice [])]),(2:Int))
 else
 bif (decide ((x11.length:Int)>(4096:Int))) then
 some ((PV.agg [(PV.int (0:Int)),(PV.int (0:Int)),(PV.str ([]:List UInt8)),(PV.slice []),(PV.slice []),(PV.slice []),(PV.slice [])]),(3:Int))
 else
 some ((PV.agg [(PV.int a0),(PV.int (0:Int)),(PV.str x11),(PV.slice []),(PV.slice []),(PV.slice []),(PV.slice [])]),(0:Int))
 else
 (F259 uu x2).bind fun y16=>
 bif (!y16) then
 some ((PV.agg [(PV.int (0:Int)),(PV.int (0:Int)),(PV.str ([]:List UInt8)),(PV.slice []),(PV.slice []),(PV.slice []),(PV.slice [])]),(7:Int))
 else
 bif (decide ((x2.length:Int)>(4096:Int))) then
 some ((PV.agg [(PV.int (0:Int)),(PV.int (0:Int)),(PV.str ([]:List UInt8)),(PV.slice []),(PV.slice []),(PV.slice []),(PV.slice [])]),(3:Int))
 else
 some ((PV.agg [(PV.int a0),(PV.int (0:Int)),(PV.str x2),(PV.slice []),(PV.slice []),(PV.slice []),(PV.slice [])]),(0:Int))
abbrev S365_9x:=(List UInt8)×Bool×Int×Bool×Int
abbrev S365_9y:=(Int×Bool×Int)⊕(Bool×Int×Bool)
def S365_9 (uu:Nat) (a13:List UInt8) (a14:Bool) (a15:Int) (a16:Bool) (a17:Int):Option (S365_9x⊕S365_9y):=
 bif (decide (a17<(a13.length:Int))) then
 bif inRange a17 a13.length then
 let x21:=decide (((a13.getD a17.toNat 0).toNat:Int)<(48:Int))
 bif imp (!x21) (inRange a17 a13.length) then
 bif (bif x21 then true else (decide (((a13.getD a17.toNat 0).toNat:Int)>(57:Int)))) then
 some (.inr (.inl ((0:Int),false,(2:Int))))
 else
 bif inRange a17 a13.length then
 let x27:=IntKind.wrap .u64 (IntKind.wrap .u8 (((a13.getD a17.toNat 0).toNat:Int)-(48:Int)))
 bif (decide (a15>(IntKind.wrap .u64 ((IntKind.wrap .u64 ((18446744073709551615:Int)-x27)).tdiv (10:Int))))) then
 some (.inl (a13,a14,a15,true,(IntKind.wrap .i64 (a17+(1:Int)))))
 else
 bif (!a16) then
 some (.inl (a13,a14,(IntKind.wrap .u64 ((IntKind.wrap .u64 ((10:Int)*a15))+x27)),a16,(IntKind.wrap .i64 (a17+(1:Int)))))
 else
 some (.inl (a13,a14,a15,a16,(IntKind.wrap .i64 (a17+(1:Int)))))
 else none
 else none
 else none
 else
 some (.inr (.inr (a14,a15,a16)))
def S365_9step (uu:Nat) (x:S365_9x):Option (S365_9x⊕S365_9y):=S365_9 uu x.1 x.2.1 x.2.2.1 x.2.2.2.1 x.2.2.2.2
def F365 (uu:Nat) (a0:List UInt8):Option (Int×Bool×Int):=
 let x2:=decide ((a0.length:Int)>(0:Int))
 bif imp x2 (inRange (0:Int) a0.length) then
 bif (bif x2 then (((a0.getD (0:Int).toNat 0).toNat:Int)==(45:Int)) else false) then
 bif decide (0≤(1:Int)∧(1:Int)≤(a0.length:Int)∧(a0.length:Int)≤(a0.length:Int)) then
 let x6:=(a0.take (a0.length:Int).toNat).drop (1:Int).toNat
 let x7:=x6==([]:List UInt8)
 bif imp (!x7) (inRange (0:Int) x6.length) then
 bif (bif x7 then true else (bif (((x6.getD (0:Int).toNat 0).toNat:Int)==(48:Int)) then (!(a0==([48]:List UInt8))) else false)) then
 some ((0:Int),false,(2:Int))
 else
 (loopQ uu (S365_9step uu) (x6,true,(0:Int),false,(0:Int))).bind fun z=>sumE (fun y37=>
 some (y37.1,y37.2.1,y37.2.2)
 ) (fun y38=>
 bif y38.2.2 then
 some ((0:Int),false,(6:Int))
 else
 some (y38.2.1,y38.1,(0:Int))
 ) z
 else none
 else none
 else
 let x42:=a0==([]:List UInt8)
 bif imp (!x42) (inRange (0:Int) a0.length) then
 bif (bif x42 then true else (bif (((a0.getD (0:Int).toNat 0).toNat:Int)==(48:Int)) then (!(a0==([48]:List UInt8))) else false)) then
 some ((0:Int),false,(2:Int))
 else
 (loopQ uu (S365_9step uu) (a0,false,(0:Int),false,(0:Int))).bind fun z=>sumE (fun y48=>
 some (y48.1,y48.2.1,y48.2.2)
 ) (fun y49=>
 bif y49.2.2 then
 some ((0:Int),false,(6:Int))
 else
 some (y49.2.1,y49.1,(0:Int))
 ) z
 else none
 else none
def F366 (uu:Nat) (a0:Int):Option (Bool):=
 some (bif (a0==(2:Int)) then true else (a0==(3:Int)))
def F257 (uu:Nat) (a0:PV):Option (Bool):=
 some (bif (bif (bif ((((a0.fld 3).asList).length:Int)==(0:Int)) then ((((a0.fld 4).asList).length:Int)==(0:Int)) else false) then ((((a0.fld 5).asList).length:Int)==(0:Int)) else false) then ((((a0.fld 6).asList).length:Int)==(0:Int)) else false)
def F257c (uu:Nat):CallE:=⟨257,⟨1,[],[(.data 51)]⟩,⟨1,[],[.bool]⟩,fun x=>F257 uu x,false⟩
theorem F257ok (uu:Nat):(F257c uu).Ok Tryz.prog:=okJ Tryz.f257 25 0 uu [] [] false (q0) (p0) L0
def F258 (uu:Nat) (a0:Int):Option (Bool):=
 some (bif (a0==(7:Int)) then true else (a0==(8:Int)))
def F258c (uu:Nat):CallE:=⟨258,⟨1,[],[(.int .i64)]⟩,⟨1,[],[.bool]⟩,fun x=>F258 uu x,false⟩
theorem F258ok (uu:Nat):(F258c uu).Ok Tryz.prog:=okJ Tryz.f258 9 0 uu [] [] false (q0) (p0) L0
def F153 (uu:Nat) (a0:Int) (a1:PV):Option (Bool):=
 (F256 uu a0).bind fun y1=>
 let x5:=bif (!y1) then true else (((a1.fld 0).asInt) != a0)
 (bif !x5 then F257 uu a1 else some false).bind fun y6=>
 bif (bif x5 then true else (!y6)) then
 some false
 else
 (F258 uu a0).bind fun y9=>
 bif y9 then
 let x15:=bif (((a1.fld 1).asInt)==(0:Int)) then (decide ((((a1.fld 2).asStr).length:Int)≤(4096:Int))) else false
 let x16:=a0==(8:Int)
 (bif bif !x16 then x15 else false then F259 uu ((a1.fld 2).asStr) else some false).bind fun y18=>
 some (bif x15 then (bif x16 then true else y18) else false)
 else
 bif (!(((a1.fld 2).asStr)==([]:List UInt8))) then
 some false
 else
 bif (a0==(1:Int)) then
 some (decide (((a1.fld 1).asInt)≤(1:Int)))
 else
 bif (a0==(2:Int)) then
 let x28:=IntKind.wrap .i64 ((a1.fld 1).asInt)
 some (bif (decide (x28≥(-2147483648:Int))) then (decide (x28≤(2147483647:Int))) else false)
 else
 bif (a0==(4:Int)) then
 some (decide (((a1.fld 1).asInt)<(4294967296:Int)))
 else
 bif (a0==(9:Int)) then
 some (decide (((a1.fld 1).asInt)<(2147483648:Int)))
 else
 some true
def F153c (uu:Nat):CallE:=⟨153,⟨2,[],[(.int .i64),(.data 51)]⟩,⟨1,[],[.bool]⟩,fun x=>F153 uu x.1 x.2,false⟩
theorem F153ok (uu:Nat):(F153c uu).Ok Tryz.prog:=okJ Tryz.f153 70 0 uu _ [] false (qc (F256ok uu)<|qc (F257ok uu)<|qc (F258ok uu)<|qc (F259ok uu)<|q0) (p0) L0
def F318 (uu:Nat) (a0:Int) (a1:List UInt8):Option (PV×Int):=
 (F365 uu a1).bind fun y1=>
 let x2:=y1.1
 let x3:=y1.2.1
 let x4:=y1.2.2
 bif (x4 != (0:Int)) then
 some ((PV.agg [(PV.int (0:Int)),(PV.int (0:Int)),(PV.str ([]:List UInt8)),(PV.slice []),(PV.slice []),(PV.slice []),(PV.slice [])]),x4)
 else
 (bif x3 then F366 uu a0 else some false).bind fun y6=>
 let x10:=bif x3 then (bif (!y6) then true else (decide (x2>(9223372036854775808:Int)))) else false
 let x11:=!x3
 (bif bif x11 then !x10 else false then F366 uu a0 else some false).bind fun y12=>
 bif (bif x10 then true else (bif (bif x11 then y12 else false) then (decide (x2≥(9223372036854775808:Int))) else false)) then
 some ((PV.agg [(PV.int (0:Int)),(PV.int (0:Int)),(PV.str ([]:List UInt8)),(PV.slice []),(PV.slice []),(PV.slice []),(PV.slice [])]),(6:Int))
 else
 bif x3 then
 let x17:=IntKind.wrap .u64 (0-x2)
 (F153 uu a0 (PV.agg [(PV.int a0),(PV.int x17),(PV.str ([]:List UInt8)),(PV.slice []),(PV.slice []),(PV.slice []),(PV.slice [])])).bind fun y18=>
 bif (!y18) then
 some ((PV.agg [(PV.int (0:Int)),(PV.int (0:Int)),(PV.str ([]:List UInt8)),(PV.slice []),(PV.slice []),(PV.slice []),(PV.slice [])]),(6:Int))
 else
 some ((PV.agg [(PV.int a0),(PV.int x17),(PV.str ([]:List UInt8)),(PV.slice []),(PV.slice []),(PV.slice []),(PV.slice [])]),(0:Int))
 else
 (F153 uu a0 (PV.agg [(PV.int a0),(PV.int x2),(PV.str ([]:List UInt8)),(PV.slice []),(PV.slice []),(PV.slice []),(PV.slice [])])).bind fun y20=>
 bif (!y20) then
 some ((PV.agg [(PV.int (0:Int)),(PV.int (0:Int)),(PV.str ([]:List UInt8)),(PV.slice []),(PV.slice []),(PV.slice []),(PV.slice [])]),(6:Int))
 else
 some ((PV.agg [(PV.int a0),(PV.int x2),(PV.str ([]:List UInt8)),(PV.slice []),(PV.slice []),(PV.slice []),(PV.slice [])]),(0:Int))
def F242 (uu:Nat) (a0:Int) (a1:List UInt8):Option (PV×Int):=
 (F256 uu a0).bind fun y1=>
 bif (!y1) then
 some ((PV.agg [(PV.int (0:Int)),(PV.int (0:Int)),(PV.str ([]:List UInt8)),(PV.slice []),(PV.slice []),(PV.slice []),(PV.slice [])]),(1:Int))
 else
 bif (a0==(1:Int)) then
 bif (bif (!(a1==([116,114,117,101]:List UInt8))) then (!(a1==([102,97,108,115,101]:List UInt8))) else false) then
 some ((PV.agg [(PV.int (0:Int)),(PV.int (0:Int)),(PV.str ([]:List UInt8)),(PV.slice []),(PV.slice []),(PV.slice []),(PV.slice [])]),(2:Int))
 else
 bif (a1==([116,114,117,101]:List UInt8)) then
 some ((PV.agg [(PV.int a0),(PV.int (1:Int)),(PV.str ([]:List UInt8)),(PV.slice []),(PV.slice []),(PV.slice []),(PV.slice [])]),(0:Int))
 else
 some ((PV.agg [(PV.int a0),(PV.int (0:Int)),(PV.str ([]:List UInt8)),(PV.slice []),(PV.slice []),(PV.slice []),(PV.slice [])]),(0:Int))
 else
 bif (a0==(6:Int)) then
 (F316 uu a1).bind fun y9=>
 some (y9.1,y9.2)
 else
 bif (a0==(7:Int)) then
 (F317 uu a0 a1).bind fun y13=>
 some (y13.1,y13.2)
 else
 bif (a0==(8:Int)) then
 let x17:=a1==([]:List UInt8)
 bif imp (!x17) (inRange (0:Int) a1.length) then
 bif (bif x17 then true else (((a1.getD (0:Int).toNat 0).toNat:Int) != (120:Int))) then
 some ((PV.agg [(PV.int (0:Int)),(PV.int (0:Int)),(PV.str ([]:List UInt8)),(PV.slice []),(PV.slice []),(PV.slice []),(PV.slice [])]),(2:Int))
 else
 bif decide (0≤(1:Int)∧(1:Int)≤(a1.length:Int)∧(a1.length:Int)≤(a1.length:Int)) then
 (F317 uu a0 ((a1.take (a1.length:Int).toNat).drop (1:Int).toNat)).bind fun y22=>
 some (y22.1,y22.2)
 else none
 else none
 else
 (F318 uu a0 a1).bind fun y25=>
 some (y25.1,y25.2)
def F152 (uu:Nat) (a0:List UInt8):Option (Int):=
 let x1:=a0==([100,101,112,114,101,99,97,116,101,100]:List UInt8)
 bif x1 then
 some (1:Int)
 else
 bif (a0==([115,101,99,114,101,116]:List UInt8)) then
 some (1:Int)
 else
 let x3:=a0==([105,100,101,109,112,111,116,101,110,116]:List UInt8)
 bif x3 then
 some (1:Int)
 else
 bif (a0==([100,111,99]:List UInt8)) then
 some (7:Int)
 else
 bif (a0==([97,108,105,97,115]:List UInt8)) then
 some (7:Int)
 else
 bif (a0==([114,111,117,116,101]:List UInt8)) then
 some (7:Int)
 else
 bif (a0==([111,119,110,101,114]:List UInt8)) then
 some (7:Int)
 else
 bif (a0==([115,105,110,99,101]:List UInt8)) then
 some (4:Int)
 else
 bif (a0==([117,110,116,105,108]:List UInt8)) then
 some (4:Int)
 else
 bif (a0==([108,101,110,103,116,104]:List UInt8)) then
 some (4:Int)
 else
 bif (a0==([116,105,109,101,111,117,116]:List UInt8)) then
 some (4:Int)
 else
 bif (a0==([109,105,110]:List UInt8)) then
 some (3:Int)
 else
 bif (a0==([109,97,120]:List UInt8)) then
 some (3:Int)
 else
 some (0:Int)
def F152c (uu:Nat):CallE:=⟨152,⟨1,[],[.str]⟩,⟨1,[],[(.int .i64)]⟩,fun x=>F152 uu x,0⟩
theorem F152ok (uu:Nat):(F152c uu).Ok Tryz.prog:=okJ Tryz.f152 21 0 uu [] [] false (q0) (p0) L0
def F75 (uu:Nat) (a0:PV):Option (Bool):=
 (F152 uu ((a0.fld 0).asStr)).bind fun y2=>
 let x6:=bif (y2 != (0:Int)) then ((((a0.fld 1).fld 0).asInt)==y2) else false
 (bif x6 then F153 uu y2 (a0.fld 1) else some false).bind fun y8=>
 some (bif x6 then y8 else false)
def F75c (uu:Nat):CallE:=⟨75,⟨1,[],[(.data 116)]⟩,⟨1,[],[.bool]⟩,fun x=>F75 uu x,false⟩
theorem F75ok (uu:Nat):(F75c uu).Ok Tryz.prog:=okJ Tryz.f75 22 0 uu _ [] false (qc (F152ok uu)<|qc (F153ok uu)<|q0) (p0) L0
def S154_3 (uu:Nat) (a4:Int) (a5:List UInt8):Option ((Int×(List UInt8))⊕(((List UInt8)))):=
 bif (decide (a4≥(10:Int))) then
 let x7:=IntKind.wrap .u64 (a4.tdiv (10:Int))
 let x10:=IntKind.wrap .u8 (IntKind.wrap .u64 ((48:Int)+(x7.tmod (10:Int))))
 bif decide (([(PV.int x10)].map byteOfPV).length+a5.length≤strMax) then
 some (.inl (x7,([(PV.int x10)].map byteOfPV)++a5))
 else none
 else
 some (.inr a5)
def S154_3step (uu:Nat) (x:Int×(List UInt8)):Option ((Int×(List UInt8))⊕(((List UInt8)))):=S154_3 uu x.1 x.2
def F154 (uu:Nat) (a0:Int):Option ((List UInt8)):=
 (loopQ uu (S154_3step uu) (a0,[(PV.int (IntKind.wrap .u8 (IntKind.wrap .u64 ((48:Int)+(a0.tmod (10:Int))))))].map byteOfPV)).bind fun y11=>
 some y11
def S154_3l (uu:Nat):LoopE:=⟨3,⟨[0,3],[],[(.int .u64),.str]⟩,[(.exit 0,⟨[3],[],[.str]⟩)],S154_3step uu⟩
def F154C (uu:Nat):Cfg:=cfg Tryz.prog 23 0 [] [S154_3l uu] uu
def F154c (uu:Nat):CallE:=⟨154,⟨1,[],[(.int .u64)]⟩,⟨1,[],[.str]⟩,fun x=>F154 uu x,[]⟩
theorem F154k (uu:Nat):CallOk (F154C uu):=cfg_callOkP (q0) (p0)
theorem S154_3ok (uu:Nat):LoopOk (F154C uu) (lp (bodyOf Tryz.f154) 0):=okL (F154k uu) uu (S154_3l uu) L0
theorem F154ok (uu:Nat):(F154c uu).Ok Tryz.prog:=okE Tryz.f154 (F154k uu) (L1 (S154_3ok uu))
abbrev S157_4x:=(List UInt8)×(List UInt8)×Int
abbrev S157_4y:=((List UInt8))
def S157_4 (uu:Nat) (a1:List UInt8) (a2:List UInt8) (a3:Int):Option (S157_4x⊕S157_4y):=
 bif (decide (a3<(a1.length:Int))) then
 bif inRange a3 a1.length then
 (F244 uu ((a1.getD a3.toNat 0).toNat:Int)).bind fun y7=>
 bif decide (a2.length+y7.length≤strMax) then
 some (.inl (a1,(a2++y7),(IntKind.wrap .i64 (a3+(1:Int)))))
 else none
 else none
 else
 some (.inr a2)
def S157_4step (uu:Nat) (x:S157_4x):Option (S157_4x⊕S157_4y):=S157_4 uu x.1 x.2.1 x.2.2
def F157 (uu:Nat) (a0:List UInt8):Option ((List UInt8)):=
 (loopQ uu (S157_4step uu) (a0,([]:List UInt8),(0:Int))).bind fun y10=>
 some y10
def S157_4l (uu:Nat):LoopE:=⟨4,⟨[0,3,4],[],sv1⟩,[(.exit 0,⟨[3],[],[.str]⟩)],S157_4step uu⟩
def F157C (uu:Nat):Cfg:=cfg Tryz.prog 18 0 [F244c uu] [S157_4l uu] uu
def F157c (uu:Nat):CallE:=⟨157,⟨1,[],[.str]⟩,⟨1,[],[.str]⟩,fun x=>F157 uu x,[]⟩
theorem F157k (uu:Nat):CallOk (F157C uu):=cfg_callOkP (qc (F244ok uu)<|q0) (p0)
theorem S157_4ok (uu:Nat):LoopOk (F157C uu) (lp (bodyOf Tryz.f157) 0):=okL (F157k uu) uu (S157_4l uu) L0
theorem F157ok (uu:Nat):(F157c uu).Ok Tryz.prog:=okE Tryz.f157 (F157k uu) (L1 (S157_4ok uu))
def S156_4 (uu:Nat) (a9:Int) (a10:List PV) (a11:Int):Option ((Int×(List PV)×Int)⊕(((List PV)))):=
 bif (decide (a11<(8:Int))) then
 let x14:=IntKind.wrap .u8 (a9.tmod (256:Int))
 bif decide ([(PV.int x14)].length+a10.length≤accMax) then
 some (.inl ((IntKind.wrap .u64 (a9.tdiv (256:Int))),[(PV.int x14)]++a10,(IntKind.wrap .i64 (a11+(1:Int)))))
 else none
 else
 some (.inr a10)
def S156_4step (uu:Nat) (x:Int×(List PV)×Int):Option ((Int×(List PV)×Int)⊕(((List PV)))):=S156_4 uu x.1 x.2.1 x.2.2
def F156 (uu:Nat) (a0:Int):Option ((List UInt8)):=
 (loopQ uu (S156_4step uu) (a0,[],(0:Int))).bind fun y17=>
 (F157 uu (y17.map byteOfPV)).bind fun y19=>
 some y19
def S156_4l (uu:Nat):LoopE:=⟨4,⟨[0,3,4],[],[(.int .u64),(.slice 5),(.int .i64)]⟩,[(.exit 0,⟨[3],[],[(.slice 5)]⟩)],S156_4step uu⟩
def F156C (uu:Nat):Cfg:=cfg Tryz.prog 20 0 [F157c uu] [S156_4l uu] uu
def F156c (uu:Nat):CallE:=⟨156,⟨1,[],[(.int .u64)]⟩,⟨1,[],[.str]⟩,fun x=>F156 uu x,[]⟩
theorem F156k (uu:Nat):CallOk (F156C uu):=cfg_callOkP (qc (F157ok uu)<|q0) (p0)
theorem S156_4ok (uu:Nat):LoopOk (F156C uu) (lp (bodyOf Tryz.f156) 0):=okL (F156k uu) uu (S156_4l uu) L0
theorem F156ok (uu:Nat):(F156c uu).Ok Tryz.prog:=okE Tryz.f156 (F156k uu) (L1 (S156_4ok uu))
def F76 (uu:Nat) (a0:PV):Option ((List UInt8)):=
 (F153 uu ((a0.fld 0).asInt) a0).bind fun y2=>
 bif (!y2) then
 some ([]:List UInt8)
 else
 let x4:=(a0.fld 0).asInt
 bif (x4==(1:Int)) then
 bif (((a0.fld 1).asInt)==(1:Int)) then
 some ([116,114,117,101]:List UInt8)
 else
 some ([102,97,108,115,101]:List UInt8)
 else
 bif (x4==(2:Int)) then
 bif (decide (((a0.fld 1).asInt)≥(9223372036854775808:Int))) then
 (F154 uu (IntKind.wrap .u64 (0-((a0.fld 1).asInt)))).bind fun y13=>
 bif decide (([45]:List UInt8).length+y13.length≤strMax) then
 some (([45]:List UInt8)++y13)
 else none
 else
 (F154 uu ((a0.fld 1).asInt)).bind fun y15=>
 some y15
 else
 bif (x4==(3:Int)) then
 bif (decide (((a0.fld 1).asInt)≥(9223372036854775808:Int))) then
 (F154 uu (IntKind.wrap .u64 (0-((a0.fld 1).asInt)))).bind fun y21=>
 bif decide (([45]:List UInt8).length+y21.length≤strMax) then
 some (([45]:List UInt8)++y21)
 else none
 else
 (F154 uu ((a0.fld 1).asInt)).bind fun y23=>
 some y23
 else
 bif (x4==(6:Int)) then
 (F155 uu ((a0.fld 1).asInt)).bind fun y26=>
 bif (y26==(0:Int)) then
 some ([110,97,110]:List UInt8)
 else
 bif (y26==(1:Int)) then
 bif (decide (((a0.fld 1).asInt)≥(9223372036854775808:Int))) then
 some ([45,105,110,102]:List UInt8)
 else
 some ([105,110,102]:List UInt8)
 else
 (F156 uu ((a0.fld 1).asInt)).bind fun y32=>
 bif decide (([48,120]:List UInt8).length+y32.length≤strMax) then
 some (([48,120]:List UInt8)++y32)
 else none
 else
 bif (x4==(7:Int)) then
 (F139 uu ((a0.fld 2).asStr)).bind fun y35=>
 some y35
 else
 bif (x4==(8:Int)) then
 (F157 uu ((a0.fld 2).asStr)).bind fun y38=>
 (F139 uu y38).bind fun y39=>
 bif decide (([120]:List UInt8).length+y39.length≤strMax) then
 some (([120]:List UInt8)++y39)
 else none
 else
 (F154 uu ((a0.fld 1).asInt)).bind fun y41=>
 some y41
def F76c (uu:Nat):CallE:=⟨76,⟨1,[],[(.data 51)]⟩,⟨1,[],[.str]⟩,fun x=>F76 uu x,[]⟩
theorem F76ok (uu:Nat):(F76c uu).Ok Tryz.prog:=okJ Tryz.f76 60 0 uu _ [] false (qc (F153ok uu)<|qc (F154ok uu)<|qc (F155ok uu)<|qc (F156ok uu)<|qc (F139ok uu)<|qc (F157ok uu)<|q0) (p0) L0
abbrev S35_6x:=(List PV)×(List UInt8)×Int
abbrev S35_6y:=((List UInt8))⊕((List UInt8))
def S35_6 (uu:Nat) (a3:List PV) (a4:List UInt8) (a5:Int):Option (S35_6x⊕S35_6y):=
 bif (decide (a5<(a3.length:Int))) then
 bif inRange a5 a3.length then
 (F75 uu (a3.getD a5.toNat .bad)).bind fun y9=>
 bif (!y9) then
 some (.inr (.inl ([]:List UInt8)))
 else
 bif (decide (a5>(0:Int))) then
 bif decide (a4.length+([44,32]:List UInt8).length≤strMax) then
 let x12:=a4++([44,32]:List UInt8)
 bif inRange a5 a3.length then
 let x15:=((a3.getD a5.toNat .bad).fld 0).asStr
 bif decide (x15.length+([32,61,32]:List UInt8).length≤strMax) then
 let x16:=x15++([32,61,32]:List UInt8)
 bif inRange a5 a3.length then
 (F76 uu ((a3.getD a5.toNat .bad).fld 1)).bind fun y19=>
 bif decide (x16.length+y19.length≤strMax) then
 let x20:=x16++y19
 bif decide (x12.length+x20.length≤strMax) then
 some (.inl (a3,(x12++x20),(IntKind.wrap .i64 (a5+(1:Int)))))
 else none
 else none
 else none
 else none
 else none
 else none
 else
 bif inRange a5 a3.length then
 let x25:=((a3.getD a5.toNat .bad).fld 0).asStr
 bif decide (x25.length+([32,61,32]:List UInt8).length≤strMax) then
 let x26:=x25++([32,61,32]:List UInt8)
 bif inRange a5 a3.length then
 (F76 uu ((a3.getD a5.toNat .bad).fld 1)).bind fun y29=>
 bif decide (x26.length+y29.length≤strMax) then
 let x30:=x26++y29
 bif decide (a4.length+x30.length≤strMax) then
 some (.inl (a3,(a4++x30),(IntKind.wrap .i64 (a5+(1:Int)))))
 else none
 else none
 else none
 else none
 else none
 else none
 else
 some (.inr (.inr a4))
def S35_6step (uu:Nat) (x:S35_6x):Option (S35_6x⊕S35_6y):=S35_6 uu x.1 x.2.1 x.2.2
def F35 (uu:Nat) (a0:List PV):Option ((List UInt8)):=
 bif ((a0.length:Int)==(0:Int)) then
 some ([]:List UInt8)
 else
 (loopQ uu (S35_6step uu) (a0,([91]:List UInt8),(0:Int))).bind fun z=>sumE (fun y33=>
 some y33
 ) (fun y34=>
 bif decide (y34.length+([93]:List UInt8).length≤strMax) then
 some (y34++([93]:List UInt8))
 else none
 ) z
def S35_6l (uu:Nat):LoopE:=⟨6,⟨[0,3,4],[],(.slice 116)::sv0⟩,[(.ret,⟨[2],[],[.str]⟩),(.exit 0,⟨[3],[],[.str]⟩)],S35_6step uu⟩
def F35C (uu:Nat):Cfg:=cfg Tryz.prog 41 0 [F75c uu,F76c uu] [S35_6l uu] uu
def F35c (uu:Nat):CallE:=⟨35,⟨1,[],[(.slice 116)]⟩,⟨1,[],[.str]⟩,fun x=>F35 uu x,[]⟩
theorem F35k (uu:Nat):CallOk (F35C uu):=cfg_callOkP (qc (F75ok uu)<|qc (F76ok uu)<|q0) (p0)
theorem S35_6ok (uu:Nat):LoopOk (F35C uu) (lp (bodyOf Tryz.f35) 0):=okL (F35k uu) uu (S35_6l uu) L0
theorem F35ok (uu:Nat):(F35c uu).Ok Tryz.prog:=okE Tryz.f35 (F35k uu) (L1 (S35_6ok uu))
abbrev S37_5x:=(List PV)×(List PV)×Int
abbrev S37_5y:=(Bool)⊕(Unit)
def S37_5 (uu:Nat) (a4:List PV) (a5:List PV) (a6:Int):Option (S37_5x⊕S37_5y):=
 bif (decide (a6<(a4.length:Int))) then
 bif inRange a6 a4.length then
 bif inRange a6 a5.length then
 let x15:=!(((a4.getD a6.toNat .bad).fld 0).asStr==((a5.getD a6.toNat .bad).fld 0).asStr)
 bif imp (!x15) (inRange a6 a4.length) then
 bif imp (!x15) (inRange a6 a5.length) then
 let x25:=bif x15 then true else ((((a4.getD a6.toNat .bad).fld 1).fld 0).asInt != (((a5.getD a6.toNat .bad).fld 1).fld 0).asInt)
 bif imp (!x25) (inRange a6 a4.length) then
 bif imp (!x25) (inRange a6 a5.length) then
 let x35:=bif x25 then true else ((((a4.getD a6.toNat .bad).fld 1).fld 1).asInt != (((a5.getD a6.toNat .bad).fld 1).fld 1).asInt)
 bif imp (!x35) (inRange a6 a4.length) then
 bif imp (!x35) (inRange a6 a5.length) then
 bif (bif x35 then true else (!((((a4.getD a6.toNat .bad).fld 1).fld 2).asStr==(((a5.getD a6.toNat .bad).fld 1).fld 2).asStr))) then
 some (.inr (.inl false))
 else
 some (.inl (a4,a5,(IntKind.wrap .i64 (a6+(1:Int)))))
 else none
 else none
 else none
 else none
 else none
 else none
 else none
 else none
 else
 some (.inr (.inr ()))
def S37_5step (uu:Nat) (x:S37_5x):Option (S37_5x⊕S37_5y):=S37_5 uu x.1 x.2.1 x.2.2
def F37 (uu:Nat) (a0:List PV) (a1:List PV):Option (Bool):=
 bif ((a0.length:Int) != (a1.length:Int)) then
 some false
 else
 (loopQ uu (S37_5step uu) (a0,a1,(0:Int))).bind fun z=>sumE (fun y47=>
 some y47
 ) (fun y48=>
 some true
 ) z
def S37_5l (uu:Nat):LoopE:=⟨5,⟨[0,1,5],[],[(.slice 116),(.slice 116),(.int .i64)]⟩,[(.ret,⟨[4],[],[.bool]⟩),(.exit 0,⟨[],[],[]⟩)],S37_5step uu⟩
def F37C (uu:Nat):Cfg:=cfg Tryz.prog 73 0 [] [S37_5l uu] uu
def F37c (uu:Nat):CallE:=⟨37,⟨2,[],[(.slice 116),(.slice 116)]⟩,⟨1,[],[.bool]⟩,fun x=>F37 uu x.1 x.2,false⟩
theorem F37k (uu:Nat):CallOk (F37C uu):=cfg_callOkP (q0) (p0)
theorem S37_5ok (uu:Nat):LoopOk (F37C uu) (lp (bodyOf Tryz.f37) 0):=okL (F37k uu) uu (S37_5l uu) L0
theorem F37ok (uu:Nat):(F37c uu).Ok Tryz.prog:=okE Tryz.f37 (F37k uu) (L1 (S37_5ok uu))
abbrev S11_12x:=(List PV)×(List PV)×(List PV)×(List PV)×(List PV)×Int
abbrev S11_12y:=((List PV)×(List PV)×(List PV)×(List PV)×(List PV))
def S11_12 (uu:Nat) (a30:List PV) (a31:List PV) (a32:List PV) (a33:List PV) (a34:List PV) (a35:Int):Option (S11_12x⊕S11_12y):=
 bif (decide (a35<(a31.length:Int))) then
 bif inRange a35 a31.length then
 let x38:=a31.getD a35.toNat .bad
 bif decide (a34.length+[x38].length≤accMax) then
 some (.inl (a30,a31,a32,a33,(a34++[x38]),(IntKind.wrap .i64 (a35+(1:Int)))))
 else none
 else none
 else
 some (.inr (a30,a31,a32,a33,a34))
def S11_12step (uu:Nat) (x:S11_12x):Option (S11_12x⊕S11_12y):=S11_12 uu x.1 x.2.1 x.2.2.1 x.2.2.2.1 x.2.2.2.2.1 x.2.2.2.2.2
abbrev S11_16x:=(List PV)×(List PV)×(List PV)×(List PV)×(List PV)×Int
abbrev S11_16y:=((List PV)×(List PV)×(List PV)×(List PV)×(List PV))
def S11_16 (uu:Nat) (a42:List PV) (a43:List PV) (a44:List PV) (a45:List PV) (a46:List PV) (a47:Int):Option (S11_16x⊕S11_16y):=
 bif (decide (a47<(a45.length:Int))) then
 bif inRange a47 a45.length then
 let x50:=a45.getD a47.toNat .bad
 bif decide (a46.length+[x50].length≤accMax) then
 some (.inl (a42,a43,a44,a45,(a46++[x50]),(IntKind.wrap .i64 (a47+(1:Int)))))
 else none
 else none
 else
 some (.inr (a42,a43,a44,a45,a46))
def S11_16step (uu:Nat) (x:S11_16x):Option (S11_16x⊕S11_16y):=S11_16 uu x.1 x.2.1 x.2.2.1 x.2.2.2.1 x.2.2.2.2.1 x.2.2.2.2.2
abbrev S11_20x:=(List PV)×(List PV)×(List PV)×(List PV)×(List PV)×Int
abbrev S11_20y:=((List PV)×(List PV)×(List PV)×(List PV))
def S11_20 (uu:Nat) (a54:List PV) (a55:List PV) (a56:List PV) (a57:List PV) (a58:List PV) (a59:Int):Option (S11_20x⊕S11_20y):=
 bif (decide (a59<(a56.length:Int))) then
 bif inRange a59 a56.length then
 let x62:=a56.getD a59.toNat .bad
 bif decide (a58.length+[x62].length≤accMax) then
 some (.inl (a54,a55,a56,a57,(a58++[x62]),(IntKind.wrap .i64 (a59+(1:Int)))))
 else none
 else none
 else
 some (.inr (a54,a55,a57,a58))
def S11_20step (uu:Nat) (x:S11_20x):Option (S11_20x⊕S11_20y):=S11_20 uu x.1 x.2.1 x.2.2.1 x.2.2.2.1 x.2.2.2.2.1 x.2.2.2.2.2
def F11 (uu:Nat) (a0:List PV) (a1:List PV) (a2:List PV):Option (Bool):=
 bif (bif (bif (decide ((a0.length:Int)>(40:Int))) then true else (decide ((a1.length:Int)>(50:Int)))) then true else (decide ((a2.length:Int)>(50:Int)))) then
 (Lawake08 uu).bind fun y9=>
 some y9
 else
 (F34 uu a0).bind fun y10=>
 (F35 uu a0).bind fun y11=>
 bif (bif (y11==([]:List UInt8)) then true else (decide ((y10.length:Int)>(16384:Int)))) then
 (F35 uu a0).bind fun y17=>
 let x19:=(y10.length:Int)==(y17.length:Int)
 (bif x19 then Lawake08 uu else some false).bind fun y20=>
 some (bif x19 then y20 else false)
 else
 (F28 uu y10).bind fun y22=>
 let x23:=y22.1
 bif (bif (y22.2.2 != (0:Int)) then true else ((x23.length:Int)==(0:Int))) then
 some false
 else
 (loopQ uu (S11_12step uu) (a0,a1,a2,x23,[],(0:Int))).bind fun y41=>
 (loopQ uu (S11_16step uu) (y41.1,y41.2.1,y41.2.2.1,y41.2.2.2.1,y41.2.2.2.2,(0:Int))).bind fun y53=>
 (loopQ uu (S11_20step uu) (y53.1,y53.2.1,y53.2.2.1,y53.2.2.2.1,y53.2.2.2.2,(0:Int))).bind fun y65=>
 (F36 uu y65.2.2.2 (y65.2.1.length:Int)).bind fun y69=>
 let x80:=bif (y69.2.2==(0:Int)) then (y69.2.1==(IntKind.wrap .i64 ((y65.2.1.length:Int)+(y65.2.2.1.length:Int)))) else false
 (bif x80 then F37 uu y65.1 y69.1 else some false).bind fun y82=>
 let x83:=bif x80 then y82 else false
 (bif x83 then Lawake08 uu else some false).bind fun y84=>
 some (bif x83 then y84 else false)
def S11_12l (uu:Nat):LoopE:=⟨12,⟨[0,1,2,8,11,12],bx1,sv10⟩,[(.exit 0,⟨[0,1,2,8,11],bx1,(.slice 116)::(.slice 72)::sv11⟩)],S11_12step uu⟩
def S11_16l (uu:Nat):LoopE:=⟨16,⟨[0,1,2,8,11,13],bx1,sv10⟩,[(.exit 2,⟨[0,1,2,8,11],bx1,(.slice 116)::(.slice 72)::sv11⟩)],S11_16step uu⟩
def S11_20l (uu:Nat):LoopE:=⟨20,⟨[0,1,2,8,11,14],bx1,sv10⟩,[(.exit 4,⟨[0,1,8,11],bx1,(.slice 116)::sv11⟩)],S11_20step uu⟩
def F11C (uu:Nat):Cfg:=cfg Tryz.prog 130 0 [Lawake08c uu,F34c uu,F35c uu,F28c uu,F36c uu,F37c uu] [S11_12l uu,S11_16l uu,S11_20l uu] uu
def F11c (uu:Nat):CallE:=⟨11,⟨3,[],[(.slice 116),(.slice 72),(.slice 72)]⟩,⟨1,[],[.bool]⟩,fun x=>F11 uu x.1 x.2.1 x.2.2,false⟩
theorem F11k (uu:Nat):CallOk (F11C uu):=cfg_callOkP (qc (Lawake08ok uu)<|qc (F34ok uu)<|qc (F35ok uu)<|qc (F28ok uu)<|qc (F36ok uu)<|qc (F37ok uu)<|q0) (p0)
theorem S11_12ok (uu:Nat):LoopOk (F11C uu) (lp (bodyOf Tryz.f11) 0):=okL (F11k uu) uu (S11_12l uu) L0
theorem S11_16ok (uu:Nat):LoopOk (F11C uu) (lp (bodyOf Tryz.f11) 1):=okL (F11k uu) uu (S11_16l uu) L0
theorem S11_20ok (uu:Nat):LoopOk (F11C uu) (lp (bodyOf Tryz.f11) 2):=okL (F11k uu) uu (S11_20l uu) L0
theorem F11ok (uu:Nat):(F11c uu).Ok Tryz.prog:=okE Tryz.f11 (F11k uu) (L3 (S11_12ok uu) (S11_16ok uu) (S11_20ok uu))
end
end Go.Ab
