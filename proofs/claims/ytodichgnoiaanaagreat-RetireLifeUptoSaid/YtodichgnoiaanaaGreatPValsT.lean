/- Doubles and bytes: their texts, the same in the program and the specification. -/
import Derived.Test.YtodichgnoiaanaaGreatPQuoteT
import Derived.Test.YtodichgnoiaanaaGreatPName0T
import Derived.Test.YtodichgnoiaanaaGreatAbUtf
set_option linter.unusedVariables false
set_option linter.unusedSimpArgs false
set_option linter.unnecessarySimpa false
namespace Go.Ab
open Go
set_option maxRecDepth 100000
theorem aid (u:Nat):F165 0 (u:Int)=some (af2 u):=by
 have h1:(u:Int).tmod (9223372036854775808:Int)=((u%9223372036854775808:Nat):Int):=rfl
 have c1:decide (((u%9223372036854775808:Nat):Int)>(9218868437227405312:Int))=decide (9218868437227405312<u%9223372036854775808):=by rw [decide_eq_decide];omega
 have c2:(((u%9223372036854775808:Nat):Int)==(9218868437227405312:Int))=decide (u%9223372036854775808=9218868437227405312):=nbeq _ 9218868437227405312
 have c3:(((u%9223372036854775808:Nat):Int)==(0:Int))=decide (u%9223372036854775808=0):=nbeq _ 0
 have c4:decide (((u%9223372036854775808:Nat):Int)<(4503599627370496:Int))=decide (u%9223372036854775808<4503599627370496):=by rw [decide_eq_decide];omega
 unfold F165 af2
 simp only [h1,c1,c2,c3,c4]
 by_cases d1:9218868437227405312<u%9223372036854775808
 ·simp [d1]
 ·by_cases d2:u%9223372036854775808=9218868437227405312
  ·simp [d2]
  ·by_cases d3:u%9223372036854775808=0
   ·simp [d3]
   ·by_cases d4:u%9223372036854775808<4503599627370496
    ·simp [d1,d2,d3,d4]
    ·simp [d1,d2,d3,d4]
def alt (u:Nat):List UInt8:=
 bif af2 u==0 then [110,97,110] else bif af2 u==1 then (bif decide (9223372036854775808<=u) then [45,105,110,102] else [105,110,102]) else [48,120]++hexN 16 u
theorem amo (s:List UInt8) (hs:s.length<=1048576):F182 0 s=some (s.flatMap fun b=>hex2 b.toNat):=by
 have h:=aa2 (step:=S182_4step 0) (fun i (b:List UInt8)=>(s,b,(i:Int))) (fun b=>b) s 0 (fun acc b=>acc++hex2 b.toNat) (fun i b=>b.length=2*i) (fun i b hi hI=>by
  have hp:=a0m (s.getD i 0).toNat_lt
  have hg:decide (b.length+(hex2 (s.getD i 0).toNat).length<=aad)=true:=aho (by simp [hex2];omega)
  refine ⟨?_,by simp [hex2];omega⟩
  simp only [S182_4step,S182_4,aat,aab,hi,decide_true,cond_true,Int.toNat_natCast,hp,Option.bind_some,hg,asv (i:=i) (by omega)]) (fun b _=>by
  simp only [S182_4step,S182_4,aat,Nat.lt_irrefl,decide_false,cond_false]) s.length 0 [] (by omega) rfl
 have e:∀ (l:List UInt8) (acc:List UInt8),l.foldl (fun acc b=>acc++hex2 b.toNat) acc=acc++l.flatMap fun b=>hex2 b.toNat:=by
  intro l
  induction l with
  | nil=>intro acc;simp
  | cons b r ih=>intro acc;rw [List.foldl_cons,ih];simp
 rw [List.drop_zero,e,List.nil_append] at h
 unfold F182
 rw [aa9,show (0:Int)=((0:Nat):Int) from rfl,h.1]
 rfl
theorem ak5 (s:List UInt8):(s.flatMap fun b=>hex2 b.toNat).length=2*s.length:=by
 induction s with
 | nil=>rfl
 | cons b r ih=>rw [List.flatMap_cons,List.length_append,ih];simp [hex2];omega
theorem azj (u:Nat) (hu:u<18446744073709551616):F181 0 (u:Int)=some (hexN 16 u):=by
 have step:∀ (k v:Nat) (acc:List PV),k<8->acc.length=k->v<18446744073709551616->S181_4step 0 ((v:Int),acc,(k:Int))=some (.inl (((v / 256:Nat):Int),PV.int ((v%256:Nat):Int)::acc,((k+1:Nat):Int))):=by
  intro k v acc hk ha hv
  have h1:decide ((k:Int)<(8:Int))=true:=decide_eq_true (by omega)
  have h2:IntKind.wrap .u8 ((v:Int).tmod (256:Int))=((v%256:Nat):Int):=by
   rw [show (v:Int).tmod (256:Int)=((v%256:Nat):Int) from rfl,IntKind.wrap_u8];omega
  have h3:IntKind.wrap .u64 ((v:Int).tdiv (256:Int))=((v / 256:Nat):Int):=by
   rw [show (v:Int).tdiv (256:Int)=((v / 256:Nat):Int) from rfl,IntKind.wrap_u64];omega
  have h4:∀ x:PV,decide ([x].length+acc.length<=aao)=true:=fun x=>decide_eq_true (by unfold aao;simp;omega)
  simp only [S181_4step,S181_4,h1,h2,h3,h4,cond_true,asv (i:=k) (by omega)]
  rfl
 have ends:∀ (v:Int) (acc:List PV),S181_4step 0 (v,acc,((8:Nat):Int))=some (.inr acc):=fun v acc=>rfl
 have run:∀ (j k v:Nat) (acc:List PV),k+j=8->acc.length=k->v<18446744073709551616->∃ bs,aay (S181_4step 0) ((v:Int),acc,(k:Int))=some (bs++acc)/\bs.length=j/\((bs.map acl).flatMap fun b=>hex2 b.toNat)=hexN (2*j) v:=by
  intro j
  induction j with
  | zero=>
   intro k v acc hk ha hv
   have:k=8:=by omega
   subst this
   exact ⟨[],aah (ends _ _),rfl,rfl⟩
  | succ j ih=>
   intro k v acc hk ha hv
   obtain ⟨bs,h1,h2,h3⟩:=ih (k+1) (v / 256) (PV.int ((v%256:Nat):Int)::acc) (by omega) (by simp [ha]) (by omega)
   refine ⟨bs++[PV.int ((v%256:Nat):Int)],?_,by simp [h2],?_⟩
   ·rw [aa0 (step k v acc (by omega) ha hv),h1];simp
   ·rw [List.map_append,List.flatMap_append,h3,show 2*(j+1)=2*j+2 by omega,a2t]
    congr 1
    have hb:(acl (PV.int ((v%256:Nat):Int))).toNat=v%256:=by
     show (UInt8.ofNat (((v%256:Nat):Int)).toNat).toNat=_
     rw [Int.toNat_natCast,UInt8.toNat_ofNat'];omega
    simp only [List.map_cons,List.map_nil,List.flatMap_cons,List.flatMap_nil,List.append_nil,hb]
    simp only [hex2,hexN,List.nil_append]
    rw [show v%256 / 16%16=v%256 / 16 by omega]
    rfl
 obtain ⟨bs,h1,h2,h3⟩:=run 8 0 u [] (by omega) rfl hu
 unfold F181
 rw [aa9,show (0:Int)=((0:Nat):Int) from rfl,h1,Option.bind_some,List.append_nil,amo _ (by rw [List.length_map,h2];decide),h3]
 rfl
def ak3 (v:PV):List UInt8:=
 bif ado (aaz v) v then
  (bif aaz v==6 then alt (aca v).toNat else bif aaz v==8 then [120]++ak1 ((acp v).flatMap fun b=>hex2 b.toNat) else am6 v)
 else []
theorem text6 {v:PV} (h:ado (aaz v) v=false):am6 v=[]:=by unfold am6;rw [h];rfl
theorem aj8 {v:PV} (h:ado (aaz v) v=true) (h8:aaz v=8):(acp v).length<=4096:=by
 unfold ado at h
 rw [h8] at h
 simp only [Bool.and_eq_true,ajt] at h
 have:=h.2
 simp at this
 exact this.2
theorem amt (v:PV) (hs:adu v):F177 0 v=some (ak3 v):=by
 obtain ⟨hl,ht,hb0,hb1⟩:=hs
 by_cases h6:aaz v=6
 ·obtain ⟨u,hu⟩:∃ u:Nat,aca v=(u:Int):=⟨(aca v).toNat,(Int.toNat_of_nonneg hb0).symm⟩
  have e0:(v.fld 0).asInt=aaz v:=rfl
  have e1:(v.fld 1).asInt=aca v:=rfl
  have hge:decide ((u:Int)≥(9223372036854775808:Int))=decide (9223372036854775808<=u):=by rw [decide_eq_decide];omega
  have g:decide (([48,120]:List UInt8).length+(hexN 16 u).length<=aad)=true:=aho (by rw [apf];decide)
  unfold F177 ak3 alt
  simp only [e0,e1,ac2 _ _ ⟨hl,ht,hb0,hb1⟩,Option.bind_some,hu,aid u,azj u (by omega),h6,Int.toNat_natCast,hge,g]
  cases ado 6 v<;>cases af2 u==0<;>cases af2 u==1<;>cases decide (9223372036854775808<=u)<;>rfl
 ·by_cases h8:aaz v=8
  ·have e0:(v.fld 0).asInt=aaz v:=rfl
   have e2:(v.fld 2).asStr=acp v:=rfl
   unfold F177 ak3
   simp only [e0,e2,ac2 _ _ ⟨hl,ht,hb0,hb1⟩,Option.bind_some]
   cases hf:ado (aaz v) v with
   | false=>rfl
   | true=>
    have h4:=aj8 hf h8
    have hq:=adl ((acp v).flatMap fun b=>hex2 b.toNat)
    rw [ak5] at hq
    have g:decide (([120]:List UInt8).length+(ak1 ((acp v).flatMap fun b=>hex2 b.toNat)).length<=aad)=true:=aho (by simp;omega)
    simp only [h8,amo _ ht,aeg _ (show ((acp v).flatMap fun b=>hex2 b.toNat).length<=1048576 by rw [ak5];omega),Option.bind_some,g]
    rfl
  ·rw [aom v ⟨hl,ht,hb0,hb1⟩ h6 h8]
   unfold ak3
   cases hf:ado (aaz v) v with
   | false=>rw [text6 hf];rfl
   | true=>
    have k6:(aaz v==(6:Int))=false:=beqI h6
    have k8:(aaz v==(8:Int))=false:=beqI h8
    rw [k6,k8];rfl
theorem a1i (v:PV) (hs:(acp v).length<=1048576):(ak3 v).length<=4194400:=by
 have h1:=am7 v hs
 have h2:(alt (aca v).toNat).length<=20:=by
  unfold alt
  have:=apf 16 (aca v).toNat
  cases af2 (aca v).toNat==0<;>cases af2 (aca v).toNat==1<;>cases decide (9223372036854775808<=(aca v).toNat)<;>simp [this]
 unfold ak3
 cases hf:ado (aaz v) v with
 | false=>simp
 | true=>
  simp only [cond_true]
  cases aaz v==6 with
  | true=>simp only [cond_true];omega
  | false=>
   simp only [cond_false]
   cases h8:aaz v==8 with
   | false=>simp only [cond_false];exact h1
   | true=>
    have h4:=aj8 hf (by simpa using h8)
    have hq:=adl ((acp v).flatMap fun b=>hex2 b.toNat)
    rw [ak5] at hq
    simp only [cond_true,List.length_append,List.length_cons,List.length_nil];omega
end Go.Ab
