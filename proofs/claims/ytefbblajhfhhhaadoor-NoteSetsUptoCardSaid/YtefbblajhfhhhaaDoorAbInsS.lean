/- slices.Insert of one element into a row of the call's own (keys: LIB, ins = the function, insS its slice type, insE the element's type, insI int, ov = slices.overlaps, ovB its bool). -/
import Derived.Test.YtefbblajhfhhhaaDoorAbFmtS
import Derived.Lib.AppendZerosOnto
import Derived.Lib.Walk
import Derived.Lib.SliceRun
import Derived.WalkKit
import Derived.Laws.Externs
import Derived.Laws.CopyRow
import Derived.Laws.AppendOwn
import Derived.Shelf.RegionOpenPlain
set_option linter.unusedVariables false
set_option linter.unusedSimpArgs false
set_option linter.unnecessarySimpa false
set_option maxRecDepth 100000
namespace Go.Ab
open Go Go.Proofs Go.Shelf Go.RowKit Go.Lib

/-- Two slices in two blocks of cells, neither of which is empty, the second plain memory. -/
theorem run_overlaps_plain {P : Program} (w : World) (tS tR e : TypeId) (ht : P.underlying tS = some (.slice e)) (size : Nat) (hz : ∀ w, (Go.sizeOf e).run P w = .ok size w)
    (a b : Addr) (la ca lb cb : Nat) (hne : a.block ≠ b.block) (tA tB : TypeId) (kA kB : Nat)
    (hsa : w.shape? a.block = some (tA, kA)) (hsb : w.shape? b.block = some (tB, kB)) (hkA : kA ≠ 0) (hkB : kB ≠ 0) (hfb : ∀ o, w.frozen? ⟨b.block, o, none⟩ = false) (hfb' : w.frozen? b = false) :
    (Extern.SlicesOverlaps.overlaps #[tS, tS] #[tR] #[.slice (some a) la ca, .slice (some b) lb cb]).run P w = .ok (.bool false) w := by
  have hnb : (a.block != b.block) = true := by simpa using hne
  have hnb' : (a.block == b.block) = false := by simpa using hne
  change Sem.run P (α := Value) (do
    let some t := (#[tS, tS] : Array TypeId)[0]? | stuck "slices.overlaps: no parameter types"
    let .slice elem ← underlying t | stuck "slices.overlaps: slice type expected"
    let size ← sizeOf elem
    match (some a : Option Addr), (some b : Option Addr) with
    | some a, some b =>
      if la = 0 ∨ lb = 0 ∨ size = 0 then pure (Value.bool false)
      else if a.block != b.block && (← Go.frozen a) && (← Go.frozen b) then unsupported .addressObserved
      else do
        if a.block != b.block then do
          noView a; noView b
          if ← mayBeOne a b then return Value.bool ((← choose (.extern "sameAddr.stringBytes" 2)) == 1)
        pure (Value.bool (a.block == b.block && a.off < b.off + lb * size && b.off < a.off + la * size))
    | _, _ => pure (Value.bool false)) w = _
  by_cases h0 : la = 0 ∨ lb = 0 ∨ size = 0
  · simp [run_underlying ht, hz, h0]
  · cases kA with
    | zero => exact absurd rfl hkA
    | succ kA =>
    cases kB with
    | zero => exact absurd rfl hkB
    | succ kB =>
      cases hfa : w.frozen? a <;> cases hfe : w.frozen? { block := a.block, off := kA + 1 } <;>
        simp [run_underlying ht, hz, h0, hnb, hnb', Go.frozen, noView, viewAt, mayBeOne, stringish, shape, Sem.run, hsa, hsb, hfa, hfe, hfb, hfb']

def spl (cur : Array Value) (o : Nat) (vs : List Value) : Array Value := (cur.toList.take o ++ vs ++ cur.toList.drop (o + vs.length)).toArray
theorem spl_size {cur : Array Value} {o : Nat} {vs : List Value} (h : o + vs.length ≤ cur.size) : (spl cur o vs).size = cur.size := by simp [spl]; omega
theorem spl_list (cur : Array Value) (o : Nat) (vs : List Value) : (spl cur o vs).toList = cur.toList.take o ++ vs ++ cur.toList.drop (o + vs.length) := by simp [spl]

theorem run_copy_row {P : Program} (w : World) (dT sT ty E : TypeId) (inf : TypeInfo) (hu : P.underlying dT = some (.slice E)) (hi : P.info? E = some inf) (g o dLen dCap : Nat) (a : Addr) (sLen sCap n : Nat) (cs : List Value) (cur : Array Value)
    (hg : w.heap[g]? = some (.cells cur E (0, 0))) (hn : Nat.min sLen dLen = n) (hl : cs.length = n * inf.size) (hsrc : ∀ j v, cs[j]? = some v → w.cell? (a.add j) = some v) (hfit : o + cs.length ≤ cur.size) (h1 : ∀ v ∈ cs, v.oneCell' = true) :
    (Builtin.copy_ #[dT, sT] ty #[.slice (some ⟨g, o, none⟩) dLen dCap, .slice (some a) sLen sCap]).run P w = .ok (goInt n) (w.setRow g (spl cur o cs)) := by
  have hf := run_loadCells_list (P := P) w a cs hsrc
  have hst := run_storeCells_at P g o E cs 0 cur w hg (by simpa using hfit) h1
  simp only [Nat.add_zero] at hst
  simp [Builtin.copy_, run_underlying hu, Builtin.lenOf, Builtin.firstCells, sizeOf, typeInfo, hi, hn, ← hl, hf, hst, spl]

/-- What an insertion leaves behind: a row in the block g. -/
structure InsDone (E : TypeId) (w w' : World) (g : Nat) (cur' : Array Value) : Prop where
  row : w'.heap[g]? = some (.cells cur' E (0, 0))
  oth : ∀ b, b ≠ g → b < w.heap.size → w'.heap[b]? = w.heap[b]?
  size : w.heap.size ≤ w'.heap.size
  os : w'.os = w.os
  tape : w'.tape = w.tape
  output : w'.output = w.output

theorem chunk_ins {z n i : Nat} {cs vs L : List Value} (hi : i ≤ n) (hcs : cs.length = n * z) (hvs : vs.length = z) (hL : L.take ((n + 1) * z) = cs.take (i * z) ++ vs ++ cs.drop (i * z)) (k : Nat) (hk : k < n + 1) :
    (L.drop (k * z)).take z = if k < i then (cs.drop (k * z)).take z else if k = i then vs else (cs.drop ((k - 1) * z)).take z := by
  have hkz : (k + 1) * z ≤ (n + 1) * z := Nat.mul_le_mul_right _ (by omega)
  have hiz : i * z ≤ n * z := Nat.mul_le_mul_right _ hi
  have e0 : (L.drop (k * z)).take z = ((L.take ((n + 1) * z)).drop (k * z)).take z := by
    apply List.ext_getElem?
    intro j
    rw [Nat.add_mul, Nat.one_mul] at hkz
    simp only [List.getElem?_take, List.getElem?_drop]
    split
    · rw [if_pos (by omega)]
    · rfl
  rw [e0, hL]
  split
  · rename_i h
    have h1 : (k + 1) * z ≤ i * z := Nat.mul_le_mul_right _ h
    rw [Nat.add_mul, Nat.one_mul] at h1
    apply List.ext_getElem?
    intro j
    simp only [List.getElem?_take, List.getElem?_drop]
    split
    · rw [List.append_assoc, List.getElem?_append_left (by rw [List.length_take]; omega), List.getElem?_take, if_pos (by omega)]
    · rfl
  · split
    · rename_i h h2
      subst h2
      rw [List.append_assoc, List.drop_append_of_le_length (by rw [List.length_take]; omega), List.drop_eq_nil_of_le (by rw [List.length_take]; omega), List.nil_append, List.take_append_of_le_length (by omega), List.take_of_length_le (by omega)]
    · rename_i h h2
      have h1 : (i + 1) * z ≤ k * z := Nat.mul_le_mul_right _ (by omega)
      have h3 : (k - 1) * z + z = k * z := by rw [← Nat.succ_mul]; congr 1; omega
      rw [Nat.add_mul, Nat.one_mul] at h1
      apply List.ext_getElem?
      intro j
      simp only [List.getElem?_take, List.getElem?_drop]
      split
      · rw [List.getElem?_append_right (by rw [List.length_append, List.length_take]; omega), List.getElem?_drop, List.length_append, List.length_take]
        congr 1
        omega
      · rfl

/-- A row in a block of its own, new or the caller's, and nothing else. -/
theorem ins_post {P : Program} {D : Dom} {w w' : World} {ow : Own} {μ : Nat → Nat} {E : TypeId} {fl cap g : Nat} {xs ys : List PV} {asv : List SV} {vals : Array Value} {cur' : Array Value} (pre : Pre P D ow μ [.arr E fl xs] w asv vals)
    (hg : (ow g = some 0 ∧ g < w.heap.size) ∨ (g = w.heap.size ∧ g < w'.heap.size)) (hd : InsDone E w w' g cur') (hc : cap * P.cellsOf E = cur'.size) (hm : cap ≤ maxLen) (hle : ys.length ≤ cap)
    (hr : ∀ (i : Nat) (x : PV), ys[i]? = some x → Rep P D w' E x ((cur'.toList.drop (i * P.cellsOf E)).take (P.cellsOf E))) :
    Post P D w ow μ [.arr E fl xs] [.arr 0 1 E] [.arr E 1 ys] (.slice (some ⟨g, 0, none⟩) ys.length cap) D w' := by
  obtain ⟨hh', hoth, hsz, h1, h2, h3⟩ := hd
  have lone : ∀ b, ow b = some 0 → ∀ o, ¬ D b o := fun b ob o d => pre.objs.lone b 0 _ ob rfl (by simp) o d
  have hDg : ∀ o, ¬ D g o := fun o d => by
    rcases hg with ⟨ho, _⟩ | ⟨e, _⟩
    · exact lone _ ho o d
    · have := pre.dlt g o d; omega
  have noOwn : ∀ b o, D b o → ow b = none := fun b o d => by
    cases hb : ow b with
    | none => rfl
    | some k =>
      have hk := (pre.objs.owlt b k hb).2
      have : k = 0 := by simp at hk; omega
      subst this
      exact absurd d (lone b hb o)
  have old : ∀ b, b < w.heap.size → ow b = none → w'.heap[b]? = w.heap[b]? := fun b hb hn => hoth b (fun e => by
    subst e
    rcases hg with ⟨ho, _⟩ | ⟨e, _⟩
    · rw [ho] at hn; cases hn
    · omega) hb
  have hlt : g < w'.heap.size := (Array.getElem?_eq_some_iff.1 hh').1
  refine ⟨fun _ _ d => d, fun _ _ d => Or.inl d, ⟨fun b => if b = g then some 0 else none, fun _ => g, ⟨fun k b hk => ?_, fun b k hb => ?_, fun b o d => Nat.lt_of_lt_of_le (pre.dlt b o d) hsz, fun b k x hb _ _ o d => ?_⟩, ?_, fun b k hb hlt => ?_, fun k b hk => ?_, fun k E' g' xs' ys' hk hk' => ?_⟩, h1, h2, h3, hsz, old, Keeps.of_heap fun b o d => old b (pre.dlt b o d) (noOwn b o d)⟩
  · cases k with
    | zero =>
      cases hk
      exact Or.inr ⟨cur', hh', if_pos rfl, hDg, by rw [← hc]; exact Nat.mul_le_mul_right _ hle, hr⟩
    | succ k => simp at hk
  · split at hb
    · rename_i e; cases hb; subst e; exact ⟨hlt, by simp⟩
    · cases hb
  · split at hb
    · rename_i e; subst e; exact hDg o d
    · cases hb
  · exact .arr (cur := cur') rfl hle hm hh' (if_pos rfl) hc
  · split at hb
    · rename_i e; cases hb; subst e
      rcases hg with ⟨ho, _⟩ | ⟨e, _⟩
      · exact ho
      · omega
    · cases hb
  · cases k with
    | zero => cases hk; exact ⟨_, rfl, rfl, fun _ h => absurd rfl (h _ _ _)⟩
    | succ k => simp at hk
  · cases k with
    | zero => cases hk'
    | succ k => simp at hk
theorem ins_info : ∃ inf z, Tryd.prog.info? 31 = some inf ∧ inf.zero = some z ∧ inf.size = 8 ∧ z.cells.size = 8 ∧ inf.bytes ≤ 1024 := by
  have h : ((Tryd.prog.info? 31).map (fun i => (i.zero.map (·.cells.size), i.size, decide (i.bytes ≤ 1024)))) = some (some 8, 8, true) := by kernel_rfl
  obtain ⟨inf, hi, h⟩ := Option.map_eq_some_iff.1 h
  simp only [Prod.mk.injEq] at h
  obtain ⟨z, hz, hzs⟩ := Option.map_eq_some_iff.1 h.1
  exact ⟨inf, z, hi, hz, h.2.1, hzs, of_decide_eq_true h.2.2⟩
theorem ins_step_copy {P : Program} {ops : Array Oper} {o : Oper} {a : Act} {w : World} {K : Act → World → Prop} {Q : Exit → Act → World → Prop} {F : Prop}
    (hg : o.guard = none) (d x : Operand) (dT sT : TypeId) (hop : o.op = Op.call { callee := Callee.builtin Builtin.copy, args := #[d, x], argTypes := #[dT, sT] })
    (v u : Value) (hd : a.eval d = v) (hx : a.eval x = u) {v' : Value} {w' : World} (hr : (Builtin.copy_ #[dT, sT] o.type #[v, u]).run P w = .ok v' w') (hK : K (a.put o.dst v') w') :
    if Region.wanted o (yielded ops a.tmps) = true then Oper.wp P o a w K Q else F := by
  have hw : Region.wanted o (yielded ops a.tmps) = true := by simp [Region.wanted, hg]
  rw [if_pos hw]
  unfold Oper.wp
  simp [execOp, hop, resolve, invoke, builtin, hd, hx, hr, Result.andThen]
  exact hK
theorem ins_list_copy {P : Program} (w : World) {ops : Array Oper} {rest : List Oper} {o : Oper} {a : Act} {Q : Exit → Act → World → Prop} (hgd : o.guard = none) (d s : Operand) (t t' : TypeId)
    (ho : o.op = .call { callee := .builtin .copy, args := #[d, s], argTypes := #[t, t'] }) (v u : Value) (hd : a.eval d = v) (hs : a.eval s = u) {v' : Value} {w' : World}
    (hr : (Builtin.copy_ #[t, t'] o.type #[v, u]).run P w = .ok v' w') (h : wpList P ops Q rest (a.put o.dst v') w') : wpList P ops Q (o :: rest) a w := by
  refine wpList_plain hgd fun K hK => ?_
  unfold Oper.wp execOp
  simp only [ho, resolve, invoke, builtin, Sem.run_bind, Sem.run_pure, Result.andThen_ok, List.map_toArray, List.map_cons, List.map_nil, hd, hs, hr]
  exact hK _ _ h

set_option maxHeartbeats 4000000 in
theorem ins_shift (b n c i vb voff vc : Nat) (cur : Array Value) (vs : List Value) (w : World) (hi : i < n) (hroom : n + 1 ≤ c) (hc63 : c ≤ maxLen) (hvb : vb ≠ b)
    (hcur : w.heap[b]? = some (.cells cur 31 (0, 0))) (hsz : c * 8 = cur.size) (hvl : vs.length = 8) (hvs : ∀ j v, vs[j]? = some v → w.cell? ⟨vb, voff + j, none⟩ = some v)
    (h1v : ∀ v ∈ vs, v.oneCell' = true) (h1c : ∀ v ∈ cur.toList.take (n * 8), v.oneCell' = true) :
    Calls Tryd.prog 19 #[.slice (some ⟨b, 0, none⟩) n c, .int .i64 i, .slice (some ⟨vb, voff, none⟩) 1 vc] w fun e w' =>
      e = .returned (.slice (some ⟨b, 0, none⟩) (n + 1) c) ∧ InsDone 31 w w' b (spl (spl cur ((i + 1) * 8) ((cur.toList.take (n * 8)).drop (i * 8))) (i * 8) vs) := by
  have hbig : c ≤ 9223372036854775807 := by unfold maxLen at hc63; omega
  have hz2 : ¬ ((i : Int) = (n : Int)) := by omega
  have hw1 : IntKind.i64.wrap ((i : Int) + 1) = (i : Int) + 1 := by rw [IntKind.wrap_i64]; omega
  have hb1 : (0 : Int) ≤ (i : Int) + 1 := by omega
  have hin : i ≤ n := by omega
  have htn : ((i : Int) + 1).toNat = i + 1 := by omega
  have hb2 : ¬ (c = i + 1) := by omega
  have hb3 : (i : Int) ≤ (n : Int) + 1 := by omega
  have hb4 : ¬ (c = i) := by omega
  have mixed : Tryd.prog.follows .mixedOrders = true := by kernel_rfl
  have hov : ∀ o lb cb, (callFunc 26 #[.slice (some ⟨vb, voff, none⟩) 1 vc, .slice (some ⟨b, o, none⟩) lb cb]).run Tryd.prog w = .ok (.value (.bool false)) w := fun o lb cb => by
    have hv0 := hvs 0 _ (List.getElem?_eq_getElem (by omega))
    obtain ⟨tA, kA, hsa, hkA⟩ : ∃ tA kA, w.shape? vb = some (tA, kA) ∧ kA ≠ 0 := by
      simp only [World.cell?] at hv0
      cases hh : w.heap[vb]? with
      | none => simp [hh] at hv0
      | some x =>
        cases x with
        | cells c t fr =>
          refine ⟨t, c.size, by simp [World.shape?, hh], fun e => ?_⟩
          rw [hh] at hv0
          simp only [Array.getElem?_eq_none (show c.size ≤ voff + 0 by omega)] at hv0
          cases hv0
        | _ => simp [hh] at hv0
    rw [run_callFunc_extern Tryd.func26 (by kernel_rfl) (by kernel_rfl) (by kernel_rfl) (e := Extern.SlicesOverlaps.overlaps #[22, 22] #[4]) (by kernel_rfl),
      run_overlaps_plain w 22 4 31 Tryd.underlying22 8 (fun w => by kernel_rfl) ⟨vb, voff, none⟩ ⟨b, o, none⟩ 1 vc lb cb hvb tA 31 kA cur.size hsa (by simp [World.shape?, hcur]) hkA (by omega) (fun o => by simp [World.frozen?, hcur]) (by simp [World.frozen?, hcur])]
    rfl
  obtain ⟨inf, z, hinf, hiz, his, hzs, hby⟩ := ins_info
  have hnc : n * 8 ≤ cur.size := by omega
  obtain ⟨C, hC⟩ : ∃ C, C = (cur.toList.take (n * 8)).drop (i * 8) := ⟨_, rfl⟩
  have hCl : C.length = (n - i) * 8 := by rw [hC, List.length_drop, List.length_take]; simp; omega
  have hCc : ∀ j v, C[j]? = some v → cur[i * 8 + j]? = some v := fun j v hj => by
    rw [hC, List.getElem?_drop, List.getElem?_take] at hj
    split at hj
    · simpa using hj
    · cases hj
  have hC1 : ∀ v ∈ C, v.oneCell' = true := fun v hv => h1c v (by rw [hC] at hv; exact List.mem_of_mem_drop hv)
  have hcp1 : ∀ W : World, W.heap = w.heap → ∀ ty dc sc, (Builtin.copy_ #[22, 22] ty #[.slice (some ⟨b, (i + 1) * 8, none⟩) (n - i) dc, .slice (some ⟨b, i * 8, none⟩) (n + 1 - i) sc]).run Tryd.prog W = .ok (goInt ((n - i : Nat) : Int)) (W.setRow b (spl cur ((i + 1) * 8) C)) := fun W hW ty dc sc =>
    run_copy_row W _ _ ty 31 inf Tryd.underlying22 hinf b ((i + 1) * 8) (n - i) dc ⟨b, i * 8, none⟩ (n + 1 - i) sc (n - i) C cur (by rw [hW]; exact hcur) (by simp only [Nat.min_def]; split <;> omega) (by rw [his]; exact hCl)
      (fun j v hj => by rw [Addr.add_lit]; simp only [World.cell?, hW, hcur]; exact hCc j v hj) (by omega) hC1
  obtain ⟨C1, hC1e⟩ : ∃ C1, C1 = spl cur ((i + 1) * 8) C := ⟨_, rfl⟩
  have hC1s : C1.size = cur.size := by rw [hC1e]; exact spl_size (by omega)
  rw [← hC, ← hC1e]
  rw [← hC1e] at hcp1
  have hcp2 : ∀ W : World, W.heap = (w.setRow b C1).heap → ∀ ty dc, (Builtin.copy_ #[22, 22] ty #[.slice (some ⟨b, i * 8, none⟩) (n + 1 - i) dc, .slice (some ⟨vb, voff, none⟩) 1 vc]).run Tryd.prog W = .ok (goInt 1) (W.setRow b (spl C1 (i * 8) vs)) := fun W hW ty dc =>
    run_copy_row W _ _ ty 31 inf Tryd.underlying22 hinf b (i * 8) (n + 1 - i) dc ⟨vb, voff, none⟩ 1 vc 1 vs C1 (by rw [hW]; exact setRow_heap w b cur _ _ _ hcur) (by simp only [Nat.min_def]; split <;> omega) (by rw [his, hvl])
      (fun j v hj => by rw [Addr.add_lit]; simp only [World.cell?, hW, setRow_other w b vb _ hvb]; exact hvs j v hj) (by omega) h1v
  clear hC hCl hCc hC1 hC1e hinf hiz his
  go_enter Tryd.func19, Tryd.ntmps19
  go_wp2_with (simp only [hov])
  go_region_law_o (refine ins_step_copy (v := .slice (some ⟨b, (i + 1) * 8, none⟩) (n - i) (c - (i + 1))) (u := .slice (some ⟨b, i * 8, none⟩) (n + 1 - i) (c - i)) (v' := goInt ((n - i : Nat) : Int)) (w' := w.drew.setRow b C1) rfl _ _ 22 22 rfl (by simp [Act.eval, Act.put]) (by simp [Act.eval, Act.put]) (hcp1 w.drew rfl _ _ _) ?_)
  go_wp2_with (refine ins_list_copy _ rfl _ _ 22 22 rfl _ _ rfl rfl (hcp2 (w.drew.setRow b C1) rfl _ _) ?_)
  go_ret
  refine ⟨rfl, ?_, ?_, ?_, rfl, rfl, rfl⟩
  · exact setRow_heap _ b C1 _ _ _ (setRow_heap w.drew b cur _ _ _ hcur)
  · intro b' hb _
    exact (setRow_other _ b b' _ hb).trans (setRow_other w.drew b b' _ hb)
  · simp [World.setRow]

set_option maxHeartbeats 4000000 in
theorem ins_end_room (b n c vb voff vc : Nat) (cur : Array Value) (vs : List Value) (w : World) (hroom : n + 1 ≤ c) (hc63 : c ≤ maxLen)
    (hcur : w.heap[b]? = some (.cells cur 31 (0, 0))) (hsz : c * 8 = cur.size) (hvl : vs.length = 8) (hvs : ∀ j v, vs[j]? = some v → w.cell? ⟨vb, voff + j, none⟩ = some v)
    (h1v : ∀ v ∈ vs, v.oneCell' = true) :
    Calls Tryd.prog 19 #[.slice (some ⟨b, 0, none⟩) n c, .int .i64 n, .slice (some ⟨vb, voff, none⟩) 1 vc] w fun e w' =>
      e = .returned (.slice (some ⟨b, 0, none⟩) (n + 1) c) ∧ InsDone 31 w w' b (spl cur (n * 8) vs) := by
  obtain ⟨inf, z, hinf, hiz, his, hzs, hby⟩ := ins_info
  have mixed : Tryd.prog.follows .mixedOrders = true := by kernel_rfl
  have hrun : ∀ ty, (Builtin.append_ #[22, 22] ty #[.slice (some ⟨b, 0, none⟩) n c, .slice (some ⟨vb, voff, none⟩) 1 vc]).run Tryd.prog w = .ok (.slice (some ⟨b, 0, none⟩) (n + 1) c) (w.setRow b (spl cur (n * 8) vs)) := fun ty => by
    have h := run_append_room (P := Tryd.prog) w 22 ty 31 inf Tryd.underlying22 hinf b n c cur hcur ⟨vb, voff, none⟩ 1 vc vs (by rw [his, hvl]) (fun j u hj => by rw [Addr.add_lit]; exact hvs j u hj) h1v hroom (by rw [his, hvl]; omega)
    rw [his] at h
    exact h
  clear hinf hiz his
  go_enter Tryd.func19, Tryd.ntmps19
  go_wp2_with (at_builtin; refine Lib.wpList_append_run _ rfl _ _ _ _ rfl _ _ rfl rfl _ _ (hrun _) ?_)
  go_ret
  refine ⟨rfl, setRow_heap _ b cur _ _ _ hcur, fun b' hb _ => setRow_other w b b' _ hb, by simp [World.setRow], rfl, rfl, rfl⟩

theorem ins_alloc {E : TypeId} {w w' : World} {X : Array Value} (h : w'.heap = w.heap.push (.cells X E)) (h1 : w'.os = w.os) (h2 : w'.tape = w.tape) (h3 : w'.output = w.output) : InsDone E w w' w.heap.size X ∧ w.heap.size < w'.heap.size := by
  refine ⟨⟨?_, fun b hb hl => ?_, ?_, h1, h2, h3⟩, ?_⟩
  · rw [h]; simp
  · rw [h, Array.getElem?_push_lt hl, Array.getElem?_eq_getElem hl]
  · rw [h]; simp
  · rw [h]; simp

set_option maxHeartbeats 4000000 in
theorem ins_end_grow (base : Option Addr) (n c vb voff vc : Nat) (cs vs : List Value) (w : World) (hnc : n ≤ c) (hroom : c < n + 1) (hbig : (n + 1) * 1024 ≤ 140737488355328)
    (hcl : cs.length = n * 8) (hnil : base = none → n = 0 ∧ c = 0) (hcs : ∀ a, base = some a → ∀ j v, cs[j]? = some v → w.cell? (a.add j) = some v)
    (hvl : vs.length = 8) (hvs : ∀ j v, vs[j]? = some v → w.cell? ⟨vb, voff + j, none⟩ = some v) (h1v : ∀ v ∈ vs, v.oneCell' = true) :
    ∃ z : Value, z.cells.size = 8 ∧ Calls Tryd.prog 19 #[.slice base n c, .int .i64 n, .slice (some ⟨vb, voff, none⟩) 1 vc] w fun e w' =>
      e = .returned (.slice (some ⟨w.heap.size, 0, none⟩) (n + 1) (grownCap w (n + 1) c 31)) ∧ InsDone 31 w w' w.heap.size ((cs ++ vs).toArray ++ Builtin.zeroCells z.cells (grownCap w (n + 1) c 31 - (n + 1))) ∧ w.heap.size < w'.heap.size := by
  obtain ⟨inf, z, hinf, hiz, his, hzs, hby⟩ := ins_info
  refine ⟨z, hzs, ?_⟩
  have mixed : Tryd.prog.follows .mixedOrders = true := by kernel_rfl
  have hsrc : Src Tryd.prog inf.size 22 (.slice (some ⟨vb, voff, none⟩) 1 vc) 1 vs w := Src.ofSlice w Tryd.underlying22 ⟨vb, voff, none⟩ 1 vc vs (by rw [his, hvl]) (fun j u hj => by rw [Addr.add_lit]; exact hvs j u hj) h1v
  have hold : (Builtin.firstCells inf.size n (.slice base n c)).run Tryd.prog w.drew = .ok cs.toArray w.drew := by
    rw [his]
    cases base with
    | none =>
      have h0 := (hnil rfl).1
      subst h0
      have e : cs = [] := List.length_eq_zero_iff.1 (by simpa using hcl)
      rw [e]
      exact run_firstCells_none w.drew 8 0 0 c
    | some a => exact run_firstCells_some w.drew 8 n a n c cs hcl (fun j v hj => hcs a rfl j v hj)
  have hrun : ∀ ty, (Builtin.append_ #[22, 22] ty #[.slice base n c, .slice (some ⟨vb, voff, none⟩) 1 vc]).run Tryd.prog w = _ := fun ty =>
    run_append_grow_src w 22 22 ty 31 inf z Tryd.underlying22 hinf hiz base n c cs hold _ 1 vs hsrc hroom (by omega) (growslice_fits hroom (by have := Nat.mul_le_mul_left (n + 1) hby; omega))
  obtain ⟨X, hX⟩ : ∃ X, X = (cs ++ vs).toArray ++ Builtin.zeroCells z.cells (grownCap w (n + 1) c 31 - (n + 1)) := ⟨_, rfl⟩
  rw [← hX] at hrun ⊢
  clear hinf hiz his hold hsrc hX hzs
  go_enter Tryd.func19, Tryd.ntmps19
  cases base with
  | none =>
    obtain ⟨h0, h1⟩ := hnil rfl
    subst h0 h1
    go_wp2_with (at_builtin; refine Lib.wpList_append_run _ rfl _ _ _ _ rfl _ _ rfl rfl _ _ (hrun _) ?_)
    go_ret
    exact ⟨rfl, ins_alloc rfl rfl rfl rfl⟩
  | some a =>
    obtain ⟨ab, ao, asp⟩ := a
    go_wp2_with (at_builtin; refine Lib.wpList_append_run _ rfl _ _ _ _ rfl _ _ rfl rfl _ _ (hrun _) ?_)
    all_goals (go_ret; exact ⟨rfl, ins_alloc rfl rfl rfl rfl⟩)
set_option maxHeartbeats 4000000 in
theorem ins_grow (b n c i vb voff vc : Nat) (cur : Array Value) (vs : List Value) (w : World) (hi : i < n) (hnc : n ≤ c) (hroom : c < n + 1) (hbig : (n + 1) * 1024 ≤ 140737488355328) (hvb : vb < w.heap.size)
    (hcur : w.heap[b]? = some (.cells cur 31 (0, 0))) (hsz : c * 8 = cur.size) (hvl : vs.length = 8) (hvs : ∀ j v, vs[j]? = some v → w.cell? ⟨vb, voff + j, none⟩ = some v)
    (h1v : ∀ v ∈ vs, v.oneCell' = true) (h1c : ∀ v ∈ cur.toList.take (n * 8), v.oneCell' = true) :
    ∃ z : Value, z.cells.size = 8 ∧ Calls Tryd.prog 19 #[.slice (some ⟨b, 0, none⟩) n c, .int .i64 i, .slice (some ⟨vb, voff, none⟩) 1 vc] w fun e w' =>
      e = .returned (.slice (some ⟨w.heap.size, 0, none⟩) (n + 1) (grownCap w (n + 1) c 31)) ∧ InsDone 31 w w' w.heap.size (spl (spl ((cur.toList.take (i * 8)).toArray ++ Builtin.zeroCells z.cells (n + 1 - i) ++ Builtin.zeroCells z.cells (grownCap w (n + 1) c 31 - (n + 1))) (i * 8) vs) ((i + 1) * 8) ((cur.toList.take (n * 8)).drop (i * 8))) ∧ w.heap.size < w'.heap.size := by
  obtain ⟨inf, z, hinf, hiz, his, hzs, hby⟩ := ins_info
  refine ⟨z, hzs, ?_⟩
  have mixed : Tryd.prog.follows .mixedOrders = true := by kernel_rfl
  have hz2 : ¬ ((i : Int) = (n : Int)) := by omega
  have hz3 : (c : Int) < (n : Int) + 1 := by omega
  have hbw : b < w.heap.size := (Array.getElem?_eq_some_iff.1 hcur).1
  have hkk : (n : Int) + 1 - (i : Int) = ((n + 1 - i : Nat) : Int) := by omega
  have hik : i + (n + 1 - i) = n + 1 := by omega
  have hold : (Builtin.firstCells inf.size i (.slice (some ⟨b, 0, none⟩) i c)).run Tryd.prog w.drew = .ok (cur.toList.take (i * 8)).toArray w.drew := by
    rw [his]
    refine run_firstCells_some w.drew 8 i ⟨b, 0, none⟩ i c (cur.toList.take (i * 8)) (by rw [List.length_take]; simp; omega) (fun j v hj => ?_)
    rw [Addr.add_lit]
    rw [List.getElem?_take] at hj
    split at hj
    · simp only [World.cell?]
      show (match w.heap[b]? with | some (.cells c _ _) => _ | _ => none) = _
      rw [hcur]
      simpa using hj
    · cases hj
  obtain ⟨G, hG⟩ : ∃ G, G = grownCap w (n + 1) c 31 := ⟨_, rfl⟩
  obtain ⟨ROW, hROW⟩ : ∃ ROW : Array Value, ROW = (cur.toList.take (i * 8)).toArray ++ Builtin.zeroCells z.cells (n + 1 - i) ++ Builtin.zeroCells z.cells (G - (n + 1)) := ⟨_, rfl⟩
  have hrz : ∀ ty, (Builtin.append_ #[22, 3] ty #[.slice (some ⟨b, 0, none⟩) i c, .int .i64 ((n : Int) + 1 - (i : Int))]).run Tryd.prog w =
      .ok (.slice (some ⟨w.heap.size, 0, none⟩) (n + 1) G) (w.drew.alloc (.cells ROW 31)) := fun ty => by
    have hb2 := Nat.mul_le_mul_left (n + 1) hby
    have hb3 : (n + 1 - i) * inf.bytes ≤ (n + 1) * inf.bytes := Nat.mul_le_mul_right _ (by omega)
    have h := Lib.run_append_grow_zeros w 22 3 ty 31 inf z .i64 .i64 Tryd.underlying22 Tryd.underlying3 hinf hiz (some ⟨b, 0, none⟩) i c (cur.toList.take (i * 8)) hold (n + 1 - i) (by omega) (by omega) (by omega) (by omega) (by omega) (by rw [hik]; exact growslice_fits hroom (by omega))
    rw [hik] at h
    rw [hkk, hROW, hG]
    exact h
  rw [← hG, ← hROW]
  have hRs : ROW.size = G * 8 := by
    have hge : n + 1 ≤ G := by rw [hG]; exact grownCap_ge w _ _ _
    rw [hROW]
    simp only [Array.size_append, List.size_toArray, List.length_take, size_zeroCells, hzs]
    simp
    omega
  have hGn : n + 1 ≤ G := by rw [hG]; exact grownCap_ge w _ _ _
  have hG63 : G ≤ 9223372036854775807 := by
    have := grownCap_le_maxLen w (n + 1) c 31 (by unfold maxLen; omega)
    rw [← hG] at this
    unfold maxLen at this
    omega
  obtain ⟨C, hC⟩ : ∃ C, C = (cur.toList.take (n * 8)).drop (i * 8) := ⟨_, rfl⟩
  have hCl : C.length = (n - i) * 8 := by rw [hC, List.length_drop, List.length_take]; simp; omega
  have hCc : ∀ j v, C[j]? = some v → cur[i * 8 + j]? = some v := fun j v hj => by
    rw [hC, List.getElem?_drop, List.getElem?_take] at hj
    split at hj
    · simpa using hj
    · cases hj
  have hC1 : ∀ v ∈ C, v.oneCell' = true := fun v hv => h1c v (by rw [hC] at hv; exact List.mem_of_mem_drop hv)
  rw [← hC]
  have hN : ∀ W : World, W.heap = w.heap.push (.cells ROW 31) → W.heap[w.heap.size]? = some (.cells ROW 31 (0, 0)) := fun W hW => by rw [hW]; simp
  have hO : ∀ W : World, W.heap = w.heap.push (.cells ROW 31) → ∀ b, b < w.heap.size → W.heap[b]? = w.heap[b]? := fun W hW b hb => by rw [hW, Array.getElem?_push_lt hb, Array.getElem?_eq_getElem hb]
  have hcpA : ∀ W : World, W.heap = w.heap.push (.cells ROW 31) → ∀ ty dc, (Builtin.copy_ #[22, 22] ty #[.slice (some ⟨w.heap.size, i * 8, none⟩) (n + 1 - i) dc, .slice (some ⟨vb, voff, none⟩) 1 vc]).run Tryd.prog W = .ok (goInt 1) (W.setRow w.heap.size (spl ROW (i * 8) vs)) := fun W hW ty dc =>
    run_copy_row W _ _ ty 31 inf Tryd.underlying22 hinf w.heap.size (i * 8) (n + 1 - i) dc ⟨vb, voff, none⟩ 1 vc 1 vs ROW (hN W hW) (by simp only [Nat.min_def]; split <;> omega) (by rw [his, hvl])
      (fun j v hj => by rw [Addr.add_lit]; simp only [World.cell?]; rw [hO W hW vb hvb]; exact hvs j v hj) (by omega) h1v
  obtain ⟨R1, hR1⟩ : ∃ R1, R1 = spl ROW (i * 8) vs := ⟨_, rfl⟩
  have hR1s : R1.size = G * 8 := by rw [hR1, spl_size (by omega), hRs]
  rw [← hR1]
  rw [← hR1] at hcpA
  have hcpB : ∀ W : World, (∃ W0 : World, W0.heap = w.heap.push (.cells ROW 31) ∧ W.heap = (W0.setRow w.heap.size R1).heap) → ∀ ty dc sc, (Builtin.copy_ #[22, 22] ty #[.slice (some ⟨w.heap.size, (i + 1) * 8, none⟩) (n - i) dc, .slice (some ⟨b, i * 8, none⟩) (n - i) sc]).run Tryd.prog W = .ok (goInt ((n - i : Nat) : Int)) (W.setRow w.heap.size (spl R1 ((i + 1) * 8) C)) := fun W ⟨W0, hW0, hW⟩ ty dc sc =>
    run_copy_row W _ _ ty 31 inf Tryd.underlying22 hinf w.heap.size ((i + 1) * 8) (n - i) dc ⟨b, i * 8, none⟩ (n - i) sc (n - i) C R1 (by rw [hW]; exact setRow_heap W0 _ ROW _ _ _ (hN W0 hW0)) (by simp only [Nat.min_def]; split <;> omega) (by rw [his]; exact hCl)
      (fun j v hj => by rw [Addr.add_lit]; simp only [World.cell?]; rw [hW, setRow_other W0 _ b _ (by omega), hO W0 hW0 b hbw, hcur]; exact hCc j v hj) (by omega) hC1
  have hGi : ¬ (G = i) := by omega
  have hGim : ¬ (G = i + 1) := by omega
  have hci : ¬ (c = i) := by omega
  have hw1 : IntKind.i64.wrap ((i : Int) + 1) = (i : Int) + 1 := by rw [IntKind.wrap_i64]; omega
  have hb1 : (0 : Int) ≤ (i : Int) + 1 := by omega
  have hin : i ≤ n := by omega
  have htn : ((i : Int) + 1).toNat = i + 1 := by omega
  have hb3 : (i : Int) ≤ (n : Int) := by omega
  have hfin : ∀ w' W0 : World, W0.heap = w.heap.push (.cells ROW 31) → w'.heap = ((W0.setRow w.heap.size R1).setRow w.heap.size (spl R1 ((i + 1) * 8) C)).heap → w'.os = w.os → w'.tape = w.tape → w'.output = w.output →
      InsDone 31 w w' w.heap.size (spl R1 ((i + 1) * 8) C) ∧ w.heap.size < w'.heap.size := fun w' W0 h0 h1 h2 h3 h4 => by
    have hsz : w'.heap.size = w.heap.size + 1 := by rw [h1]; simp [World.setRow, h0]
    refine ⟨⟨?_, fun b' hb hl => ?_, by omega, h2, h3, h4⟩, by omega⟩
    · rw [h1]; exact setRow_heap _ _ R1 _ _ _ (setRow_heap W0 _ ROW _ _ _ (hN W0 h0))
    · rw [h1, setRow_other _ _ b' _ hb, setRow_other _ _ b' _ hb]; exact hO W0 h0 b' hl
  clear hkk hik hold hROW hG hRs hinf hiz his hzs hC hCl hCc hC1 hR1 hR1s hN hO
  go_enter Tryd.func19, Tryd.ntmps19
  go_wp2_with (first
    | (at_builtin; refine Lib.wpList_append_run _ rfl _ _ _ _ rfl _ _ rfl rfl _ _ (hrz _) ?_)
    | refine ins_list_copy _ rfl _ _ 22 22 rfl _ _ rfl rfl (hcpA (w.drew.alloc (.cells ROW 31)) rfl _ _) ?_)
  go_region_law_o (refine ins_step_copy (v := .slice (some ⟨w.heap.size, (i + 1) * 8, none⟩) (n - i) (G - (i + 1))) (u := .slice (some ⟨b, i * 8, none⟩) (n - i) (c - i)) (v' := goInt ((n - i : Nat) : Int)) (w' := ((w.drew.alloc (.cells ROW 31)).setRow w.heap.size R1).drew.setRow w.heap.size (spl R1 ((i + 1) * 8) C)) rfl _ _ 22 22 rfl (by simp [Act.eval, Act.put]) (by simp [Act.eval, Act.put]) (hcpB ((w.drew.alloc (.cells ROW 31)).setRow w.heap.size R1).drew ⟨w.drew.alloc (.cells ROW 31), rfl, rfl⟩ _ _ _) ?_)
  go_wp2
  go_ret
  exact ⟨rfl, hfin _ (w.drew.alloc (.cells ROW 31)) rfl rfl rfl rfl rfl⟩

theorem ins_fin {P : Program} {D : Dom} {w w' : World} {ow : Own} {μ : Nat → Nat} {E : TypeId} {fl cap g i : Nat} {x : PV} {xs : List PV} {asv : List SV} {vals : Array Value} {cur' : Array Value} (pre : Pre P D ow μ [.arr E fl xs] w asv vals)
    (hz : P.cellsOf E = 8) (hi : i ≤ xs.length) (hg : (ow g = some 0 ∧ g < w.heap.size) ∨ (g = w.heap.size ∧ g < w'.heap.size)) (hd : InsDone E w w' g cur') (cs vs : List Value) (hcs : cs.length = xs.length * 8) (hvs : vs.length = 8)
    (hL : cur'.toList.take ((xs.length + 1) * 8) = cs.take (i * 8) ++ vs ++ cs.drop (i * 8)) (hxs : ∀ (k : Nat) (y : PV), xs[k]? = some y → Rep P D w E y ((cs.drop (k * 8)).take 8)) (hx : Rep P D w E x vs)
    (hc : cap * 8 = cur'.size) (hm : cap ≤ maxLen) (hle : xs.length + 1 ≤ cap) :
    Post P D w ow μ [.arr E fl xs] [.arr 0 1 E] [.arr E 1 (xs.take i ++ x :: xs.drop i)] (.slice (some ⟨g, 0, none⟩) (xs.length + 1) cap) D w' := by
  have lone : ∀ b, ow b = some 0 → ∀ o, ¬ D b o := fun b ob o d => pre.objs.lone b 0 _ ob rfl (by simp) o d
  have hk : Keeps D w w' := Keeps.of_heap fun b o d => hd.oth b (fun e => by
    subst e
    rcases hg with ⟨ho, _⟩ | ⟨e, _⟩
    · exact lone _ ho o d
    · have := pre.dlt b o d; omega) (pre.dlt b o d)
  have hlen : (xs.take i ++ x :: xs.drop i).length = xs.length + 1 := by simp; omega
  rw [← hlen]
  refine ins_post pre hg hd (by rw [hz]; exact hc) hm (by rw [hlen]; exact hle) (fun k y hy => ?_)
  rw [hz, chunk_ins hi hcs hvs hL k (by rw [← hlen]; exact (List.getElem?_eq_some_iff.1 hy).1)]
  split
  · rename_i h
    rw [List.getElem?_append_left (by rw [List.length_take]; omega), List.getElem?_take, if_pos h] at hy
    exact (hxs k y hy).mono (fun _ _ d => d) hk
  · split
    · rename_i h h2
      subst h2
      rw [List.getElem?_append_right (by rw [List.length_take]; omega), List.length_take, Nat.min_eq_left hi, Nat.sub_self] at hy
      cases hy
      exact hx.mono (fun _ _ d => d) hk
    · rename_i h h2
      rw [List.getElem?_append_right (by rw [List.length_take]; omega), List.length_take, Nat.min_eq_left hi] at hy
      rw [show k - i = (k - 1 - i) + 1 by omega, List.getElem?_cons_succ, List.getElem?_drop, show i + (k - 1 - i) = k - 1 by omega] at hy
      exact (hxs (k - 1) y hy).mono (fun _ _ d => d) hk

theorem ins_list_shift {cur : Array Value} {n i : Nat} {vs : List Value} (hi : i ≤ n) (hs : (n + 1) * 8 ≤ cur.size) (hv : vs.length = 8) :
    (spl (spl cur ((i + 1) * 8) ((cur.toList.take (n * 8)).drop (i * 8))) (i * 8) vs).toList.take ((n + 1) * 8) = (cur.toList.take (n * 8)).take (i * 8) ++ vs ++ (cur.toList.take (n * 8)).drop (i * 8) := by
  obtain ⟨C, hC⟩ : ∃ C, C = (cur.toList.take (n * 8)).drop (i * 8) := ⟨_, rfl⟩
  have hCl : C.length = (n - i) * 8 := by rw [hC, List.length_drop, List.length_take]; simp; omega
  rw [← hC, spl_list, spl_list]
  have e1 : (cur.toList.take ((i + 1) * 8) ++ C ++ cur.toList.drop ((i + 1) * 8 + C.length)).take (i * 8) = (cur.toList.take (n * 8)).take (i * 8) := by
    rw [List.append_assoc, List.take_append_of_le_length (by rw [List.length_take]; simp; omega), List.take_take, List.take_take]
    congr 1; omega
  have e2 : (cur.toList.take ((i + 1) * 8) ++ C ++ cur.toList.drop ((i + 1) * 8 + C.length)).drop (i * 8 + vs.length) = C ++ cur.toList.drop ((i + 1) * 8 + C.length) := by
    rw [List.append_assoc]
    exact List.drop_left' (by rw [List.length_take, hv]; simp; omega)
  rw [e1, e2, ← List.append_assoc, List.take_append_of_le_length (by simp [List.length_take]; omega), List.take_of_length_le (by simp [List.length_take]; omega)]

theorem ins_list_row {ROW : Array Value} {n i : Nat} {vs C A : List Value} (hi : i ≤ n) (hs : (n + 1) * 8 ≤ ROW.size) (hv : vs.length = 8) (hC : C.length = (n - i) * 8) (hA : ROW.toList.take (i * 8) = A) :
    (spl (spl ROW (i * 8) vs) ((i + 1) * 8) C).toList.take ((n + 1) * 8) = A ++ vs ++ C := by
  have hAl : A.length = i * 8 := by rw [← hA, List.length_take]; simp; omega
  rw [spl_list, spl_list, hA]
  have e1 : (A ++ vs ++ ROW.toList.drop (i * 8 + vs.length)).take ((i + 1) * 8) = A ++ vs := by
    rw [List.take_append_of_le_length (by simp; omega), List.take_of_length_le (by simp; omega)]
  rw [e1, List.take_append_of_le_length (by simp; omega), List.take_of_length_le (by simp; omega)]

theorem three_args {P : Program} {D : Dom} {ow : Own} {μ : Nat → Nat} {st : List BX} {w : World} {s t u : SV} {vals : Array Value} (pre : Pre P D ow μ st w [s, t, u] vals) : ∃ a b c, vals = #[a, b, c] ∧ SRep P D w ow μ st s a ∧ SRep P D w ow μ st t b ∧ SRep P D w ow μ st u c := by
  have := pre.size
  match vals, this, pre with
  | ⟨[a, b, c]⟩, _, pre => exact ⟨a, b, c, rfl, pre.arg 0 _ a rfl rfl, pre.arg 1 _ b rfl rfl, pre.arg 2 _ c rfl rfl⟩

theorem ins_meets (fl i : Nat) (x : PV) (xs : List PV) (hi : i ≤ xs.length) (hx : xs.length < 1073741824) : Meets Tryd.prog 19 [.arr 0 fl 31, .int .i64 i, .slice 31 [x]] [.arr 31 fl xs] [.arr 0 1 31] [.arr 31 1 (xs.take i ++ x :: xs.drop i)] := by
  refine ⟨canEnter_of Tryd.func19 (by kernel_rfl) (by kernel_rfl), fun D ow μ w vals pre => ?_⟩
  obtain ⟨v0, v1, v2, rfl, a0, a1, a2⟩ := three_args pre
  have hcell : Tryd.prog.cellsOf 31 = 8 := by kernel_rfl
  cases a1
  cases a2 with
  | slice a2 =>
  cases a2 with
  | @mk vb voff vc _ vs q1 q2 q3 q4 =>
  rw [hcell] at q2 q3
  have hvl : vs.length = 8 := by simpa using q2
  have hxr : Rep Tryd.prog D w 31 x vs := by
    have h := q3 0 x rfl
    rwa [Nat.zero_mul, List.drop_zero, List.take_of_length_le (by omega)] at h
  have h1v : ∀ v ∈ vs, v.oneCell' = true := hxr.oneCell
  have hvs : ∀ j v, vs[j]? = some v → w.cell? ⟨vb, voff + j, none⟩ = some v := fun j v hj => (q4 j v hj).2
  have hDv : D vb voff := by
    have h := (q4 0 _ (List.getElem?_eq_getElem (by omega))).1
    simpa using h
  have hvlt := pre.dlt _ _ hDv
  cases a0 with
  | arrOld h1 h2 _ => cases h1; omega
  | @arrNil _ _ _ a h1 =>
    cases h1
    have hi0 : i = 0 := by simpa using hi
    subst hi0
    obtain ⟨z, hzs, hrun⟩ := ins_end_grow a 0 0 vb voff vc [] vs w (Nat.le_refl _) (by omega) (by omega) rfl (fun _ => ⟨rfl, rfl⟩) (fun a _ j v hj => by simp at hj) hvl hvs h1v
    refine hrun.mono ?_
    rintro e w' ⟨rfl, hd, hlt⟩
    refine ⟨_, D, rfl, ?_⟩
    have hge : 0 + 1 ≤ grownCap w (0 + 1) 0 31 := grownCap_ge w _ _ _
    refine ins_fin pre hcell (Nat.le_refl _) (.inr ⟨rfl, hlt⟩) hd [] vs rfl hvl ?_ (fun k y hy => by simp at hy) hxr ?_ (grownCap_le_maxLen w _ _ _ (by unfold maxLen; omega)) hge
    · simp [hvl]
    · simp only [Array.size_append, List.size_toArray, size_zeroCells, hzs, List.nil_append, hvl]
      omega
  | @arr _ _ cap _ _ cur h1 h2 h3 h4 h5 h6 =>
    cases h1
    rw [hcell] at h6
    have hlone : ∀ o, ¬ D (μ 0) o := fun o d => pre.objs.lone _ 0 _ h5 rfl (by simp) o d
    have hvb : vb ≠ μ 0 := fun e => hlone voff (e ▸ hDv)
    have hbw : μ 0 < w.heap.size := (Array.getElem?_eq_some_iff.1 h4).1
    have hrep : ∀ (k : Nat) (y : PV), xs[k]? = some y → Rep Tryd.prog D w 31 y ((cur.toList.drop (k * 8)).take 8) := by
      intro k y hy
      rcases pre.objs.obj 0 _ rfl with h | ⟨cur', a1, a2, a3, a4, a5⟩
      · subst h; simp at hy
      · rw [h4] at a1; cases a1
        have := a5 k y hy
        rwa [hcell] at this
    have hnc : xs.length * 8 ≤ cur.size := by omega
    obtain ⟨cs, hcs⟩ : ∃ cs, cs = cur.toList.take (xs.length * 8) := ⟨_, rfl⟩
    have hcl : cs.length = xs.length * 8 := by rw [hcs, List.length_take]; simp; omega
    have hrc : ∀ (k : Nat) (y : PV), xs[k]? = some y → Rep Tryd.prog D w 31 y ((cs.drop (k * 8)).take 8) := by
      intro k y hy
      have hk : k < xs.length := (List.getElem?_eq_some_iff.1 hy).1
      have h := hrep k y hy
      have e : (cs.drop (k * 8)).take 8 = (cur.toList.drop (k * 8)).take 8 := by
        rw [hcs]
        apply List.ext_getElem?
        intro j
        simp only [List.getElem?_take, List.getElem?_drop]
        split
        · rw [if_pos (by omega)]
        · rfl
      rw [e]; exact h
    have h1c : ∀ v ∈ cs, v.oneCell' = true := by
      intro v hv
      obtain ⟨j, hj, rfl⟩ := List.mem_iff_getElem.1 hv
      have hk : j / 8 < xs.length := by omega
      have h := (hrc (j / 8) _ (List.getElem?_eq_getElem hk)).oneCell cs[j]
      refine h (List.mem_iff_getElem?.2 ⟨j % 8, ?_⟩)
      rw [List.getElem?_take, if_pos (by omega), List.getElem?_drop, show j / 8 * 8 + j % 8 = j by omega, List.getElem?_eq_getElem hj]
    by_cases hin : i = xs.length
    · subst hin
      have hdr : cs.drop (xs.length * 8) = [] := List.drop_eq_nil_of_le (by omega)
      have htk : cs.take (xs.length * 8) = cs := List.take_of_length_le (by omega)
      by_cases hroom : xs.length + 1 ≤ cap
      · refine (ins_end_room (μ 0) xs.length cap vb voff vc cur vs w hroom h3 h4 h6 hvl hvs h1v).mono ?_
        rintro e w' ⟨rfl, hd⟩
        refine ⟨_, D, rfl, ?_⟩
        refine ins_fin pre hcell (Nat.le_refl _) (.inl ⟨h5, hbw⟩) hd cs vs hcl hvl ?_ hrc hxr (by rw [spl_size (by omega)]; exact h6) h3 hroom
        rw [hdr, htk, List.append_nil, spl_list, ← hcs, List.take_append_of_le_length (by simp; omega), List.take_of_length_le (by simp; omega)]
      · obtain ⟨z, hzs, hrun⟩ := ins_end_grow (some ⟨μ 0, 0, none⟩) xs.length cap vb voff vc cs vs w h2 (by omega) (by omega) hcl (fun h => by cases h) (fun a ha j v hj => by
          cases ha
          rw [Addr.add_lit]
          simp only [World.cell?]
          rw [h4]
          rw [hcs, List.getElem?_take] at hj
          split at hj
          · simpa using hj
          · cases hj) hvl hvs h1v
        refine hrun.mono ?_
        rintro e w' ⟨rfl, hd, hlt⟩
        refine ⟨_, D, rfl, ?_⟩
        have hge : xs.length + 1 ≤ grownCap w (xs.length + 1) cap 31 := grownCap_ge w _ _ _
        refine ins_fin pre hcell (Nat.le_refl _) (.inr ⟨rfl, hlt⟩) hd cs vs hcl hvl ?_ hrc hxr ?_ (grownCap_le_maxLen w _ _ _ (by unfold maxLen; omega)) hge
        · rw [hdr, htk, List.append_nil, Array.toList_append, List.toList_toArray, List.take_append_of_le_length (by simp; omega), List.take_of_length_le (by simp; omega)]
        · simp only [Array.size_append, List.size_toArray, size_zeroCells, hzs, List.length_append]
          omega
    · have hlt : i < xs.length := by omega
      by_cases hroom : xs.length + 1 ≤ cap
      · refine (ins_shift (μ 0) xs.length cap i vb voff vc cur vs w hlt hroom h3 hvb h4 h6 hvl hvs h1v (by rw [← hcs]; exact h1c)).mono ?_
        rintro e w' ⟨rfl, hd⟩
        refine ⟨_, D, rfl, ?_⟩
        have hCl : ((cur.toList.take (xs.length * 8)).drop (i * 8)).length = (xs.length - i) * 8 := by rw [List.length_drop, List.length_take]; simp; omega
        refine ins_fin pre hcell hi (.inl ⟨h5, hbw⟩) hd cs vs hcl hvl ?_ hrc hxr (by rw [spl_size (by rw [spl_size (by omega)]; omega), spl_size (by omega)]; exact h6) h3 hroom
        rw [ins_list_shift hi (by omega) hvl, ← hcs]
      · obtain ⟨z, hzs, hrun⟩ := ins_grow (μ 0) xs.length cap i vb voff vc cur vs w hlt h2 (by omega) (by omega) hvlt h4 h6 hvl hvs h1v (by rw [← hcs]; exact h1c)
        refine hrun.mono ?_
        rintro e w' ⟨rfl, hd, hlt'⟩
        refine ⟨_, D, rfl, ?_⟩
        have hge : xs.length + 1 ≤ grownCap w (xs.length + 1) cap 31 := grownCap_ge w _ _ _
        have hCl : ((cur.toList.take (xs.length * 8)).drop (i * 8)).length = (xs.length - i) * 8 := by rw [List.length_drop, List.length_take]; simp; omega
        have hRs : ((cur.toList.take (i * 8)).toArray ++ Builtin.zeroCells z.cells (xs.length + 1 - i) ++ Builtin.zeroCells z.cells (grownCap w (xs.length + 1) cap 31 - (xs.length + 1))).size = grownCap w (xs.length + 1) cap 31 * 8 := by
          simp only [Array.size_append, List.size_toArray, List.length_take, size_zeroCells, hzs]
          simp
          omega
        refine ins_fin pre hcell hi (.inr ⟨rfl, hlt'⟩) hd cs vs hcl hvl ?_ hrc hxr (by rw [spl_size (by rw [spl_size (by omega)]; omega), spl_size (by omega)]; exact hRs.symm) (grownCap_le_maxLen w _ _ _ (by unfold maxLen; omega)) hge
        rw [ins_list_row (A := cs.take (i * 8)) hi (by omega) hvl hCl ?_, ← hcs]
        rw [Array.toList_append, Array.toList_append, List.toList_toArray, List.append_assoc, List.take_append_of_le_length (by rw [List.length_take]; simp; omega), List.take_take, hcs, List.take_take]
        congr 1; omega

def Lins (fuel : Nat) (i : Int) (v xs : List PV) : Option (Unit × List PV) :=
  bif decide (v.length = 1 ∧ 0 ≤ i ∧ i ≤ (xs.length : Int) ∧ xs.length < 1073741824) then some ((), xs.take i.toNat ++ v ++ xs.drop i.toNat) else none
def Lins_0c (fuel : Nat) : CallE := { f := 19, A := ⟨3, [.arr 31 0], [.con (.arr 0 0 31), .int .i64, .slice 31, .slice 31]⟩, R := ⟨1, [.arr 31 1], [.con (.arr 0 1 31), .slice 31]⟩, F := fun x => Lins fuel x.2.1 x.2.2.1 x.2.2.2, dflt := ((), []) }
theorem Lins_0ok (fuel : Nat) : (Lins_0c fuel).Ok Tryd.prog := by
  intro x y h
  obtain ⟨u, i, v, xs⟩ := x
  have h : Lins fuel i v xs = some y := h
  obtain ⟨hb, rfl⟩ := cond_some h
  obtain ⟨h1, h2, h3, h4⟩ := of_decide_eq_true hb
  obtain ⟨a, rfl⟩ := List.length_eq_one_iff.1 h1
  obtain ⟨k, rfl⟩ := Int.eq_ofNat_of_zero_le h2
  have hm := ins_meets 0 k a xs (by omega) h4
  rw [Int.toNat_natCast, List.append_assoc]
  exact hm
end Go.Ab
