/- strings.Builder: what its methods do, every other block left alone. -/
import Derived.Test.YtefbblajhfhhhaaDoorAbLoop
import Derived.Test.YtefbblajhfhhhaaDoorProg
import Derived.Lib.Strings
import Derived.Lib.Slices
import Derived.Lib.Walk
import Derived.Lib.Builder
import Derived.Lib.AppendStr
import Derived.Lib.UnsafeStr
import Derived.Lib.FrozenHead
import Derived.WalkKit
import Derived.Laws.Externs
import Derived.Laws.BitsLemmas
set_option linter.unusedVariables false
set_option linter.unusedSimpArgs false
set_option linter.unnecessarySimpa false
namespace Go.Ab
open Go Go.Proofs Go.RowKit

/-- Every block but these stays. -/
structure Else (b : Nat) (g : Option Nat) (w w' : World) : Prop where
  os : w'.os = w.os
  tape : w'.tape = w.tape
  output : w'.output = w.output
  size : w.heap.size ≤ w'.heap.size
  block : ∀ k, k < w.heap.size → k ≠ b → some k ≠ g → w'.heap[k]? = w.heap[k]?

/-- A builder in block b: its address or nil, its slice, its bytes. -/
def BAt (T : TypeId) (b : Nat) (p v : Value) (bs : List UInt8) (w : World) : Prop :=
  w.heap[b]? = some (.cells #[p, v] T (0, 0)) ∧ w.ownsRowF 0 5 1 v bs.length (Lib.byteCells bs) ∧ v.ownBlock ≠ some b

theorem sizeBuilder : ∃ j, Tryd.prog.info? 68 = some j ∧ j.size = 2 := by
  have h : (Tryd.prog.info? 68).map (fun i => i.size) = some 2 := by kernel_rfl
  obtain ⟨j, h1, h2⟩ := Option.map_eq_some_iff.1 h
  exact ⟨j, h1, h2⟩

/-- Behind an append to a builder's row: the row is the same, or a new one. -/
theorem append_block {P : Program} (w : World) (t u ty e : TypeId) (i : TypeInfo) (ht : P.underlying t = some (.slice e)) (hu : P.underlying u = some .string) (hi : P.info? e = some i) (hz : i.zero = some (.int .u8 0)) (hsize : i.size = 1) (hby : i.bytes = 1)
    (v : Value) (n : Nat) (xs : List Value) (hown : w.ownsRowF 0 e 1 v n xs) (s : ByteArray) (h63 : n + s.size ≤ maxLen) (hbytes : n + s.size ≤ 140737488355328) {v' : Value} {w' : World} (hr : (Builtin.append_ #[t, u] ty #[v, .string s]).run P w = .ok v' w') :
    ∀ g, v'.ownBlock = some g → v.ownBlock = some g ∨ w.heap.size ≤ g := by
  intro g hg
  rcases hown.2 with ⟨rfl, rfl⟩ | ⟨g0, cap, cur, fz, rfl, _, hg0, hfz, hnc, hcm, hcs, htake⟩
  · obtain ⟨v2, w2, h1, h2, _⟩ := Lib.run_append_own_string (P := P) w w.heap.size t u ty e i ht hu hi hz hsize hby (.slice none 0 0) 0 xs ⟨hown.1, .inl ⟨rfl, rfl⟩⟩ s h63 hbytes (Nat.le_refl _)
    rw [hr] at h1; cases h1
    rcases h2.2 with ⟨rfl, _⟩ | ⟨g1, c1, u1, rfl, hb, _⟩
    · simp [Value.ownBlock] at hg
    · simp [Value.ownBlock] at hg; subst hg; exact Or.inr hb
  · by_cases hroom : n + s.size ≤ cap
    · have h1 := Lib.run_append_room_stringF (P := P) w t u ty e i ht hu hi hsize g0 n cap cur fz hg0 (by simpa using hfz) s hroom (by rw [hcs]; omega)
      rw [hr] at h1; cases h1
      exact Or.inl hg
    · have hxl : xs.length = n := by simpa using hown.1
      have h1 := Lib.run_append_grow_string (P := P) w t u ty e i (.int .u8 0) ht hu hi hz ⟨g0, 0, none⟩ n cap xs (by rw [hsize]; simpa using hxl) (hown.cells (g := g0) rfl) s (by omega) (by unfold maxLen at h63; omega) (by rw [hby]; exact growslice_fits (by omega) (by omega))
      rw [hr] at h1; cases h1
      simp [Value.ownBlock] at hg; subst hg; exact Or.inr (Nat.le_refl _)

theorem wpList_append_str {P : Program} {w : World} {ops : Array Oper} {rest : List Oper} {o : Oper} {a : Act} {Q : Exit → Act → World → Prop} (hgd : o.guard = none) (sl x : Operand) (t u : TypeId)
    (ho : o.op = .call { callee := .builtin .append, args := #[sl, x], argTypes := #[t, u] })
    (e : TypeId) (i : TypeInfo) (ht : P.underlying t = some (.slice e)) (hu : P.underlying u = some .string) (hi : P.info? e = some i) (hz : i.zero = some (.int .u8 0)) (hsize : i.size = 1) (hby : i.bytes = 1)
    (v : Value) (n : Nat) (xs : List Value) (hs : a.eval sl = v) (hown : w.ownsRowF 0 e 1 v n xs) (s : ByteArray) (hx : a.eval x = .string s) (h63 : n + s.size ≤ maxLen) (hbytes : n + s.size ≤ 140737488355328)
    (h : ∀ v' w', w'.ownsRowF 0 e 1 v' (n + s.size) (xs ++ Lib.strCells s) → w.grownBy w' v.ownBlock → (∀ g, v'.ownBlock = some g → v.ownBlock = some g ∨ w.heap.size ≤ g) → wpList P ops Q rest (a.put o.dst v') w') : wpList P ops Q (o :: rest) a w := by
  refine wpList_plain hgd fun K hK => ?_
  obtain ⟨v', w', hr, h2, h3, _⟩ := Lib.run_append_own_stringF (P := P) w 0 t u o.type e i ht hu hi hz hsize hby v n xs hown s h63 hbytes (Nat.zero_le _)
  have h5 := append_block w t u o.type e i ht hu hi hz hsize hby v n xs hown s h63 hbytes hr
  unfold Oper.wp execOp
  simp only [ho, resolve, invoke, builtin, Sem.run_bind, Sem.run_pure, Result.andThen_ok, List.map_toArray, List.map_cons, List.map_nil, hs, hx, hr]
  exact hK _ _ (h v' w' h2 h3 h5)

set_option maxHeartbeats 1000000 in
set_option maxRecDepth 100000 in
theorem copyCheck_used (b : Nat) (w : World) (h0 : w.cell? ⟨b, 0, none⟩ = some (.pointer (some ⟨b, 0, none⟩))) :
    Calls Tryd.prog 49 #[.pointer (some ⟨b, 0, none⟩)] w fun e w' => e = .returned (.tuple #[]) ∧ w' = w := by
  obtain ⟨j, hj, _⟩ := sizeBuilder
  go_enter Tryd.func49, Tryd.ntmps49
  go_wp2
  rw [Lib.run_neq_ptr_same w _ Tryd.underlying65 hj]
  go_wp2
  go_end0
  exact ⟨rfl, rfl⟩

set_option maxHeartbeats 1000000 in
set_option maxRecDepth 100000 in
theorem copyCheck_fresh (T : TypeId) (hl : liesAt Tryd.prog Tryd.prog.depth T (2 / Tryd.prog.cellsOf T) 0 68 1 = true) (b : Nat) (w : World) (h0 : w.cell? ⟨b, 0, none⟩ = some (.pointer none)) (hsh : w.shape? b = some (T, 2)) (hfz : w.frozen? ⟨b, 0, none⟩ = false) :
    Calls Tryd.prog 49 #[.pointer (some ⟨b, 0, none⟩)] w fun e w' => e = .returned (.tuple #[]) ∧ w' = w.setCell ⟨b, 0, none⟩ (.pointer (some ⟨b, 0, none⟩)) := by
  obtain ⟨j, hj, hjs⟩ := sizeBuilder
  go_enter Tryd.func49, Tryd.ntmps49
  go_wp2
  rw [Lib.run_to_unsafe w ⟨b, 0, none⟩ Tryd.underlying65 Tryd.underlying96 hj (by rw [hjs]; decide) hsh (Nat.zero_lt_succ 1)]
  simp only [Result.andThen]
  rw [Oper.upon_value]
  go_wp2
  rw [run_callFunc_extern Tryd.func64 (by kernel_rfl) (by kernel_rfl) (by kernel_rfl) (e := Extern.AbiNoEscape.same) (by kernel_rfl)]
  rw [Lib.run_noEscape]
  simp only [Result.andThen]
  rw [Oper.upon_value]
  go_wp2
  rw [Lib.run_from_unsafe w ⟨b, 0, none⟩ Tryd.underlying96 Tryd.underlying65 hj hsh hl]
  simp only [Result.andThen]
  rw [Oper.upon_value]
  go_wp2
  go_end0
  exact ⟨rfl, rfl⟩

theorem byteInfo : ∃ i, Tryd.prog.info? 5 = some i ∧ i.zero = some (.int .u8 0) ∧ i.size = 1 ∧ i.bytes = 1 := by
  have h : (Tryd.prog.info? 5).map (fun i => (i.zero, i.size, i.bytes)) = some (some (.int .u8 0), 1, 1) := by kernel_rfl
  obtain ⟨j, h1, h2⟩ := Option.map_eq_some_iff.1 h
  simp only [Prod.mk.injEq] at h2
  exact ⟨j, h1, h2.1, h2.2.1, h2.2.2⟩

theorem copyCheck_any {T : TypeId} (hl : liesAt Tryd.prog Tryd.prog.depth T (2 / Tryd.prog.cellsOf T) 0 68 1 = true) {b : Nat} {p v : Value} {bs : List UInt8} {w : World} (hp : p = .pointer none ∨ p = .pointer (some ⟨b, 0, none⟩)) (h : BAt T b p v bs w) :
    Calls Tryd.prog 49 #[.pointer (some ⟨b, 0, none⟩)] w fun e w' => e = .returned (.tuple #[]) ∧ BAt T b (.pointer (some ⟨b, 0, none⟩)) v bs w' ∧ Else b none w w' := by
  obtain ⟨h1, h2, h3⟩ := h
  have c0 : w.cell? ⟨b, 0, none⟩ = some p := by rw [Lib.cell_of_heap h1]; rfl
  rcases hp with rfl | rfl
  · refine (copyCheck_fresh T hl b w c0 (by simp [World.shape?, h1]) (by simp [World.frozen?, h1])).mono ?_
    rintro e w' ⟨rfl, rfl⟩
    refine ⟨rfl, ⟨by simp [World.setCell, Array.getElem?_modify, h1], ?_, h3⟩, rfl, rfl, rfl, by simp [World.setCell], fun k _ hk _ => Below.heap_setCell _ _ _ _ hk⟩
    exact h2.kept (row := some b) ⟨rfl, rfl, rfl, by simp [World.setCell], fun k _ hk => Below.heap_setCell _ _ _ _ (fun e => hk (by simp [e]))⟩ (Or.inr h3)
  · refine (copyCheck_used b w c0).mono ?_
    rintro e w' ⟨rfl, rfl⟩
    exact ⟨rfl, ⟨h1, h2, h3⟩, rfl, rfl, rfl, Nat.le_refl _, fun _ _ _ _ => rfl⟩

set_option maxHeartbeats 2000000 in
set_option maxRecDepth 100000 in
theorem writeString_any {T : TypeId} (hl : liesAt Tryd.prog Tryd.prog.depth T (2 / Tryd.prog.cellsOf T) 0 68 1 = true) {b : Nat} {p v : Value} {bs : List UInt8} {w : World} (hp : p = .pointer none ∨ p = .pointer (some ⟨b, 0, none⟩)) (h : BAt T b p v bs w) (hTe : T ≠ 5)
    (s : ByteArray) (hlen : bs.length + s.size ≤ 140737488355328) :
    Calls Tryd.prog 36 #[.pointer (some ⟨b, 0, none⟩), .string s] w fun e w' => e = .returned (.tuple #[.int .i64 s.size, .nilIface]) ∧ ∃ v', BAt T b (.pointer (some ⟨b, 0, none⟩)) v' (bs ++ s.data.toList) w' ∧ Else b v.ownBlock w w' ∧
      (∀ g, v'.ownBlock = some g → v.ownBlock = some g ∨ w.heap.size ≤ g) := by
  obtain ⟨i0, hi, hz0, hz1, hz2⟩ := byteInfo
  go_enter Tryd.func36, Tryd.ntmps36
  go_wp2_with (go_at_call 49; refine (copyCheck_any hl hp h).mono ?_)
  rintro e w1 ⟨rfl, h1, hb1⟩
  obtain ⟨hbk, hown, hne⟩ := h1
  have c0 : w1.cell? ⟨b, 0, none⟩ = some (.pointer (some ⟨b, 0, none⟩)) := by rw [Lib.cell_of_heap hbk]; rfl
  have c1 : w1.cell? ⟨b, 1, none⟩ = some v := by rw [Lib.cell_of_heap hbk]; rfl
  go_wp2_with (at_builtin; refine wpList_append_str rfl _ _ 66 9 rfl 5 i0 Tryd.underlying66 Tryd.underlying9 hi hz0 hz1 hz2 _ _ _ rfl hown s rfl ?c3 ?c4 ?_)
  case c3 => unfold maxLen; omega
  case c4 => omega
  intro v' w2 hown' hgrow hnew
  have hlt : b < w1.heap.size := by
    rcases Nat.lt_or_ge b w1.heap.size with h' | h'
    · exact h'
    · simp [Array.getElem?_eq_none h'] at hbk
  have hb2 : w2.heap[b]? = some (.cells #[.pointer (some ⟨b, 0, none⟩), v] T (0, 0)) := by
    rw [hgrow.block b hlt (fun e => hne e.symm)]
    exact hbk
  have d0 : w2.cell? ⟨b, 0, none⟩ = some (.pointer (some ⟨b, 0, none⟩)) := by rw [Lib.cell_of_heap hb2]; rfl
  have d1 : w2.cell? ⟨b, 1, none⟩ = some v := by rw [Lib.cell_of_heap hb2]; rfl
  have f1 : w2.frozen? ⟨b, 1, none⟩ = false := Lib.frozen_of_heap hb2 1
  obtain ⟨ao, n', cap, rfl⟩ : ∃ ao n' cap, v' = .slice ao n' cap := by
    rcases hown'.2 with ⟨hv, _⟩ | ⟨g, cap, cur, fz, hv, _⟩
    · exact ⟨_, _, _, hv⟩
    · exact ⟨_, _, _, hv⟩
  go_wp2
  go_ret2
  refine ⟨rfl, .slice ao n' cap, ⟨by simp [World.setCell, Array.getElem?_modify, hb2], ?_, ?_⟩, ⟨hgrow.os.trans hb1.os, hgrow.tape.trans hb1.tape, hgrow.output.trans hb1.output, ?_, fun k hk hkb hkv => ?_⟩, fun g hg => ?_⟩
  · have e1 : bs.length + s.size = (bs ++ s.data.toList).length := by rw [List.length_append]; rfl
    rw [e1, Lib.strCells_eq, ← Lib.byteCells_append] at hown'
    exact hown'.kept (row := some b) ⟨rfl, rfl, rfl, by simp [World.setCell], fun k _ hk => Below.heap_setCell _ _ _ _ (fun e => hk (by simp [e]))⟩ (Or.inr (Lib.ownBlock_neF hown' hb2 hTe))
  · exact Lib.ownBlock_neF hown' hb2 hTe
  · have := hb1.size; have := hgrow.size; simp [World.setCell]; omega
  · have := hb1.size
    rw [Below.heap_setCell _ _ _ _ hkb, hgrow.block k (by omega) hkv]
    exact hb1.block k hk hkb (by simp)
  · rcases hnew g hg with h' | h'
    · exact Or.inl h'
    · have := hb1.size; exact Or.inr (by omega)

theorem BAt.frz {T : TypeId} {b : Nat} {p : Value} {bs : List UInt8} {w : World} {g cap : Nat} (h : BAt T b p (.slice (some ⟨g, 0, none⟩) bs.length cap) bs w) : BAt T b p (.slice (some ⟨g, 0, none⟩) bs.length cap) bs (w.drew.freeze ⟨g, 0, none⟩ bs.length) := by
  obtain ⟨h1, h2, h3⟩ := h
  have h0 : Lib.BuilderAtF T 5 0 b p (Lib.byteCells bs) w.drew := ⟨Nat.zero_le _, _, h1, by rw [Lib.byteCells_length]; exact h2, h3⟩
  have c1 : w.drew.cell? ⟨b, 1, none⟩ = some (.slice (some ⟨g, 0, none⟩) bs.length cap) := by
    have : w.drew.heap[b]? = some (.cells #[p, .slice (some ⟨g, 0, none⟩) bs.length cap] T (0, 0)) := h1
    rw [Lib.cell_of_heap this]; rfl
  obtain ⟨_, v, q1, q2, q3⟩ := h0.froze (g := g) (cap := cap) (by rw [Lib.byteCells_length]; exact c1)
  rw [Lib.byteCells_length] at q1 q2
  have e : v = .slice (some ⟨g, 0, none⟩) bs.length cap := by
    have hgb : g ≠ b := fun e => h3 (by simp [Value.ownBlock, e])
    have : (w.drew.freeze ⟨g, 0, none⟩ bs.length).heap[b]? = w.heap[b]? := by
      unfold World.freeze
      split
      · rfl
      · simp only [Array.getElem?_modify]; rw [if_neg hgb]; rfl
    rw [this, h1] at q1
    simp only [Option.some.injEq, Obj.cells.injEq] at q1
    have := q1.1
    simp at this
    exact this.symm
  subst e
  exact ⟨q1, q2, q3⟩

theorem else_freeze (w : World) (b g n : Nat) : Else b (some g) w (w.drew.freeze ⟨g, 0, none⟩ n) := by
  unfold World.freeze
  split
  · exact ⟨rfl, rfl, rfl, Nat.le_refl _, fun _ _ _ _ => rfl⟩
  · refine ⟨rfl, rfl, rfl, by simp, fun k _ _ hk => ?_⟩
    simp only [Array.getElem?_modify]
    rw [if_neg (fun e => hk (by simp [e]))]
    rfl

set_option maxHeartbeats 2000000 in
set_option maxRecDepth 100000 in
theorem string_full {T : TypeId} {b g cap : Nat} {p : Value} {l : List UInt8} {w : World} {cur : Array Value} {fz : Nat × Nat} (h0 : l ≠ []) (hbk : w.heap[b]? = some (.cells #[p, .slice (some ⟨g, 0, none⟩) l.length cap] T (0, 0)))
    (hown : w.ownsRowF 0 5 1 (.slice (some ⟨g, 0, none⟩) l.length cap) l.length (Lib.byteCells l)) (hg : w.heap[g]? = some (.cells cur 5 fz)) (hnc : l.length ≤ cap) (hcm : cap ≤ maxLen) (hcs : cur.size = cap * 1) :
    Calls Tryd.prog 37 #[.pointer (some ⟨b, 0, none⟩)] w fun e w' => e = .returned (.string ⟨l.toArray⟩) ∧ w' = w.drew.freeze ⟨g, 0, none⟩ l.length := by
  have hl0 : l.length ≠ 0 := by simpa using h0
  have c1 : w.drew.cell? ⟨b, 1, none⟩ = some (.slice (some ⟨g, 0, none⟩) l.length cap) := by
    have : w.drew.heap[b]? = some (.cells #[p, .slice (some ⟨g, 0, none⟩) l.length cap] T (0, 0)) := hbk
    rw [Lib.cell_of_heap this]; rfl
  have hSD : (Builtin.unsafeSliceData_ #[66] 83 #[.slice (some ⟨g, 0, none⟩) l.length cap]).run Tryd.prog w.drew = .ok (.pointer (some ⟨g, 0, none⟩)) w.drew :=
    Lib.run_unsafeSliceData_row _ _ _ _ _ _ (by omega)
  have hUS : (Builtin.unsafeString_ #[83, 3] 9 #[.pointer (some ⟨g, 0, none⟩), .int .i64 l.length]).run Tryd.prog w.drew = .ok (.string ⟨l.toArray⟩) (w.drew.freeze ⟨g, 0, none⟩ l.length) := by
    refine Lib.run_unsafeString_row w.drew 83 3 9 5 Tryd.underlying83 (by kernel_rfl) g cur.size (by have hg' : w.drew.heap[g]? = some (.cells cur 5 fz) := hg; simp [World.shape?, hg']) l h0 (by omega) (by unfold maxLen at hcm; omega) ?_
    intro j x hx
    exact hown.cells (g := g) rfl j (.int .u8 x.toNat) (by simp [Lib.byteCells, hx])
  clear hown hg hcs
  go_enter Tryd.func37, Tryd.ntmps37
  go_wp2
  go_region
  all_goals (go_wp2; go_ret; exact ⟨rfl, rfl⟩)

set_option maxHeartbeats 2000000 in
set_option maxRecDepth 100000 in
theorem string_nil {T : TypeId} {b : Nat} {p : Value} {w : World} (hbk : w.heap[b]? = some (.cells #[p, .slice none 0 0] T (0, 0))) :
    Calls Tryd.prog 37 #[.pointer (some ⟨b, 0, none⟩)] w fun e w' => e = .returned (.string ⟨#[]⟩) ∧ w' = w.drew := by
  have hUS := fun W q => Lib.run_unsafeString_none (P := Tryd.prog) W 83 3 9 q
  have c1 : w.drew.cell? ⟨b, 1, none⟩ = some (.slice none 0 0) := by
    have : w.drew.heap[b]? = some (.cells #[p, .slice none 0 0] T (0, 0)) := hbk
    rw [Lib.cell_of_heap this]; rfl
  have hSD : (Builtin.unsafeSliceData_ #[66] 83 #[.slice none 0 0]).run Tryd.prog w.drew = .ok (.pointer none) w.drew := rfl
  go_enter Tryd.func37, Tryd.ntmps37
  go_wp2
  go_region
  all_goals (go_wp2; go_ret; exact ⟨rfl, rfl⟩)

set_option maxHeartbeats 2000000 in
set_option maxRecDepth 100000 in
theorem string_room {T : TypeId} {b g cap : Nat} {p : Value} {w : World} (hc0 : cap ≠ 0) (hbk : w.heap[b]? = some (.cells #[p, .slice (some ⟨g, 0, none⟩) 0 cap] T (0, 0))) :
    Calls Tryd.prog 37 #[.pointer (some ⟨b, 0, none⟩)] w fun e w' => e = .returned (.string ⟨#[]⟩) ∧ w' = w.drew := by
  have hUS := fun W q => Lib.run_unsafeString_none (P := Tryd.prog) W 83 3 9 q
  have c1 : w.drew.cell? ⟨b, 1, none⟩ = some (.slice (some ⟨g, 0, none⟩) 0 cap) := by
    have : w.drew.heap[b]? = some (.cells #[p, .slice (some ⟨g, 0, none⟩) 0 cap] T (0, 0)) := hbk
    rw [Lib.cell_of_heap this]; rfl
  have hSD : (Builtin.unsafeSliceData_ #[66] 83 #[.slice (some ⟨g, 0, none⟩) 0 cap]).run Tryd.prog w.drew = .ok (.pointer (some ⟨g, 0, none⟩)) w.drew :=
    Lib.run_unsafeSliceData_row _ _ _ _ _ _ hc0
  clear hc0
  go_enter Tryd.func37, Tryd.ntmps37
  go_wp2
  go_region
  all_goals (go_wp2; go_ret; exact ⟨rfl, rfl⟩)

set_option maxHeartbeats 2000000 in
set_option maxRecDepth 100000 in
theorem string_noroom {T : TypeId} {b g : Nat} {p : Value} {w : World} {cur : Array Value} {fz : Nat × Nat} (hbk : w.heap[b]? = some (.cells #[p, .slice (some ⟨g, 0, none⟩) 0 0] T (0, 0))) (hg : w.heap[g]? = some (.cells cur 5 fz)) :
    Calls Tryd.prog 37 #[.pointer (some ⟨b, 0, none⟩)] w fun e w' => e = .returned (.string ⟨#[]⟩) ∧ w' = w.drew.alloc (.view ⟨g, 0, none⟩ 5) := by
  have hUS := fun W q => Lib.run_unsafeString_none (P := Tryd.prog) W 83 3 9 q
  have hlt : b < w.heap.size := by
    rcases Nat.lt_or_ge b w.heap.size with h' | h'
    · exact h'
    · simp [Array.getElem?_eq_none h'] at hbk
  have c1 : w.drew.cell? ⟨b, 1, none⟩ = some (.slice (some ⟨g, 0, none⟩) 0 0) := by
    have : w.drew.heap[b]? = some (.cells #[p, .slice (some ⟨g, 0, none⟩) 0 0] T (0, 0)) := hbk
    rw [Lib.cell_of_heap this]; rfl
  have hSD : (Builtin.unsafeSliceData_ #[66] 83 #[.slice (some ⟨g, 0, none⟩) 0 0]).run Tryd.prog w.drew = .ok (.pointer (some ⟨w.drew.heap.size, 0, none⟩)) (w.drew.alloc (.view ⟨g, 0, none⟩ 5)) :=
    Lib.run_unsafeSliceData_zero w.drew _ _ 5 Tryd.underlying83 ⟨g, 0, none⟩ 0 (5, cur.size) (by have hg' : w.drew.heap[g]? = some (.cells cur 5 fz) := hg; simp [World.shape?, hg'])
  have c2 : (w.drew.alloc (.view ⟨g, 0, none⟩ 5)).cell? ⟨b, 1, none⟩ = some (.slice (some ⟨g, 0, none⟩) 0 0) := by
    have : (w.drew.alloc (.view ⟨g, 0, none⟩ 5)).heap[b]? = _ := (Lib.alloc_old w.drew _ b hlt).trans hbk
    rw [Lib.cell_of_heap this]; rfl
  have c3 : (w.alloc (.view ⟨g, 0, none⟩ 5)).drew.cell? ⟨b, 1, none⟩ = some (.slice (some ⟨g, 0, none⟩) 0 0) := c2
  have c0 : w.cell? ⟨b, 1, none⟩ = some (.slice (some ⟨g, 0, none⟩) 0 0) := c1
  go_enter Tryd.func37, Tryd.ntmps37
  go_wp2
  go_region
  all_goals (go_wp2; go_ret; exact ⟨rfl, rfl⟩)

theorem string_any {T : TypeId} {b : Nat} {p v : Value} {bs : List UInt8} {w : World} (h : BAt T b p v bs w) :
    Calls Tryd.prog 37 #[.pointer (some ⟨b, 0, none⟩)] w fun e w' => e = .returned (.string ⟨bs.toArray⟩) ∧ BAt T b p v bs w' ∧ Else b v.ownBlock w w' := by
  have h' := h
  obtain ⟨hbk, hown, hne⟩ := h
  rcases hown.2 with ⟨rfl, hz⟩ | ⟨g, cap, cur, fz, rfl, hbg, hg, hfz, hnc, hcm, hcs, htake⟩
  · have hb0 : bs = [] := by simpa using hz
    subst hb0
    refine (string_nil hbk).mono ?_
    rintro e w' ⟨rfl, rfl⟩
    exact ⟨rfl, h', rfl, rfl, rfl, Nat.le_refl _, fun _ _ _ _ => rfl⟩
  · by_cases h0 : bs = []
    · subst h0
      by_cases hc : cap = 0
      · subst hc
        refine (string_noroom hbk hg).mono ?_
        rintro e w' ⟨rfl, rfl⟩
        have hlt : b < w.heap.size := (Array.getElem?_eq_some_iff.1 hbk).1
        refine ⟨rfl, ⟨(heap_alloc_old w.drew _ b hlt).trans hbk, World.ownsRowF.kept (w := w.drew) hown (World.grownBy_alloc w.drew _ none) (by simp [Value.ownBlock]), hne⟩, rfl, rfl, rfl, by simp, fun k hk _ _ => heap_alloc_old w.drew _ k hk⟩
      · refine (string_room hc hbk).mono ?_
        rintro e w' ⟨rfl, rfl⟩
        exact ⟨rfl, h', rfl, rfl, rfl, Nat.le_refl _, fun _ _ _ _ => rfl⟩
    · refine (string_full h0 hbk hown hg hnc hcm hcs).mono ?_
      rintro e w' ⟨rfl, rfl⟩
      exact ⟨rfl, h'.frz, else_freeze w b g _⟩

theorem byteCells_eq (bs : List UInt8) : Lib.byteCells bs = bs.map fun b => Value.int .u8 b.toNat := rfl

theorem BldRep.bat {D : Dom} {w : World} {ow : Own} {μ : Nat → Nat} {k : Nat} {T : TypeId} {bs : List UInt8} (hT : bldElem Tryd.prog 3 T = 5) (h : BldRep Tryd.prog D w ow μ k T bs) :
    ∃ p v, (p = .pointer none ∨ p = .pointer (some ⟨μ k, 0, none⟩)) ∧ BAt T (μ k) p v bs w ∧ ow (μ k) = some k ∧ (∀ o, ¬ D (μ k) o) ∧ ∀ g, v.ownBlock = some g → ow g = some k ∧ ∀ o, ¬ D g o := by
  obtain ⟨p, v, h1, h2, h3, h4, h5⟩ := h
  rw [hT] at h5
  rcases h5 with ⟨rfl, rfl⟩ | ⟨g, cap, cur, fz, rfl, a2, a4, a5, a6, a7, a8, a9, a10, a11⟩
  · exact ⟨p, _, h2, ⟨h1, ⟨by simp [Lib.byteCells], Or.inl ⟨rfl, rfl⟩⟩, by simp [Value.ownBlock]⟩, h3, h4, fun g hg => by simp [Value.ownBlock] at hg⟩
  · refine ⟨p, _, h2, ⟨h1, ⟨by simp [Lib.byteCells], Or.inr ⟨g, cap, cur, fz, rfl, Nat.zero_le _, a2, by omega, a5, a6, by omega, ?_⟩⟩, by simp [Value.ownBlock, a9]⟩, h3, h4, fun g' hg => ?_⟩
    · rw [Nat.mul_one]; exact a8
    · simp [Value.ownBlock] at hg; subst hg; exact ⟨a10, a11⟩

theorem BAt.rep {D : Dom} {w : World} {ow : Own} {μ : Nat → Nat} {k : Nat} {T : TypeId} {bs : List UInt8} {p v : Value} (hT : bldElem Tryd.prog 3 T = 5) (hp : p = .pointer none ∨ p = .pointer (some ⟨μ k, 0, none⟩)) (h : BAt T (μ k) p v bs w) (h3 : ow (μ k) = some k) (h4 : ∀ o, ¬ D (μ k) o)
    (h5 : ∀ g, v.ownBlock = some g → ow g = some k ∧ ∀ o, ¬ D g o) : BldRep Tryd.prog D w ow μ k T bs := by
  obtain ⟨q1, q2, q3⟩ := h
  refine ⟨p, v, q1, hp, h3, h4, ?_⟩
  rw [hT]
  rcases q2.2 with ⟨rfl, hz⟩ | ⟨g, cap, cur, fz, rfl, _, a2, a4, a5, a6, a7, a8⟩
  · exact Or.inl ⟨rfl, by simpa using hz⟩
  · obtain ⟨r1, r2⟩ := h5 g rfl
    exact Or.inr ⟨g, cap, cur, fz, rfl, a2, by omega, a5, a6, by omega, by rw [Nat.mul_one] at a8; exact a8, fun e => q3 (by simp [Value.ownBlock, e]), r1, r2⟩

/-- What a call does that touches one builder and nothing else. -/
theorem bld_post {D : Dom} {w w' : World} {ow : Own} {μ : Nat → Nat} {T : TypeId} {bs bs' : List UInt8} {asv : List SV} {vals : Array Value} {rs : List SV} {r p' v v' : Value} (hT : bldElem Tryd.prog 3 T = 5) (pre : Pre Tryd.prog D ow μ [.bld T bs] w asv vals)
    (hres : Closed Tryd.prog D w' (resSV rs) r) (hv : ∀ g, v.ownBlock = some g → ow g = some 0) (hp : p' = .pointer none ∨ p' = .pointer (some ⟨μ 0, 0, none⟩)) (h : BAt T (μ 0) p' v' bs' w') (he : Else (μ 0) v.ownBlock w w') (hg : ∀ g, v'.ownBlock = some g → v.ownBlock = some g ∨ w.heap.size ≤ g) :
    Post Tryd.prog D w ow μ [.bld T bs] rs [.bld T bs'] r D w' := by
  have h0 := pre.objs.obj 0 _ rfl
  obtain ⟨p, v0, hp0, hat, hom, hDm, _⟩ := BldRep.bat hT h0
  have hlt' : μ 0 < w'.heap.size := (Array.getElem?_eq_some_iff.1 h.1).1
  have gsz : ∀ g, v'.ownBlock = some g → g < w'.heap.size := fun g hg => (h.2.1.lt g hg).2
  have lone : ∀ b, ow b = some 0 → ∀ o, ¬ D b o := fun b ob o d => pre.objs.lone b 0 _ ob rfl (by simp) o d
  have old : ∀ b, b < w.heap.size → ow b = none → w'.heap[b]? = w.heap[b]? := fun b hb hn => he.block b hb (fun e => by rw [e, hom] at hn; cases hn) (fun e => by
    have := hv b e.symm
    rw [hn] at this; cases this)
  have noOwn : ∀ b o, D b o → ow b = none := fun b o d => by
    cases hb : ow b with
    | none => rfl
    | some k =>
      have hk := (pre.objs.owlt b k hb).2
      have : k = 0 := by simp at hk; omega
      subst this
      exact absurd d (lone b hb o)
  have own0 : ∀ b, (b = μ 0 ∨ v'.ownBlock = some b) → ∀ o, ¬ D b o := fun b hc o d => by
    rcases hc with rfl | hc
    · exact hDm o d
    · rcases hg b hc with h1 | h1
      · exact lone b (hv b h1) o d
      · have := pre.dlt b o d; omega
  refine ⟨fun _ _ d => d, fun _ _ d => Or.inl d, ⟨fun b => if b = μ 0 ∨ v'.ownBlock = some b then some 0 else none, μ, ⟨fun k b hk => ?_, fun b k hb => ?_, fun b o d => Nat.lt_of_lt_of_le (pre.dlt b o d) he.size, fun b k x hb _ _ o d => ?_⟩, (resRep_of (hres _ _ _)).1, fun b k hb hlt => ?_, fun k b hk => ?_, fun k E g xs ys hk => ?_⟩, he.os, he.tape, he.output, he.size, old, Keeps.of_heap fun b o d => old b (pre.dlt b o d) (noOwn b o d)⟩
  · cases k with
    | zero =>
      cases hk
      exact BAt.rep (ow := fun b => if b = μ 0 ∨ v'.ownBlock = some b then some 0 else none) hT hp h (if_pos (Or.inl rfl)) hDm (fun g hg' => ⟨if_pos (Or.inr hg'), own0 g (Or.inr hg')⟩)
    | succ k => simp at hk
  · split at hb
    · rename_i hc
      cases hb
      refine ⟨?_, by simp⟩
      rcases hc with rfl | hc
      · exact hlt'
      · exact gsz b hc
    · cases hb
  · split at hb
    · rename_i hc; exact own0 b hc o d
    · cases hb
  · split at hb
    · rename_i hc
      cases hb
      rcases hc with rfl | hc
      · exact hom
      · rcases hg b hc with h1 | h1
        · exact hv b h1
        · omega
    · cases hb
  · cases k with
    | zero => cases hk; exact ⟨_, rfl, rfl, fun _ _ => rfl⟩
    | succ k => simp at hk
  · cases k with
    | zero => cases hk
    | succ k => simp at hk

/-- The types of builders here. -/
def BldOk (T : TypeId) : Prop := bldElem Tryd.prog 3 T = 5 ∧ T ≠ 5 ∧ liesAt Tryd.prog Tryd.prog.depth T (2 / Tryd.prog.cellsOf T) 0 68 1 = true

theorem writeString_meets {T : TypeId} (hT : BldOk T) (bs s : List UInt8) (hlen : bs.length + s.length ≤ 140737488355328) : Meets Tryd.prog 36 [.bref 0 68, .str s] [.bld T bs] [.int .i64 s.length, .raw .nilIface] [.bld T (bs ++ s)] := by
  refine ⟨canEnter_of Tryd.func36 (by kernel_rfl) (by kernel_rfl), fun D ow μ w vals pre => ?_⟩
  have h0 := pre.objs.obj 0 _ rfl
  obtain ⟨p, v, hp, hat, hom, hDm, hv⟩ := BldRep.bat hT.1 h0
  obtain ⟨v0, v1, rfl⟩ : ∃ v0 v1, vals = #[v0, v1] := by
    have := pre.size
    match vals, this with
    | ⟨[a, b]⟩, _ => exact ⟨a, b, rfl⟩
  have a0 := pre.arg 0 _ v0 rfl rfl
  have a1 := pre.arg 1 _ v1 rfl rfl
  cases a0; cases a1
  refine (writeString_any hT.2.2 hp hat hT.2.1 ⟨s.toArray⟩ (by simpa [ByteArray.size] using hlen)).mono fun e w' he => ?_
  obtain ⟨rfl, v', h1, h2, h3⟩ := he
  refine ⟨_, D, rfl, bld_post hT.1 pre ?_ (fun g hg => (hv g hg).1) (Or.inr rfl) h1 h2 h3⟩
  intro ow' μ' st'
  refine .tup rfl (fun i s' u hi hu => ?_)
  match i, hi, hu with
  | 0, hi, hu => cases hi; cases hu; exact .int
  | 1, hi, hu => cases hi; cases hu; exact .raw

theorem string_meets {T : TypeId} (hT : BldOk T) (bs : List UInt8) : Meets Tryd.prog 37 [.bref 0 68] [.bld T bs] [.str bs] [.bld T bs] := by
  refine ⟨canEnter_of Tryd.func37 (by kernel_rfl) (by kernel_rfl), fun D ow μ w vals pre => ?_⟩
  have h0 := pre.objs.obj 0 _ rfl
  obtain ⟨p, v, hp, hat, hom, hDm, hv⟩ := BldRep.bat hT.1 h0
  obtain ⟨v0, rfl⟩ : ∃ v0, vals = #[v0] := by
    have := pre.size
    match vals, this with
    | ⟨[a]⟩, _ => exact ⟨a, rfl⟩
  have a0 := pre.arg 0 _ v0 rfl rfl
  cases a0
  refine (string_any hat).mono fun e w' he => ?_
  obtain ⟨rfl, h1, h2⟩ := he
  refine ⟨_, D, rfl, bld_post hT.1 pre ?_ (fun g hg => (hv g hg).1) hp h1 h2 (fun g hg => Or.inl hg)⟩
  intro ow' μ' st'
  exact .str

set_option maxHeartbeats 1000000 in
theorem len_any {T : TypeId} {b : Nat} {p v : Value} {bs : List UInt8} {w : World} (h : BAt T b p v bs w) :
    Calls Tryd.prog 57 #[.pointer (some ⟨b, 0, none⟩)] w fun e w' => e = .returned (.int .i64 bs.length) ∧ w' = w := by
  obtain ⟨hbk, hown, hne⟩ := h
  obtain ⟨ao, cap, rfl⟩ : ∃ ao cap, v = .slice ao bs.length cap := by
    rcases hown.2 with ⟨hv, h0⟩ | ⟨g, cap, cur, fz, hv, _⟩
    · exact ⟨none, 0, by rw [hv, h0]⟩
    · exact ⟨_, _, hv⟩
  have c1 : w.cell? ⟨b, 1, none⟩ = some (.slice ao bs.length cap) := by rw [Lib.cell_of_heap hbk]; rfl
  clear hown hne
  go_enter Tryd.func57, Tryd.ntmps57
  go_wp2
  go_ret
  exact ⟨rfl, rfl⟩

theorem len_meets {T : TypeId} (hT : BldOk T) (bs : List UInt8) : Meets Tryd.prog 57 [.bref 0 68] [.bld T bs] [.int .i64 bs.length] [.bld T bs] := by
  refine ⟨canEnter_of Tryd.func57 (by kernel_rfl) (by kernel_rfl), fun D ow μ w vals pre => ?_⟩
  have h0 := pre.objs.obj 0 _ rfl
  obtain ⟨p, v, hp, hat, hom, hDm, hv⟩ := BldRep.bat hT.1 h0
  obtain ⟨v0, rfl⟩ : ∃ v0, vals = #[v0] := by
    have := pre.size
    match vals, this with
    | ⟨[a]⟩, _ => exact ⟨a, rfl⟩
  have a0 := pre.arg 0 _ v0 rfl rfl
  cases a0
  refine (len_any hat).mono fun e w' he => ?_
  obtain ⟨rfl, rfl⟩ := he
  refine ⟨_, D, rfl, bld_post hT.1 pre ?_ (fun g hg => (hv g hg).1) hp hat ⟨rfl, rfl, rfl, Nat.le_refl _, fun _ _ _ _ => rfl⟩ (fun g hg => Or.inl hg)⟩
  intro ow' μ' st'
  exact .int
end Go.Ab
