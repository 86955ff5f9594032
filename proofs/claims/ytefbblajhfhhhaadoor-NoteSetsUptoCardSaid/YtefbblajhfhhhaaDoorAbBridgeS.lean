/- From the form's readings to plain data. -/
import Derived.Test.YtefbblajhfhhhaaDoorAbLoop
import Derived.Test.YtefbblajhfhhhaaDoorRows
import Derived.Lib.LaidTab
import Derived.ChangeShapes
set_option linter.unusedVariables false
set_option linter.unusedSimpArgs false
set_option linter.unnecessarySimpa false
namespace Go.Ab
open Go Go.Proofs Go.Proofs.YtefbblajhfhhhaaDoor

/-- Types of plain data, each with those of its parts. -/
def plainOne (P : Program) (S : List TypeId) (T : TypeId) : Bool :=
  match P.underlying T with
  | some .bool | some (.int _) | some .string => true
  | some (.slice E) => S.any (Nat.beq E) && !(Nat.beq (P.cellsOf E) 0)
  | some (.struct fs) => layoutOk P T && fs.toList.all fun f => S.any (Nat.beq f.type)
  | _ => false
def plainSet (P : Program) (S : List TypeId) : Bool := S.all (plainOne P S)
theorem plainSet_mem {P : Program} {S : List TypeId} (h : plainSet P S = true) {T : TypeId} (hT : S.any (Nat.beq T) = true) : plainOne P S T = true := by
  obtain ⟨x, hx, he⟩ := List.any_eq_true.1 hT
  have := Nat.eq_of_beq_eq_true he; subst this
  exact List.all_eq_true.1 h _ hx

/- How much a datum holds. -/
mutual
def bulkPV : PV → Nat
  | .str s => s.length + 1
  | .slice xs => bulkPVs xs + 1
  | .agg xs => bulkPVs xs + 1
  | _ => 1
def bulkPVs : List PV → Nat
  | [] => 0
  | x :: r => bulkPV x + bulkPVs r
end
theorem bulkPV_pos (v : PV) : 1 ≤ bulkPV v := by cases v <;> simp [bulkPV]
theorem bulkPVs_mem : ∀ {xs : List PV} {x : PV}, x ∈ xs → bulkPV x ≤ bulkPVs xs := by
  intro xs
  induction xs with
  | nil => intro x h; cases h
  | cons y r ih =>
    intro x h
    simp only [bulkPVs]
    rcases List.mem_cons.1 h with rfl | h
    · omega
    · have := ih h; omega
theorem bulkPVs_length (xs : List PV) : xs.length ≤ bulkPVs xs := by
  induction xs with
  | nil => simp
  | cons y r ih => have := bulkPV_pos y; simp only [bulkPVs, List.length_cons]; omega

/-- A datum of a type: numbers lie within their kinds. -/
def goodPV (P : Program) : Nat → TypeId → PV → Prop
  | 0, _, _ => False
  | n + 1, T, v =>
    match P.underlying T with
    | some .bool => ∃ b, v = .bool b
    | some (.int k) => ∃ m, v = .int m ∧ (Lit.int k m).wf = true
    | some .string => ∃ s, v = .str s
    | some (.slice E) => ∃ xs, v = .slice xs ∧ ∀ x, x ∈ xs → goodPV P n E x
    | some (.struct fs) => ∃ vs, v = .agg vs ∧ vs.length = fs.size ∧ ∀ (i : Nat) (x : PV) (f : Field), vs[i]? = some x → fs[i]? = some f → goodPV P n f.type x
    | _ => True

/-- The cells from a place on. -/
def cellsFrom (w : World) (b off n : Nat) : List Value := (List.range n).map fun j => (w.cell? ⟨b, off + j, none⟩).getD Go.undef
theorem cellsFrom_length (w : World) (b off n : Nat) : (cellsFrom w b off n).length = n := by simp [cellsFrom]
theorem cellsFrom_get {w : World} {b off n j : Nat} {v : Value} (hj : j < n) (h : w.cell? ⟨b, off + j, none⟩ = some v) : (cellsFrom w b off n)[j]? = some v := by
  simp [cellsFrom, hj, h]

theorem addr_plus (a : Addr) (n : Nat) (h : a.spot = none) : a.add n = ⟨a.block, a.off + n, none⟩ := by
  unfold Addr.add
  split
  · rename_i h0; subst h0; cases a; simp at h; subst h; rfl
  · rfl

theorem cells?_get {w : World} {base : Nat} {a : Addr} {n : Nat} {cs : List Value} (h : w.cells? base a n = some cs) : cs.length = n ∧ ∀ i, i < n → ∃ v, cs[i]? = some v ∧ w.cell? (a.add i) = some v := by
  unfold World.cells? at h
  split at h
  · refine ⟨by simpa using Lib.mapM_length h, fun i hi => ?_⟩
    exact Lib.mapM_at h i i (by simp [hi])
  · cases h

section
variable {H : Type} {enc : TypeId × Value → H} {P : Program} {w : World} {S : List TypeId}

theorem mapM_parts {α : Type} {f : α → Option (DataW H × List MemPlace)} {l : List α} {xs : List (DataW H × List MemPlace)} (h : l.mapM f = some xs) {g : PV → Nat → Prop}
    (hp : ∀ (i : Nat) (a : α) (d : DataW H × List MemPlace), l[i]? = some a → xs[i]? = some d → f a = some d → ∃ v, g v i ∧ bulkPV v ≤ Rows.uptoBulk d.1) :
    ∃ vs : List PV, vs.length = l.length ∧ (∀ (i : Nat) (v : PV), vs[i]? = some v → g v i) ∧ bulkPVs vs ≤ Rows.uptoBulkAll (xs.map (·.1)) := by
  induction l generalizing xs g with
  | nil =>
    simp at h; subst h
    exact ⟨[], rfl, fun i v hi => by simp at hi, by simp [bulkPVs, Rows.uptoBulkAll]⟩
  | cons a r ih =>
    rw [List.mapM_cons] at h
    simp only [Option.bind_eq_bind, Option.bind_eq_some_iff, Option.pure_def, Option.some.injEq] at h
    obtain ⟨y, hy, ys, hys, rfl⟩ := h
    obtain ⟨v, hv, hb⟩ := hp 0 a y rfl rfl hy
    obtain ⟨vs, h1, h2, h3⟩ := ih (g := fun v i => g v (i + 1)) hys (fun i a d ha hd hf => hp (i + 1) a d (by simpa using ha) (by simpa using hd) hf)
    refine ⟨v :: vs, by simp [h1], fun i u hi => ?_, ?_⟩
    · cases i with
      | zero => simp at hi; subst hi; exact hv
      | succ i => exact h2 i u (by simpa using hi)
    · simp only [bulkPVs, List.map_cons, Rows.uptoBulkAll]; omega

theorem trod_rep (hS : plainSet P S = true) : ∀ (fuel : Nat) (T : TypeId) (cs : List Value) (d : DataW H) (ps : List MemPlace), S.any (Nat.beq T) = true → DataW.trod enc P w 0 (fun _ => true) true fuel T cs = some (d, ps) →
    ∃ v, (Rep P (fun b _ => b < w.heap.size) w T v cs ∧ goodPV P fuel T v) ∧ bulkPV v ≤ Rows.uptoBulk d := by
  intro fuel
  induction fuel with
  | zero => intro T cs d ps _ h; simp [DataW.trod] at h
  | succ fuel ih =>
    intro T cs d ps hT h
    have hp := plainSet_mem hS hT
    unfold plainOne at hp
    split at hp
    · rename_i hu
      simp only [DataW.trod, hu] at h
      split at h <;> simp_all
      obtain ⟨rfl, rfl⟩ := h
      exact ⟨_, ⟨.bool hu, by simp [goodPV, hu]⟩, by simp [bulkPV, Rows.uptoBulk]⟩
    · rename_i k hu
      simp only [DataW.trod, hu] at h
      split at h <;> simp_all
      obtain ⟨⟨rfl, hw⟩, rfl, rfl⟩ := h
      exact ⟨_, ⟨.int hu, by simp [goodPV, hu, hw]⟩, by simp [bulkPV, Rows.uptoBulk]⟩
    · rename_i hu
      simp only [DataW.trod, hu] at h
      split at h <;> simp_all
      rename_i s
      obtain ⟨_, rfl, rfl⟩ := h
      refine ⟨.str s.data.toList, ⟨?_, by simp [goodPV, hu]⟩, by simp [bulkPV, Rows.uptoBulk]⟩
      have := Rep.str (P := P) (D := fun b _ => b < w.heap.size) (w := w) (T := T) (s := s.data.toList) hu
      simpa using this
    · rename_i E hu
      simp only [Bool.and_eq_true, Bool.not_eq_true'] at hp
      obtain ⟨hE, hc0⟩ := hp
      have hc : P.cellsOf E ≠ 0 := fun e => by rw [e] at hc0; cases hc0
      simp only [DataW.trod, hu] at h
      split at h
      · cases ‹some (TypeDesc.slice E) = some _›
      · cases ‹some (TypeDesc.slice E) = some _›
      · cases ‹some (TypeDesc.slice E) = some _›
      · cases ‹some (TypeDesc.slice E) = some _›
      · cases ‹some (TypeDesc.slice E) = some _›
      · cases ‹some (TypeDesc.slice E) = some _›
      · simp only [Option.some.injEq, Prod.mk.injEq] at h
        obtain ⟨rfl, rfl⟩ := h
        exact ⟨.slice [], ⟨.nil hu fun _ => rfl, by simp [goodPV, hu]⟩, by simp [bulkPV, bulkPVs, Rows.uptoBulk]⟩
      · rename_i E' a len cap he
        cases he
        split at h
        · rename_i hr
          obtain ⟨_, hlc, hcm⟩ := hr
          simp only [if_true, Option.bind_eq_some_iff, Option.map_eq_some_iff] at h
          obtain ⟨elems, h1, rest, h2, h3⟩ := h
          simp only [Prod.mk.injEq] at h3
          obtain ⟨rfl, _⟩ := h3
          obtain ⟨vs, g1, g2, g3⟩ := mapM_parts (g := fun v i => i < len → (∃ ds cs, w.cells? 0 (a.add (i * P.cellsOf E)) (P.cellsOf E) = some cs ∧ Rep P (fun b _ => b < w.heap.size) w E v cs ∧ goodPV P fuel E v ∧ ds = cs)) h1 (fun i j dd hj hd hf => by
            simp only [Option.bind_eq_some_iff] at hf
            obtain ⟨cs', hcs, ht⟩ := hf
            obtain ⟨v, ⟨q1, q2⟩, q3⟩ := ih E cs' dd.1 dd.2 hE ht
            have hji : j = i := by
              have hlt := (List.getElem?_eq_some_iff.1 hj).1
              simp at hlt
              simp [hlt] at hj; exact hj.symm
            subst hji
            exact ⟨v, fun _ => ⟨cs', cs', hcs, q1, q2, rfl⟩, q3⟩)
          have hlen : vs.length = len := by simpa using g1
          refine ⟨.slice vs, ⟨?_, ?_⟩, ?_⟩
          · by_cases h0 : len = 0
            · subst h0
              have : vs = [] := List.eq_nil_of_length_eq_zero hlen
              subst this
              exact .nil hu (fun e => by cases e)
            · have hsp : a.spot = none := by
                obtain ⟨_, cs', hcs, _⟩ := g2 0 vs[0] (List.getElem?_eq_getElem (by omega)) (by omega)
                obtain ⟨_, hg⟩ := cells?_get hcs
                obtain ⟨v, _, hv⟩ := hg 0 (by omega)
                simp only [Nat.zero_mul, Addr.add, if_true] at hv
                unfold World.cell? at hv
                split at hv
                · split at hv
                  · cases hv
                  · rename_i hs; simpa using hs
                · cases hv
              have hcell : ∀ i, i < len → ∀ j, j < P.cellsOf E → ∃ v, w.cell? ⟨a.block, a.off + (i * P.cellsOf E + j), none⟩ = some v := by
                intro i hi j hj
                obtain ⟨_, cs', hcs, _⟩ := g2 i vs[i] (List.getElem?_eq_getElem (by omega)) hi
                obtain ⟨_, hg⟩ := cells?_get hcs
                obtain ⟨v, _, hv⟩ := hg j hj
                rw [addr_plus a _ hsp, addr_plus _ _ rfl] at hv
                exact ⟨v, by simpa [Nat.add_assoc] using hv⟩
              have hpos : 0 < P.cellsOf E := Nat.pos_of_ne_zero hc
              have hall : ∀ j, j < len * P.cellsOf E → ∃ v, w.cell? ⟨a.block, a.off + j, none⟩ = some v := by
                intro j hj
                have h1 : j / P.cellsOf E < len := (Nat.div_lt_iff_lt_mul hpos).2 hj
                obtain ⟨v, hv⟩ := hcell _ h1 (j % P.cellsOf E) (Nat.mod_lt _ hpos)
                have e := Nat.div_add_mod j (P.cellsOf E)
                rw [Nat.mul_comm] at e
                rw [e] at hv
                exact ⟨v, hv⟩
              have hea : a = ⟨a.block, a.off, none⟩ := by cases a; simp at hsp; subst hsp; rfl
              have hmk : Rep P (fun b _ => b < w.heap.size) w T (.slice vs) [.slice (some ⟨a.block, a.off, none⟩) vs.length cap] := by
                refine .slice (L := cellsFrom w a.block a.off (len * P.cellsOf E)) hu (by omega) (by rw [cellsFrom_length, hlen]) (fun i x hx => ?_) (fun j v hj => ?_)
                · have hi : i < len := by have := (List.getElem?_eq_some_iff.1 hx).1; omega
                  obtain ⟨_, cs', hcs, q1, _⟩ := g2 i x hx hi
                  obtain ⟨hl', hg⟩ := cells?_get hcs
                  have : ((cellsFrom w a.block a.off (len * P.cellsOf E)).drop (i * P.cellsOf E)).take (P.cellsOf E) = cs' := by
                    apply List.ext_getElem?
                    intro j
                    by_cases hj : j < P.cellsOf E
                    · obtain ⟨v, hv1, hv2⟩ := hg j hj
                      rw [addr_plus a _ hsp, addr_plus _ _ rfl] at hv2
                      have hb : i * P.cellsOf E + j < len * P.cellsOf E := by
                        have := Nat.mul_le_mul_right (P.cellsOf E) (show i + 1 ≤ len by omega)
                        rw [Nat.add_mul] at this; omega
                      rw [List.getElem?_take_of_lt hj, List.getElem?_drop, hv1]
                      exact cellsFrom_get hb (by simpa [Nat.add_assoc] using hv2)
                    · rw [List.getElem?_eq_none (by simp; omega), List.getElem?_eq_none (by omega)]
                  rw [this]
                  exact q1
                · have hjl := (List.getElem?_eq_some_iff.1 hj).1
                  rw [cellsFrom_length] at hjl
                  obtain ⟨v', hv'⟩ := hall j hjl
                  have := cellsFrom_get hjl hv'
                  rw [hj] at this; cases this
                  refine ⟨?_, hv'⟩
                  show a.block < w.heap.size
                  rcases Nat.lt_or_ge a.block w.heap.size with h' | h'
                  · exact h'
                  · simp [World.cell?, Array.getElem?_eq_none h'] at hv'
              rw [hlen, ← hea] at hmk
              exact hmk
          · simp only [goodPV, hu, PV.slice.injEq, exists_eq_left']
            intro x hx
            obtain ⟨i, hi⟩ := List.mem_iff_getElem?.1 hx
            have hil : i < len := by have := (List.getElem?_eq_some_iff.1 hi).1; omega
            obtain ⟨_, _, _, _, q2, _⟩ := g2 i x hi hil
            exact q2
          · simp only [bulkPV, Rows.uptoBulk]; omega
        · cases h
      all_goals first | (cases h; done) | cases ‹some (TypeDesc.slice E) = some _›
    · rename_i fs hu
      simp only [Bool.and_eq_true] at hp
      obtain ⟨hlay, hfs⟩ := hp
      have L := layoutOk_spec hlay hu
      have hstep : (if cs.length = P.cellsOf T then (fs.toList.mapM fun f => DataW.trod enc P w 0 (fun _ => true) true fuel f.type ((cs.drop f.offset).take (P.cellsOf f.type))).map fun xs => (DataW.agg (xs.map (·.1)), xs.flatMap (·.2)) else none) = some (d, ps) := by
        rw [← h]
        simp only [DataW.trod, hu]
      split at hstep
      · rename_i hlen
        simp only [Option.map_eq_some_iff, Prod.mk.injEq] at hstep
        obtain ⟨xs, h1, rfl, _⟩ := hstep
        obtain ⟨vs, g1, g2, g3⟩ := mapM_parts (g := fun v i => ∀ f, fs[i]? = some f → Rep P (fun b _ => b < w.heap.size) w f.type v ((cs.drop f.offset).take (P.cellsOf f.type)) ∧ goodPV P fuel f.type v) h1 (fun i f dd hf hd ht => by
          have hmem : f ∈ fs.toList := List.mem_of_getElem? hf
          obtain ⟨v, q1, q2⟩ := ih f.type _ dd.1 dd.2 (List.all_eq_true.1 hfs f hmem) ht
          refine ⟨v, fun f' hf' => ?_, q2⟩
          have : f' = f := by
            rw [Array.getElem?_toList] at hf
            rw [hf'] at hf; cases hf; rfl
          subst this
          exact q1)
        refine ⟨.agg vs, ⟨.agg hu hlen ?_ (by simpa using g1) (fun i v f hv hf => (g2 i v hv f hf).1), ?_⟩, by simp only [bulkPV, Rows.uptoBulk]; omega⟩
        · refine L.oneCell hlen (fun i f hf => ?_)
          have hi : i < vs.length := by rw [g1, Array.length_toList]; exact (Array.getElem?_eq_some_iff.1 hf).1
          exact ((g2 i _ (List.getElem?_eq_getElem hi) f hf).1).oneCell
        · simp only [goodPV, hu, PV.agg.injEq, exists_eq_left']
          exact ⟨by simpa using g1, fun i x f hx hf => (g2 i x hx f hf).2⟩
      · cases hstep
    · cases hp
end
/- Opening what is known of a datum. -/
theorem good_struct {P : Program} {n : Nat} {T : TypeId} {v : PV} {fs : Array Field} (h : goodPV P n T v) (hu : P.underlying T = some (.struct fs)) :
    ∃ vs m, v = .agg vs ∧ vs.length = fs.size ∧ ∀ (i : Nat) (x : PV) (f : Field), vs[i]? = some x → fs[i]? = some f → goodPV P m f.type x := by
  cases n with
  | zero => cases h
  | succ n =>
    simp only [goodPV, hu] at h
    obtain ⟨vs, h1, h2, h3⟩ := h
    exact ⟨vs, n, h1, h2, h3⟩
theorem good_slice {P : Program} {n : Nat} {T E : TypeId} {v : PV} (h : goodPV P n T v) (hu : P.underlying T = some (.slice E)) : ∃ xs m, v = .slice xs ∧ ∀ x, x ∈ xs → goodPV P m E x := by
  cases n with
  | zero => cases h
  | succ n =>
    simp only [goodPV, hu] at h
    obtain ⟨xs, h1, h2⟩ := h
    exact ⟨xs, n, h1, h2⟩
theorem good_int {P : Program} {n : Nat} {T : TypeId} {k : IntKind} {v : PV} (h : goodPV P n T v) (hu : P.underlying T = some (.int k)) : ∃ m, v = .int m ∧ (Lit.int k m).wf = true := by
  cases n with
  | zero => cases h
  | succ n => simpa only [goodPV, hu] using h
theorem bulk_list (v : PV) : v.asList.length + 1 ≤ bulkPV v := by
  cases v with
  | slice xs => have := bulkPVs_length xs; simp [PV.asList, bulkPV]; omega
  | _ => have := bulkPV_pos; simp [PV.asList, bulkPV]
theorem bulk_str (v : PV) : v.asStr.length + 1 ≤ bulkPV v := by
  cases v <;> simp [PV.asStr, bulkPV]
end Go.Ab
