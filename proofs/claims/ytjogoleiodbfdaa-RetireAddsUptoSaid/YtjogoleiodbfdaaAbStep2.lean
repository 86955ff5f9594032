/- Operations that write; calls. -/
import Derived.Test.YtjogoleiodbfdaaAbIter
import Derived.Test.YtjogoleiodbfdaaAbStep
set_option linter.unusedVariables false
set_option linter.unusedSimpArgs false
set_option linter.unnecessarySimpa false
namespace Go.Ab
open Go

section
variable {Γ : Ctx} {D : Dom} {ow : Own} {μ : Nat → Nat} {st : List BX} {w : World} {η : Operand → Value} {ρ ρt ρf : Operand → SV}

def NotUpd (x : Ac) : Prop := ∀ c v s, x ≠ .upd c v s
def NotCall (x : Ac) : Prop := ∀ f as, x ≠ .call f as
theorem notUpd_val {c : Bool} {v : SV} : NotUpd (.val c v) := fun _ _ _ h => by cases h
theorem notUpd_fail : NotUpd .fail := fun _ _ _ h => by cases h
theorem intAc_nu (op : BinOp) (k : IntKind) (x y : Int) : NotUpd (intAc op k x y) := by cases op <;> first | exact notUpd_val | exact notUpd_fail
theorem strAc_nu (op : BinOp) (x y : List UInt8) : NotUpd (strAc op x y) := by cases op <;> first | exact notUpd_val | exact notUpd_fail
theorem boolAc_nu (op : BinOp) (x y : Bool) : NotUpd (boolAc op x y) := by cases op <;> first | exact notUpd_val | exact notUpd_fail
theorem cond_nu {b : Bool} {x : Ac} (h : NotUpd x) : NotUpd (bif b then x else .fail) := by cases b; exact notUpd_fail; exact h
theorem cond_nu' {b : Bool} {x : Ac} (h : NotUpd x) : NotUpd (bif b then .fail else x) := by cases b; exact h; exact notUpd_fail
theorem nilCmpAc_nu (op : BinOp) (x : SV) : NotUpd (nilCmpAc op x) := by
  unfold nilCmpAc
  repeat' split
  all_goals (intro c v st' h; simp at h)
theorem structAc_nu (P : Program) (op : BinOp) (T : TypeId) (x y : SV) : NotUpd (structAc P op T x y) := by
  unfold structAc
  split
  · refine cond_nu ?_; split <;> first | exact notUpd_val | exact notUpd_fail
  · exact notUpd_fail
theorem structAc_nc (P : Program) (op : BinOp) (T : TypeId) (x y : SV) : NotCall (structAc P op T x y) := by
  unfold structAc
  intro f as h
  simp only [cond_eq_ite] at h
  repeat' split at h
  all_goals cases h
theorem binAc_nu (P : Program) (op : BinOp) (T : TypeId) (x y : SV) : NotUpd (binAc P op T x y) := by
  unfold binAc
  split
  · split
    · exact notUpd_val
    · exact notUpd_val
    · exact cond_nu (intAc_nu _ _ _ _)
  · exact strAc_nu _ _ _
  · exact cond_nu (boolAc_nu _ _ _)
  · exact cond_nu (by cases op <;> first | exact notUpd_val | exact notUpd_fail)
  · exact cond_nu (by cases op <;> first | exact notUpd_val | exact notUpd_fail)
  · exact structAc_nu _ _ _ _ _
theorem unAc_nu (op : UnOp) (x : SV) : NotUpd (unAc op x) := by unfold unAc; split <;> first | exact notUpd_val | exact notUpd_fail
theorem convAc_nu (P : Program) (s d : TypeId) (x : SV) : NotUpd (convAc P s d x) := by
  unfold convAc; refine cond_nu ?_; split <;> first | exact notUpd_val | exact notUpd_fail | exact cond_nu notUpd_val
theorem convStAc_nu (P : Program) (st : List BX) (s d : TypeId) (x : SV) : NotUpd (convStAc P st s d x) := by
  unfold convStAc; split
  · split
    · exact cond_nu notUpd_val
    · exact notUpd_fail
  · exact convAc_nu _ _ _ _
theorem buildAc_nu (P : Program) (T : TypeId) (ps : List (Nat × SV)) : NotUpd (buildAc P T ps) := by
  unfold buildAc; split
  · exact cond_nu notUpd_val
  · refine cond_nu ?_; split <;> first | exact notUpd_val | exact notUpd_fail
  · exact notUpd_fail
theorem buildSliceAc_nu (P : Program) (T : TypeId) (n : Nat) (ps : List (Nat × SV)) : NotUpd (buildSliceAc P T n ps) := by
  unfold buildSliceAc; split
  · exact cond_nu notUpd_val
  · exact notUpd_fail
theorem loadAc_nu (P : Program) (T : TypeId) (st : List BX) (a : SV) : NotUpd (loadAc P T st a) := by
  intro c v s h
  unfold loadAc at h
  simp only [cond_eq_ite] at h
  repeat' split at h
  all_goals cases h
theorem fieldAddrAc_nu (P : Program) (st : List BX) (S : TypeId) (i : Nat) (a : SV) : NotUpd (fieldAddrAc P st S i a) := by
  unfold fieldAddrAc; split
  · split
    · refine cond_nu' ?_; split <;> first | exact cond_nu notUpd_val | exact notUpd_fail
    · exact notUpd_fail
  · exact notUpd_fail
theorem fieldAc_nu (P : Program) (S : TypeId) (i : Nat) (a : SV) : NotUpd (fieldAc P S i a) := by
  unfold fieldAc; split
  · split
    · refine cond_nu ?_; split
      · exact cond_nu notUpd_val
      · refine cond_nu ?_; split <;> first | exact notUpd_val | exact notUpd_fail
      · exact notUpd_fail
    · exact notUpd_fail
  · exact notUpd_fail
theorem indexAddrAc_nu (P : Program) (T : TypeId) (st : List BX) (x i : SV) : NotUpd (indexAddrAc P T st x i) := by
  intro c v s h
  unfold indexAddrAc at h
  simp only [cond_eq_ite] at h
  repeat' split at h
  all_goals cases h
theorem indexAc_nu (P : Program) (T : TypeId) (x i : SV) : NotUpd (indexAc P T x i) := by
  unfold indexAc; split <;> first | exact notUpd_val | exact cond_nu notUpd_val | exact notUpd_fail
theorem sliceAc_nu (P : Program) (T : TypeId) (x : SV) (lo hi mx : Option SV) : NotUpd (sliceAc P T x lo hi mx) := by
  unfold sliceAc; split
  · exact notUpd_fail
  · split
    · exact notUpd_val
    · split
      · split <;> first | exact notUpd_val | exact notUpd_fail
      · split
        · split <;> first | exact cond_nu notUpd_val | exact notUpd_fail
        · exact notUpd_fail
      · exact notUpd_fail
theorem lookupAc_nu (P : Program) (T : TypeId) (st : List BX) (m k : SV) (ok : Bool) : NotUpd (lookupAc P T st m k ok) := by
  unfold lookupAc; split
  · refine cond_nu ?_; split
    · exact cond_nu notUpd_val
    · split
      · exact cond_nu notUpd_val
      · exact notUpd_fail
    · exact notUpd_fail
  · exact notUpd_fail
theorem lenAc_nu (P : Program) (T : TypeId) (st : List BX) (x : SV) : NotUpd (lenAc P T st x) := by
  unfold lenAc; split <;> first | exact notUpd_val | exact notUpd_fail | (split <;> first | exact notUpd_val | exact notUpd_fail)
theorem minmaxAc_nu (mx : Bool) (ss : List SV) : NotUpd (minmaxAc mx ss) := by
  unfold minmaxAc; split
  · split <;> first | exact notUpd_val | exact notUpd_fail
  · exact notUpd_fail
theorem minmaxAc_nc (mx : Bool) (ss : List SV) : NotCall (minmaxAc mx ss) := by
  unfold minmaxAc; intro f as h
  split at h
  · split at h <;> cases h
  · cases h
theorem makeFuncAc_nu (fn : Fn) (first cs : List SV) : NotUpd (makeFuncAc fn first cs) := by unfold makeFuncAc; split <;> first | exact notUpd_val | exact notUpd_fail

theorem cond_upd {b : Bool} {x : Ac} {v : SV} {s : List BX} (h : (bif b then x else .fail) = .upd true v s) : b = true ∧ x = .upd true v s := by
  cases b
  · simp at h
  · exact ⟨rfl, h⟩

theorem ac_upd_sound (hw : WRel Γ D ow μ st w) (hρ : ∀ x, SRep Γ.P D w ow μ st (ρ x) (η x)) (o : Oper) (v : SV) (st' : List BX) (h : ac Γ.P o.op ρ ρt ρf st = .upd true v st') : OpRes Γ D ow μ st w ((execOp η o).run Γ.P w) v st' := by
  cases hop : o.op with
  | alloc T =>
    rw [hop] at h; simp only [ac] at h
    obtain ⟨u, w', r1, r2⟩ := alloc_sound hw T h
    exact OpRes.lift r1 r2 (by simp only [execOp, hop])
  | box T x =>
    rw [hop] at h; simp only [ac] at h
    obtain ⟨u, w', r1, r2⟩ := boxAc_sound hw T _ _ (hρ x) h
    exact OpRes.lift r1 r2 (by simp only [execOp, hop])
  | makeSlice T n c =>
    rw [hop] at h; simp only [ac] at h
    cases hz : isZeroC n with
    | true =>
      rw [hz] at h; simp only [cond_true] at h
      obtain ⟨u, w', r1, r2⟩ := makeSlice_sound hw T _ _ _ _ v st' (hρ n) (hρ c) h
      exact OpRes.lift r1 r2 (by simp only [execOp, hop])
    | false =>
      rw [hz] at h; simp only [cond_false] at h
      obtain ⟨u, w', r1, r2⟩ := makeRow_sound hw T _ _ _ _ v st' (hρ n) (hρ c) h
      exact OpRes.lift r1 r2 (by simp only [execOp, hop])
  | store T a x =>
    rw [hop] at h; simp only [ac] at h
    obtain ⟨w', r1, r2⟩ := storeFz_sound hw T _ _ _ _ v st' (hρ a) (hρ x) h
    exact OpRes.liftU r1 r2 (by simp only [execOp, hop])
  | insert T m k x =>
    rw [hop] at h; simp only [ac] at h
    obtain ⟨w', r1, r2⟩ := mapUpdate_sound hw T _ _ _ _ _ _ v st' (hρ m) (hρ k) (hρ x) h
    exact OpRes.liftU r1 r2 (by simp only [execOp, hop])
  | mapUpdate T m k x =>
    rw [hop] at h; simp only [ac] at h
    obtain ⟨w', r1, r2⟩ := mapUpdate_sound hw T _ _ _ _ _ _ v st' (hρ m) (hρ k) (hρ x) h
    exact OpRes.liftU r1 r2 (by simp only [execOp, hop])
  | mapEntry T m k =>
    rw [hop] at h; simp only [ac] at h
    obtain ⟨u, w', r1, r2⟩ := mapEntry_sound hw T _ _ _ _ v st' (hρ m) (hρ k) h
    exact OpRes.lift r1 r2 (by simp only [execOp, hop])
  | entryStore T m k x =>
    rw [hop] at h; simp only [ac] at h
    obtain ⟨w', r1, r2⟩ := entryStore_sound hw T _ _ _ _ _ _ v st' (hρ m) (hρ k) (hρ x) h
    exact OpRes.liftU r1 r2 (by simp only [execOp, hop])
  | makeMap T r =>
    rw [hop] at h; simp only [ac] at h
    unfold makeMapAc at h
    split at h
    · rename_i K E hT
      simp only [Ac.upd.injEq, true_and] at h
      obtain ⟨rfl, rfl⟩ := h
      obtain ⟨u, w', r1, r2⟩ := makeMap_sound hw T K E
      exact OpRes.lift r1 r2 (by simp only [execOp, hop]; rfl)
    · simp at h
  | call c =>
    rw [hop] at h; simp only [ac] at h
    unfold callAc at h
    split at h
    · simp at h
    · split at h <;> simp at h
    · split at h
      · exact absurd h (lenAc_nu _ _ _ _ _ _ _)
      · simp at h
    · rename_i hc
      split at h
      · rename_i x y T T' hx hT
        obtain ⟨h1, h2⟩ := cond_upd h
        have := Nat.eq_of_beq_eq_true h1; subst this
        have ha : c.args = #[x, y] := by rw [← Array.toArray_toList (xs := c.args), hx]
        have hat : c.argTypes = #[T, T] := by rw [← Array.toArray_toList (xs := c.argTypes), hT]
        obtain ⟨u, w', r1, r2⟩ := append_sound hw T o.type _ _ _ _ v st' (hρ x) (hρ y) h2
        refine OpRes.lift r1 r2 ?_
        simp [execOp, hop, resolve, hc, invoke, builtin, ha, hat]
      · simp at h
    · exact absurd h (minmaxAc_nu _ _ _ _ _)
    · exact absurd h (minmaxAc_nu _ _ _ _ _)
    · simp at h
  | move x => rw [hop] at h; simp [ac] at h
  | assign x => rw [hop] at h; simp [ac] at h
  | pick c x y => rw [hop] at h; simp only [ac] at h; split at h <;> simp at h
  | build T ps => rw [hop] at h; exact absurd h (buildAc_nu _ _ _ _ _ _)
  | buildSlice T n ps => rw [hop] at h; exact absurd h (buildSliceAc_nu _ _ _ _ _ _ _)
  | load T a => rw [hop] at h; exact absurd h (loadAc_nu _ _ _ _ _ _ _)
  | nilCheck x => rw [hop] at h; simp only [ac, cond_eq_ite] at h; repeat' split at h
                  all_goals cases h
  | binOp b T x y T2 =>
    rw [hop] at h; simp only [ac, binOpAc, cond_eq_ite] at h
    split at h
    · split at h
      · exact absurd h (nilCmpAc_nu _ _ _ _ _)
      · simp at h
    · exact absurd h (binAc_nu _ _ _ _ _ _ _ _)
  | unOp u T x => rw [hop] at h; exact absurd h (unAc_nu _ _ _ _ _)
  | convert s d x => rw [hop] at h; exact absurd h (convStAc_nu _ _ _ _ _ _ _ _)
  | makeFunc fn first cs => rw [hop] at h; exact absurd h (makeFuncAc_nu _ _ _ _ _ _)
  | slice T x lo hi mx => rw [hop] at h; exact absurd h (sliceAc_nu _ _ _ _ _ _ _ _ _)
  | fieldAddr S x i => rw [hop] at h; exact absurd h (fieldAddrAc_nu _ _ _ _ _ _ _ _)
  | field S x i => rw [hop] at h; exact absurd h (fieldAc_nu _ _ _ _ _ _ _)
  | indexAddr T x i => rw [hop] at h; exact absurd h (indexAddrAc_nu _ _ _ _ _ _ _ _)
  | index T x i => rw [hop] at h; exact absurd h (indexAc_nu _ _ _ _ _ _ _)
  | lookup T m k ok => rw [hop] at h; exact absurd h (lookupAc_nu _ _ _ _ _ _ _ _ _)
  | extract t i => rw [hop] at h; simp only [ac] at h; unfold extractAc at h; split at h <;> first | (simp at h; done) | (split at h <;> simp at h)
  | range T x =>
    rw [hop] at h; simp only [ac] at h
    obtain ⟨u, w', r1, r2⟩ := range_sound hw T _ _ v st' (hρ x) h
    exact OpRes.lift r1 r2 (by simp only [execOp, hop])
  | next x b =>
    rw [hop] at h; simp only [ac] at h
    obtain ⟨u, w', r1, r2⟩ := next_sound hw _ _ b o.type v st' (hρ x) h
    exact OpRes.lift r1 r2 (by simp only [execOp, hop])
  | entry x =>
    rw [hop] at h; simp only [ac] at h; unfold entryAc at h; repeat' split at h
    all_goals simp at h
  | makeInterface T x => rw [hop] at h; simp only [ac, makeIfcAc] at h; split at h <;> simp at h
  | panic x => rw [hop] at h; simp only [ac, panicAc] at h; split at h <;> simp at h
  | _ => rw [hop] at h; simp [ac] at h

theorem ac_call_sound (hρ : ∀ x, SRep Γ.P D w ow μ st (ρ x) (η x)) (hη : ∀ f, η (.func f) = .func (.func f) #[] #[]) (o : Oper) (f : FuncId) (args : List SV) (h : ac Γ.P o.op ρ ρt ρf st = .call f args) :
    ∃ vals : Array Value, (execOp η o).run Γ.P w = (callFunc f vals).run Γ.P w ∧ vals.size = args.length ∧ ∀ (i : Nat) (s : SV) (v : Value), args[i]? = some s → vals[i]? = some v → SRep Γ.P D w ow μ st s v := by
  have argsOk : ∀ xs : Array Operand, ∀ (i : Nat) (s : SV) (v : Value), (xs.toList.map ρ)[i]? = some s → (xs.map η)[i]? = some v → SRep Γ.P D w ow μ st s v := by
    intro xs i s v hs hv
    rw [List.getElem?_map] at hs
    rw [Array.getElem?_map] at hv
    cases hp : xs[i]? with
    | none => rw [hp] at hv; simp at hv
    | some p =>
      have : xs.toList[i]? = some p := by simpa using hp
      rw [this] at hs; rw [hp] at hv
      simp at hs hv
      subst hs; subst hv
      exact hρ p
  cases hop : o.op with
  | call c =>
    rw [hop] at h; simp only [ac] at h
    unfold callAc at h
    split at h
    · rename_i g hc
      simp only [Ac.call.injEq] at h
      obtain ⟨rfl, rfl⟩ := h
      refine ⟨c.args.map η, ?_, by simp, argsOk c.args⟩
      simp [execOp, hop, resolve, hc, hη, Deferred.ofValue, invoke]
    · rename_i x hne hc
      have hx := hρ x
      split at h
      · rename_i g n caps he
        simp only [Ac.call.injEq] at h
        obtain ⟨rfl, rfl⟩ := h
        rw [he] at hx
        generalize hcc : η x = cv at hx
        cases hx with
        | @fn _ _ _ us vs hn hsz hall =>
          have hle : n ≤ caps.length := by rw [← hsz, ← hn]; simp
          have htn : (caps.take n).length = us.size := by rw [List.length_take, hn]; omega
          refine ⟨us ++ c.args.map η ++ vs, ?_, by simp at hsz ⊢; omega, fun i s v hs hv => ?_⟩
          · simp [execOp, hop, resolve, hc, hcc, Deferred.ofValue, invoke]
          · rw [Array.append_assoc] at hv
            by_cases hi : i < us.size
            · rw [List.getElem?_append_left (by omega), List.getElem?_take_of_lt (by omega)] at hs
              rw [Array.getElem?_append_left hi] at hv
              exact hall i s v hs (by rw [Array.getElem?_append_left hi]; exact hv)
            · rw [List.getElem?_append_right (by omega), htn] at hs
              rw [Array.getElem?_append_right (by omega)] at hv
              by_cases hi2 : i - us.size < c.args.size
              · rw [List.getElem?_append_left (by simpa using hi2)] at hs
                rw [Array.getElem?_append_left (by simpa using hi2)] at hv
                exact argsOk c.args _ s v hs hv
              · rw [List.getElem?_append_right (by simp; omega), List.getElem?_drop] at hs
                rw [Array.getElem?_append_right (by simp; omega)] at hv
                simp only [List.length_map, Array.length_toList, Array.size_map] at hs hv
                refine hall _ s v hs ?_
                rw [Array.getElem?_append_right (by omega)]
                rw [show n + (i - us.size - c.args.size) - us.size = i - us.size - c.args.size by omega]
                exact hv
      · simp at h
    · split at h
      · unfold lenAc at h; split at h <;> first | (simp at h; done) | (split at h <;> simp at h)
      · simp at h
    · split at h
      · simp only [cond_eq_ite] at h
        split at h
        · unfold appendAc at h
          simp only [cond_eq_ite] at h
          repeat' split at h
          all_goals simp at h
        · simp at h
      · simp at h
    · exact absurd h (minmaxAc_nc _ _ _ _)
    · exact absurd h (minmaxAc_nc _ _ _ _)
    · simp at h
  | move x => rw [hop] at h; simp [ac] at h
  | assign x => rw [hop] at h; simp [ac] at h
  | pick c x y => rw [hop] at h; simp only [ac] at h; split at h <;> simp at h
  | alloc T => rw [hop] at h; simp only [ac, allocAc, cond_eq_ite] at h; repeat' split at h
               all_goals cases h
  | box T x => rw [hop] at h; simp only [ac, boxAc, cond_eq_ite] at h; repeat' split at h
               all_goals cases h
  | makeSlice T n c => rw [hop] at h; simp only [ac, makeSliceAc, makeRowAc, cond_eq_ite] at h; repeat' split at h
                       all_goals cases h
  | store T a x => rw [hop] at h; simp only [ac, storeFz, storeAc, cond_eq_ite] at h; repeat' split at h
                   all_goals simp at h
  | insert T m k x => rw [hop] at h; simp only [ac, mapUpdateAc, cond_eq_ite] at h; repeat' split at h
                      all_goals simp at h
  | mapUpdate T m k x => rw [hop] at h; simp only [ac, mapUpdateAc, cond_eq_ite] at h; repeat' split at h
                         all_goals simp at h
  | mapEntry T m k => rw [hop] at h; simp only [ac, mapEntryAc, cond_eq_ite] at h; repeat' split at h
                      all_goals simp at h
  | entryStore T m k x => rw [hop] at h; simp only [ac, entryStoreAc, cond_eq_ite] at h; repeat' split at h
                          all_goals simp at h
  | makeMap T r => rw [hop] at h; simp only [ac, makeMapAc] at h; split at h <;> simp at h
  | build T ps => rw [hop] at h; simp only [ac, buildAc, cond_eq_ite] at h; repeat' split at h
                  all_goals simp at h
  | buildSlice T n ps => rw [hop] at h; simp only [ac, buildSliceAc, cond_eq_ite] at h; repeat' split at h
                         all_goals simp at h
  | load T a => rw [hop] at h; simp only [ac, loadAc, cond_eq_ite] at h; repeat' split at h
                all_goals simp at h
  | nilCheck x => rw [hop] at h; simp only [ac, cond_eq_ite] at h; repeat' split at h
                  all_goals cases h
  | binOp b T x y T2 =>
    rw [hop] at h; simp only [ac, binOpAc, nilCmpAc, binAc, cond_eq_ite] at h; repeat' split at h
    all_goals first
      | (exact absurd h (structAc_nc _ _ _ _ _ _ _))
      | (simp at h; done)
      | (cases b <;> simp [intAc] at h; done)
      | (cases b <;> simp [strAc] at h; done)
      | (cases b <;> simp [boolAc] at h; done)
      | (cases b <;> simp [nilSliceAc] at h; done)
  | unOp u T x => rw [hop] at h; simp only [ac, unAc] at h; repeat' split at h
                  all_goals simp at h
  | convert s d x => rw [hop] at h; simp only [ac, convStAc, convAc, cond_eq_ite] at h; repeat' split at h
                     all_goals simp at h
  | makeFunc fn first cs => rw [hop] at h; simp only [ac, makeFuncAc] at h; split at h <;> simp at h
  | slice T x lo hi mx => rw [hop] at h; simp only [ac, sliceAc, cond_eq_ite] at h; repeat' split at h
                          all_goals simp at h
  | fieldAddr S x i => rw [hop] at h; simp only [ac, fieldAddrAc, cond_eq_ite] at h; repeat' split at h
                       all_goals simp at h
  | field S x i => rw [hop] at h; simp only [ac, fieldAc, cond_eq_ite] at h; repeat' split at h
                   all_goals simp at h
  | indexAddr T x i => rw [hop] at h; simp only [ac, indexAddrAc, cond_eq_ite] at h; repeat' split at h
                       all_goals simp at h
  | index T x i => rw [hop] at h; simp only [ac, indexAc, cond_eq_ite] at h; repeat' split at h
                   all_goals simp at h
  | lookup T m k ok => rw [hop] at h; simp only [ac, lookupAc, cond_eq_ite] at h; repeat' split at h
                       all_goals simp at h
  | extract t i => rw [hop] at h; simp only [ac] at h; unfold extractAc at h; split at h <;> first | (simp at h; done) | (split at h <;> simp at h)
  | range T x => rw [hop] at h; simp only [ac] at h; unfold rangeAc at h; split at h <;> first | (simp at h; done) | (simp only [cond_eq_ite] at h; split at h <;> simp at h)
  | next x b =>
    rw [hop] at h; simp only [ac] at h; unfold nextAc at h; repeat' split at h
    all_goals simp at h
  | entry x =>
    rw [hop] at h; simp only [ac] at h; unfold entryAc at h; repeat' split at h
    all_goals simp at h
  | makeInterface T x => rw [hop] at h; simp only [ac, makeIfcAc] at h; split at h <;> simp at h
  | panic x => rw [hop] at h; simp only [ac, panicAc] at h; split at h <;> simp at h
  | _ => rw [hop] at h; simp [ac] at h

theorem structAc_np (P : Program) (op : BinOp) (T : TypeId) (x y : SV) (v : SV) : structAc P op T x y ≠ .pan v := by
  unfold structAc
  simp only [cond_eq_ite]
  repeat' split
  all_goals simp
theorem minmaxAc_np (mx : Bool) (ss : List SV) (v : SV) : minmaxAc mx ss ≠ .pan v := by
  unfold minmaxAc
  split
  · split <;> simp
  · simp
/-- A panic of the code's own. -/
theorem ac_pan_sound (hρ : ∀ x, SRep Γ.P D w ow μ st (ρ x) (η x)) (o : Oper) (s : SV) (h : ac Γ.P o.op ρ ρt ρf st = .pan s) : ∃ u, (execOp η o).run Γ.P w = .halt (.panic u) w ∧ SRep Γ.P D w ow μ st s u := by
  cases hop : o.op with
  | panic x =>
    rw [hop] at h; simp only [ac, panicAc] at h
    split at h
    · rename_i T y hx
      simp only [Ac.pan.injEq] at h; subst h
      have hv := hρ x
      rw [hx] at hv
      generalize hcc : η x = cv at hv
      refine ⟨cv, ?_, hv⟩
      cases hv with
      | ifc hv => simp [execOp, hop, hcc, Instr.panic, goPanic]
    · cases h
  | call c =>
    rw [hop] at h; simp only [ac] at h
    unfold callAc at h
    split at h
    · cases h
    · split at h <;> cases h
    · split at h
      · unfold lenAc at h; split at h <;> first | (simp at h; done) | (split at h <;> simp at h)
      · cases h
    · split at h
      · simp only [cond_eq_ite] at h
        split at h
        · unfold appendAc at h
          simp only [cond_eq_ite] at h
          repeat' split at h
          all_goals cases h
        · cases h
      · cases h
    · exact absurd h (minmaxAc_np _ _ _)
    · exact absurd h (minmaxAc_np _ _ _)
    · cases h
  | move x => rw [hop] at h; simp [ac] at h
  | assign x => rw [hop] at h; simp [ac] at h
  | pick c x y => rw [hop] at h; simp only [ac] at h; split at h <;> simp at h
  | alloc T => rw [hop] at h; simp only [ac, allocAc, cond_eq_ite] at h; repeat' split at h
               all_goals cases h
  | box T x => rw [hop] at h; simp only [ac, boxAc, cond_eq_ite] at h; repeat' split at h
               all_goals cases h
  | makeSlice T n c => rw [hop] at h; simp only [ac, makeSliceAc, makeRowAc, cond_eq_ite] at h; repeat' split at h
                       all_goals cases h
  | store T a x => rw [hop] at h; simp only [ac, storeFz, storeAc, cond_eq_ite] at h; repeat' split at h
                   all_goals simp at h
  | insert T m k x => rw [hop] at h; simp only [ac, mapUpdateAc, cond_eq_ite] at h; repeat' split at h
                      all_goals simp at h
  | mapUpdate T m k x => rw [hop] at h; simp only [ac, mapUpdateAc, cond_eq_ite] at h; repeat' split at h
                         all_goals simp at h
  | mapEntry T m k => rw [hop] at h; simp only [ac, mapEntryAc, cond_eq_ite] at h; repeat' split at h
                      all_goals simp at h
  | entryStore T m k x => rw [hop] at h; simp only [ac, entryStoreAc, cond_eq_ite] at h; repeat' split at h
                          all_goals simp at h
  | makeMap T r => rw [hop] at h; simp only [ac, makeMapAc] at h; split at h <;> simp at h
  | build T ps => rw [hop] at h; simp only [ac, buildAc, cond_eq_ite] at h; repeat' split at h
                  all_goals simp at h
  | buildSlice T n ps => rw [hop] at h; simp only [ac, buildSliceAc, cond_eq_ite] at h; repeat' split at h
                         all_goals simp at h
  | load T a => rw [hop] at h; simp only [ac, loadAc, cond_eq_ite] at h; repeat' split at h
                all_goals simp at h
  | nilCheck x => rw [hop] at h; simp only [ac, cond_eq_ite] at h; repeat' split at h
                  all_goals cases h
  | binOp b T x y T2 =>
    rw [hop] at h; simp only [ac, binOpAc, nilCmpAc, binAc, cond_eq_ite] at h; repeat' split at h
    all_goals first
      | (exact absurd h (structAc_np _ _ _ _ _ _))
      | (simp at h; done)
      | (cases b <;> simp [intAc] at h; done)
      | (cases b <;> simp [strAc] at h; done)
      | (cases b <;> simp [boolAc] at h; done)
      | (cases b <;> simp [nilSliceAc] at h; done)
  | unOp u T x => rw [hop] at h; simp only [ac, unAc] at h; repeat' split at h
                  all_goals simp at h
  | convert s d x => rw [hop] at h; simp only [ac, convStAc, convAc, cond_eq_ite] at h; repeat' split at h
                     all_goals simp at h
  | makeFunc fn first cs => rw [hop] at h; simp only [ac, makeFuncAc] at h; split at h <;> simp at h
  | slice T x lo hi mx => rw [hop] at h; simp only [ac, sliceAc, cond_eq_ite] at h; repeat' split at h
                          all_goals simp at h
  | fieldAddr S x i => rw [hop] at h; simp only [ac, fieldAddrAc, cond_eq_ite] at h; repeat' split at h
                       all_goals simp at h
  | field S x i => rw [hop] at h; simp only [ac, fieldAc, cond_eq_ite] at h; repeat' split at h
                   all_goals simp at h
  | indexAddr T x i => rw [hop] at h; simp only [ac, indexAddrAc, cond_eq_ite] at h; repeat' split at h
                       all_goals simp at h
  | index T x i => rw [hop] at h; simp only [ac, indexAc, cond_eq_ite] at h; repeat' split at h
                   all_goals simp at h
  | lookup T m k ok => rw [hop] at h; simp only [ac, lookupAc, cond_eq_ite] at h; repeat' split at h
                       all_goals simp at h
  | extract t i => rw [hop] at h; simp only [ac] at h; unfold extractAc at h; split at h <;> first | (simp at h; done) | (split at h <;> simp at h)
  | range T x => rw [hop] at h; simp only [ac] at h; unfold rangeAc at h; split at h <;> first | (simp at h; done) | (simp only [cond_eq_ite] at h; split at h <;> simp at h)
  | next x b =>
    rw [hop] at h; simp only [ac] at h; unfold nextAc at h; repeat' split at h
    all_goals simp at h
  | entry x =>
    rw [hop] at h; simp only [ac] at h; unfold entryAc at h; repeat' split at h
    all_goals simp at h
  | makeInterface T x => rw [hop] at h; simp only [ac, makeIfcAc] at h; split at h <;> simp at h
  | _ => rw [hop] at h; simp [ac] at h
end
end Go.Ab
