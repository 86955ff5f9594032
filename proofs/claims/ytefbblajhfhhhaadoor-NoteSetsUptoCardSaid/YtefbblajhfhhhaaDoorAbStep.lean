/- One operation: what the evaluator says of it, the model does. -/
import Derived.Test.YtefbblajhfhhhaaDoorAbBuild
import Derived.Test.YtefbblajhfhhhaaDoorAbIter
set_option linter.unusedVariables false
set_option linter.unusedSimpArgs false
set_option linter.unnecessarySimpa false
namespace Go.Ab
open Go

section
variable {Γ : Ctx} {D : Dom} {ow : Own} {μ : Nat → Nat} {st : List BX} {w : World} {η : Operand → Value} {ρ ρt ρf : Operand → SV}

theorem OpRes.lift {r : Result Next} {v : SV} {st' : List BX} {s : Sem Value} {u : Value} {w' : World} (hs : s.run Γ.P w = .ok u w') (h : OpRes Γ D ow μ st w (.ok (.value u) w') v st') (hr : r = (do pure (.value (← s)) : Sem Next).run Γ.P w) : OpRes Γ D ow μ st w r v st' := by
  rw [hr]
  simp only [Sem.run_bind, hs, Result.andThen_ok, Sem.run_pure]
  exact h

theorem OpRes.lift0 (hw : WRel Γ D ow μ st w) {r : Result Next} {v : SV} {s : Sem Value} (h : ∃ u, s.run Γ.P w = .ok u w ∧ SRep Γ.P D w ow μ st v u) (hr : r = (do pure (.value (← s)) : Sem Next).run Γ.P w) : OpRes Γ D ow μ st w r v st := by
  obtain ⟨u, h1, h2⟩ := h
  exact OpRes.lift h1 (OpRes.still hw rfl h2) hr

theorem OpRes.liftU {r : Result Next} {v : SV} {st' : List BX} {s : Sem Unit} {w' : World} (hs : s.run Γ.P w = .ok () w') (h : OpRes Γ D ow μ st w (.ok .skip w') v st') (hr : r = (do s; pure .skip : Sem Next).run Γ.P w) : OpRes Γ D ow μ st w r v st' := by
  rw [hr]
  simp only [Sem.run_bind, hs, Result.andThen_ok, Sem.run_pure]
  exact h

theorem cond_not_val {b : Bool} {x : Ac} {v : SV} (h : x ≠ .val true v) : (bif b then x else .fail) ≠ .val true v := by cases b <;> simp [h]
theorem appendAc_not_val (P : Program) (st : List BX) (T : TypeId) (x y : SV) (c : Bool) (v : SV) : appendAc P st T x y ≠ .val c v := by
  unfold appendAc
  intro h
  simp only [cond_eq_ite] at h
  repeat' split at h
  all_goals simp at h
theorem storeAc_not_val (P : Program) (T : TypeId) (st : List BX) (a x : SV) (v : SV) : storeAc P T st a x ≠ .val true v := by
  unfold storeAc
  intro h
  simp only [cond_eq_ite] at h
  repeat' split at h
  all_goals simp at h
theorem storeFz_not_val (P : Program) (T : TypeId) (st : List BX) (a x : SV) (v : SV) : storeFz P T st a x ≠ .val true v := by
  intro h
  unfold storeFz at h
  split at h
  · split at h
    · split at h
      · simp only [cond_eq_ite] at h
        split at h
        · cases h
        · exact storeAc_not_val _ _ _ _ _ _ h
      · cases h
    · exact storeAc_not_val _ _ _ _ _ _ h
  · exact storeAc_not_val _ _ _ _ _ _ h
theorem mapUpdateAc_not_val (P : Program) (T : TypeId) (st : List BX) (m k x : SV) (v : SV) : mapUpdateAc P T st m k x ≠ .val true v := by
  unfold mapUpdateAc
  intro h
  simp only [cond_eq_ite] at h
  repeat' split at h
  all_goals simp at h
theorem mapEntryAc_not_val (P : Program) (T : TypeId) (st : List BX) (m k : SV) (v : SV) : mapEntryAc P T st m k ≠ .val true v := by
  unfold mapEntryAc
  intro h
  simp only [cond_eq_ite] at h
  repeat' split at h
  all_goals simp at h
theorem entryStoreAc_not_val (P : Program) (T : TypeId) (st : List BX) (m k x : SV) (v : SV) : entryStoreAc P T st m k x ≠ .val true v := by
  unfold entryStoreAc
  intro h
  simp only [cond_eq_ite] at h
  repeat' split at h
  all_goals simp at h

theorem parts_zip (hρ : ∀ x, SRep Γ.P D w ow μ st (ρ x) (η x)) (ps : Array (Nat × Operand)) : (ps.toList.map fun (i, x) => (i, ρ x)).length = (ps.map fun (i, x) => (i, η x)).size ∧
    ∀ (n i : Nat) (s : SV) (j : Nat) (u : Value), (ps.toList.map fun (i, x) => (i, ρ x))[n]? = some (i, s) → (ps.map fun (i, x) => (i, η x))[n]? = some (j, u) → i = j ∧ SRep Γ.P D w ow μ st s u := by
  refine ⟨by simp, fun n i s j u h1 h2 => ?_⟩
  rw [List.getElem?_map] at h1
  rw [Array.getElem?_map] at h2
  cases hp : ps[n]? with
  | none => rw [hp] at h2; simp at h2
  | some p =>
    obtain ⟨k, x⟩ := p
    have : ps.toList[n]? = some (k, x) := by simpa using hp
    rw [this] at h1; rw [hp] at h2
    simp at h1 h2
    obtain ⟨rfl, rfl⟩ := h1
    obtain ⟨rfl, rfl⟩ := h2
    exact ⟨rfl, hρ x⟩

theorem minmax_fold (mx : Bool) : ∀ (ss : List SV) (us : List Value) (k : IntKind) (a n : Int), ss.length = us.length → (∀ (i : Nat) (s : SV) (u : Value), ss[i]? = some s → us[i]? = some u → SRep Γ.P D w ow μ st s u) → foldInts mx a ss = some n →
    (us.foldlM (if mx then Builtin.max2 else Builtin.min2) (.int k a) : Sem Value).run Γ.P w = .ok (.int k n) w := by
  intro ss
  induction ss with
  | nil =>
    intro us k a n hl _ h
    have : us = [] := List.eq_nil_of_length_eq_zero (by simpa using hl.symm)
    subst this
    simp [foldInts] at h; subst h
    simp
  | cons x r ih =>
    intro us k a n hl hall h
    cases us with
    | nil => simp at hl
    | cons u q =>
      have hx := hall 0 x u rfl rfl
      cases x with
      | int kb b =>
        generalize hu : u = uu at hx
        cases hx
        simp only [foldInts] at h
        have := ih q k _ n (by simpa using hl) (fun i s v h1 h2 => hall (i + 1) s v (by simpa using h1) (by simpa using h2)) h
        cases mx
        · simp only [cond_false, Bool.false_eq_true, if_false] at this ⊢
          simp only [List.foldlM_cons, Builtin.min2, pure_bind]
          exact this
        · simp only [cond_true, if_true] at this ⊢
          simp only [List.foldlM_cons, Builtin.max2, pure_bind]
          exact this
      | _ => simp [foldInts] at h
theorem minmax_sound (mx : Bool) (ss : List SV) (us : List Value) (hl : ss.length = us.length) (hall : ∀ (i : Nat) (s : SV) (u : Value), ss[i]? = some s → us[i]? = some u → SRep Γ.P D w ow μ st s u) (v : SV) (h : minmaxAc mx ss = .val true v) :
    ∃ (x : Value) (q : List Value) (u : Value), us = x :: q ∧ (q.foldlM (if mx then Builtin.max2 else Builtin.min2) x : Sem Value).run Γ.P w = .ok u w ∧ SRep Γ.P D w ow μ st v u := by
  unfold minmaxAc at h
  split at h
  · rename_i k a r
    cases us with
    | nil => simp at hl
    | cons x q =>
      have hx := hall 0 _ x rfl rfl
      generalize hu : x = xx at hx
      cases hx
      split at h
      · rename_i n hf
        simp only [Ac.val.injEq, true_and] at h; subst h
        exact ⟨_, q, _, rfl, minmax_fold mx r q k a n (by simpa using hl) (fun i s v h1 h2 => hall (i + 1) s v (by simpa using h1) (by simpa using h2)) hf, .int⟩
      · cases h
  · cases h

theorem ac_val_sound (hw : WRel Γ D ow μ st w) (hρ : ∀ x, SRep Γ.P D w ow μ st (ρ x) (η x)) (o : Oper)
    (hpick : ∀ c x y, o.op = .pick c x y → (η c = .bool true → SRep Γ.P D w ow μ st (ρt x) (η x)) ∧ (η c = .bool false → SRep Γ.P D w ow μ st (ρf y) (η y)))
    (v : SV) (h : ac Γ.P o.op ρ ρt ρf st = .val true v) : OpRes Γ D ow μ st w ((execOp η o).run Γ.P w) v st := by
  cases hop : o.op with
  | move x =>
    rw [hop] at h; simp only [ac, Ac.val.injEq, true_and] at h; subst h
    exact OpRes.still hw (by simp only [execOp, hop, Sem.run_pure]) (hρ x)
  | assign x =>
    rw [hop] at h; simp only [ac, Ac.val.injEq, true_and] at h; subst h
    exact OpRes.still hw (by simp only [execOp, hop, Sem.run_pure]) (hρ x)
  | pick c x y =>
    rw [hop] at h; simp only [ac] at h
    obtain ⟨h1, h2⟩ := hpick c x y hop
    split at h
    · rename_i b p q hc hx hy
      simp only [Ac.val.injEq, true_and] at h; subst h
      have hcv := hρ c
      rw [hc] at hcv
      generalize hcc : η c = cv at hcv
      cases hcv
      have run : (execOp η o).run Γ.P w = .ok (.value (if b then η x else η y)) w := by
        simp only [execOp, hop, hcc, asBool, Sem.run_bind, Sem.run_pure, Result.andThen_ok]
      rw [run]
      cases b with
      | true =>
        have := h1 hcc; rw [hx] at this
        exact OpRes.still hw rfl this
      | false =>
        have := h2 hcc; rw [hy] at this
        exact OpRes.still hw rfl this
    · simp at h
  | build T ps =>
    rw [hop] at h; simp only [ac] at h
    obtain ⟨q1, q2⟩ := parts_zip (Γ := Γ) hρ ps
    exact OpRes.lift0 hw (build_sound T _ _ v q1 q2 h) (by simp only [execOp, hop])
  | buildSlice T n ps =>
    rw [hop] at h; simp only [ac] at h
    obtain ⟨q1, q2⟩ := parts_zip (Γ := Γ) hρ ps
    obtain ⟨u, w', r1, r2⟩ := buildSlice_sound hw T n _ _ v q1 q2 h
    exact OpRes.lift r1 r2 (by simp only [execOp, hop])
  | load T a =>
    rw [hop] at h; simp only [ac] at h
    exact OpRes.lift0 hw (load_sound hw T _ _ v (hρ a) h) (by simp only [execOp, hop])
  | nilCheck x =>
    rw [hop] at h; simp only [ac] at h
    have hx := hρ x
    split at h
    · rename_i k p T he
      simp only [Ac.val.injEq, true_and] at h; subst h
      rw [he] at hx
      generalize hcc : η x = cv at hx
      have h' := hx
      cases hx
      exact OpRes.still hw (by simp only [execOp, hop, hcc, Sem.run_pure]) h'
    · rename_i T pv he
      simp only [Ac.val.injEq, true_and] at h; subst h
      rw [he] at hx
      generalize hcc : η x = cv at hx
      have h' := hx
      cases hx
      exact OpRes.still hw (by simp only [execOp, hop, hcc, Sem.run_pure]) h'
    · rename_i f cs he
      simp only [Ac.val.injEq, true_and] at h; subst h
      rw [he] at hx
      generalize hcc : η x = cv at hx
      have h' := hx
      cases hx
      exact OpRes.still hw (by simp only [execOp, hop, hcc, Sem.run_pure]) h'
    · rename_i k T he
      simp only [Ac.val.injEq, true_and] at h; subst h
      rw [he] at hx
      generalize hcc : η x = cv at hx
      have h' := hx
      cases hx
      exact OpRes.still hw (by simp only [execOp, hop, hcc, Sem.run_pure]) h'
    · rename_i k g i E p T he
      cases hg : arrIs st k g with
      | false => rw [hg] at h; cases h
      | true =>
        rw [hg] at h
        simp only [cond_true, Ac.val.injEq, true_and] at h; subst h
        rw [he] at hx
        generalize hcc : η x = cv at hx
        have h' := hx
        cases hx with
        | arefOld hk hlt _ => unfold arrIs at hg; rw [hk] at hg; have := Nat.eq_of_beq_eq_true hg; omega
        | aref => exact OpRes.still hw (by simp only [execOp, hop, hcc, Sem.run_pure]) h'
    · simp at h
  | binOp b T x y T2 =>
    rw [hop] at h; simp only [ac] at h
    unfold binOpAc at h
    cases hN : (isNilC y && isIfaceT Γ.P T) with
    | false =>
      rw [hN] at h
      exact OpRes.lift0 hw (bin_sound T b _ _ _ _ v (hρ x) (hρ y) h x y) (by simp only [execOp, hop])
    | true =>
      rw [hN] at h
      simp only [cond_true] at h
      simp only [Bool.and_eq_true] at hN
      split at h
      · rename_i hb
        have hy := hρ y
        rw [hb] at hy
        have hcc : η y = .nilIface := by
          generalize η y = cv at hy
          cases hy with
          | eif h1 _ => exact h1 rfl
        have hyc : y = .const .nilIface := by
          have := hN.1
          unfold isNilC at this
          split at this
          · rfl
          · cases this
        subst hyc
        have := iface_sound (Γ := Γ) (D := D) (w := w) T b _ _ v (hρ x) hN.2 h x
        rw [← hcc] at this
        have e : (do eqGuard b T x (.const (η (.const .nilIface))) (η x) (η (.const .nilIface)); binOp b T (η x) (η (.const .nilIface)) : Sem Value) = (do eqGuard b T x (.const .nilIface) (η x) (η (.const .nilIface)); binOp b T (η x) (η (.const .nilIface))) := by rw [hcc]
        rw [e] at this
        exact OpRes.lift0 hw this (by simp only [execOp, hop])
      · simp at h
  | unOp u T x =>
    rw [hop] at h; simp only [ac] at h
    exact OpRes.lift0 hw (un_sound u _ _ v (hρ x) h) (by simp only [execOp, hop])
  | convert s d x =>
    rw [hop] at h; simp only [ac] at h
    exact OpRes.lift0 hw (convSt_sound hw s d _ _ v (hρ x) h) (by simp only [execOp, hop])
  | makeFunc fn first cs =>
    rw [hop] at h; simp only [ac] at h
    unfold makeFuncAc at h
    split at h
    · rename_i f
      simp only [Ac.val.injEq, true_and] at h; subst h
      refine OpRes.still hw (u := .func (.func f) (first.map η) (cs.map η)) (by simp [execOp, hop, Instr.makeFunc]) (.fn (by simp) (by simp) (fun i s v hi hv => ?_))
      rw [← List.map_append, List.getElem?_map] at hi
      rw [← Array.map_append, Array.getElem?_map] at hv
      cases hp : (first ++ cs)[i]? with
      | none => rw [hp] at hv; simp at hv
      | some p =>
        have : (first.toList ++ cs.toList)[i]? = some p := by rw [← Array.toList_append, Array.getElem?_toList]; exact hp
        rw [this] at hi; rw [hp] at hv
        simp at hi hv
        subst hi; subst hv
        exact hρ p
    · simp at h
  | slice T x lo hi mx =>
    rw [hop] at h; simp only [ac] at h
    refine OpRes.lift0 hw (slice_sound T _ _ _ _ _ (lo.map η) (hi.map η) (mx.map η) v (hρ x) ?_ (by simp) ?_ (by simp) (by simp) h) (by simp only [execOp, hop])
    · intro s u h1 h2
      cases lo with
      | none => simp at h1
      | some l => simp at h1 h2; subst h1; subst h2; exact hρ l
    · intro s u h1 h2
      cases hi with
      | none => simp at h1
      | some l => simp at h1 h2; subst h1; subst h2; exact hρ l
  | fieldAddr S x i =>
    rw [hop] at h; simp only [ac] at h
    exact OpRes.lift0 hw (fieldAddr_sound S i _ _ v (hρ x) h) (by simp only [execOp, hop])
  | field S x i =>
    rw [hop] at h; simp only [ac] at h
    exact OpRes.lift0 hw (field_sound S i _ _ v (hρ x) h) (by simp only [execOp, hop])
  | indexAddr T x i =>
    rw [hop] at h; simp only [ac] at h
    exact OpRes.lift0 hw (indexAddr_sound T _ _ _ _ v (hρ x) (hρ i) h) (by simp only [execOp, hop])
  | index T x i =>
    rw [hop] at h; simp only [ac] at h
    exact OpRes.lift0 hw (index_sound T _ _ _ _ v (hρ x) (hρ i) h) (by simp only [execOp, hop])
  | lookup T m k ok =>
    rw [hop] at h; simp only [ac] at h
    exact OpRes.lift0 hw (lookup_sound hw T _ _ _ _ ok v (hρ m) (hρ k) h) (by simp only [execOp, hop])
  | extract t i =>
    rw [hop] at h; simp only [ac] at h
    have hx := hρ t
    unfold extractAc at h
    split at h
    · rename_i vs he
      split at h
      · rename_i s hs
        simp only [Ac.val.injEq, true_and] at h; subst h
        rw [he] at hx
        generalize hcc : η t = cv at hx
        cases hx with
        | @tup _ us hsz hall =>
          have hlt : i < us.size := by rw [hsz]; exact (List.getElem?_eq_some_iff.1 hs).1
          have hu : us[i]? = some us[i] := Array.getElem?_eq_getElem hlt
          exact OpRes.still hw (u := us[i]) (by simp [execOp, hop, hcc, Instr.extract, hu]) (hall i _ _ hs hu)
      · simp at h
    · rename_i b p c he
      rw [he] at hx
      generalize hcc : η t = cv at hx
      cases hx with
      | nx h1 h2 =>
        split at h
        · simp only [Ac.val.injEq, true_and] at h; subst h
          cases b with
          | true => have := h1 rfl; subst this; exact OpRes.still hw (u := .bool true) (by simp [execOp, hop, hcc, Instr.extract]) .bool
          | false => have := h2 rfl; subst this; exact OpRes.still hw (u := .bool false) (by simp [execOp, hop, hcc, Instr.extract]) .bool
        · simp only [Ac.val.injEq] at h
          obtain ⟨hb, rfl⟩ := h
          have := h1 hb; subst this
          exact OpRes.still hw (u := .int .i64 p) (by simp [execOp, hop, hcc, Instr.extract]) .int
        · simp only [Ac.val.injEq] at h
          obtain ⟨hb, rfl⟩ := h
          have := h1 hb; subst this
          exact OpRes.still hw (u := .int .i32 c) (by simp [execOp, hop, hcc, Instr.extract]) .int
        · cases h
    · simp at h
  | call c =>
    rw [hop] at h
    simp only [ac] at h
    unfold callAc at h
    split at h
    · simp at h
    · split at h <;> simp at h
    · rename_i hc
      split at h
      · rename_i x T hx hT
        have ha : c.args = #[x] := by rw [← Array.toArray_toList (xs := c.args), hx]
        have hat : c.argTypes = #[T] := by rw [← Array.toArray_toList (xs := c.argTypes), hT]
        refine OpRes.lift0 hw (len_sound hw T _ _ v (hρ x) h o.type) ?_
        simp [execOp, hop, resolve, hc, invoke, builtin, ha, hat]
      · simp at h
    · split at h
      · exact absurd h (cond_not_val (appendAc_not_val _ _ _ _ _ _ _))
      · simp at h
    · rename_i hc
      obtain ⟨x, q, u, e1, e2, e3⟩ := minmax_sound (Γ := Γ) (D := D) (w := w) (ow := ow) (μ := μ) (st := st) false _ (c.args.map η).toList (by simp) (fun i s u h1 h2 => by
        rw [List.getElem?_map] at h1
        rw [Array.toList_map, List.getElem?_map] at h2
        cases hp : c.args.toList[i]? with
        | none => rw [hp] at h1; cases h1
        | some p => rw [hp] at h1 h2; cases h1; cases h2; exact hρ p) v h
      refine OpRes.lift0 hw ⟨u, e2, e3⟩ ?_
      simp only [execOp, hop, resolve, hc, invoke, builtin, Builtin.min_, Sem.run_bind, Sem.run_pure, Result.andThen_ok, e1]
      simp
    · rename_i hc
      obtain ⟨x, q, u, e1, e2, e3⟩ := minmax_sound (Γ := Γ) (D := D) (w := w) (ow := ow) (μ := μ) (st := st) true _ (c.args.map η).toList (by simp) (fun i s u h1 h2 => by
        rw [List.getElem?_map] at h1
        rw [Array.toList_map, List.getElem?_map] at h2
        cases hp : c.args.toList[i]? with
        | none => rw [hp] at h1; cases h1
        | some p => rw [hp] at h1 h2; cases h1; cases h2; exact hρ p) v h
      refine OpRes.lift0 hw ⟨u, e2, e3⟩ ?_
      simp only [execOp, hop, resolve, hc, invoke, builtin, Builtin.max_, Sem.run_bind, Sem.run_pure, Result.andThen_ok, e1]
      simp
    · simp at h
  | makeInterface T x =>
    rw [hop] at h; simp only [ac, makeIfcAc] at h
    split at h
    · cases h
    · cases h
    · rename_i d hni hT
      simp only [Ac.val.injEq, true_and] at h; subst h
      refine OpRes.lift0 hw (s := Instr.makeInterface T (η x)) ⟨.iface T (η x), ?_, .ifc (hρ x)⟩ (by simp only [execOp, hop])
      unfold Instr.makeInterface
      simp only [Sem.run_bind, run_underlying hT, Result.andThen_ok]
      exact Sem.run_pure ..
  | panic x => rw [hop] at h; simp only [ac, panicAc] at h; split at h <;> simp at h
  | alloc T => rw [hop] at h; simp only [ac, allocAc, cond_eq_ite] at h; repeat' split at h
               all_goals cases h
  | box T x => rw [hop] at h; simp only [ac, boxAc, cond_eq_ite] at h; repeat' split at h
               all_goals cases h
  | makeSlice T n c => rw [hop] at h; simp only [ac, makeSliceAc, makeRowAc, cond_eq_ite] at h; repeat' split at h
                       all_goals cases h
  | store T a x => rw [hop] at h; simp only [ac] at h; exact absurd h (storeFz_not_val _ _ _ _ _ _)
  | insert T m k x => rw [hop] at h; simp only [ac] at h; exact absurd h (mapUpdateAc_not_val _ _ _ _ _ _ _)
  | mapUpdate T m k x => rw [hop] at h; simp only [ac] at h; exact absurd h (mapUpdateAc_not_val _ _ _ _ _ _ _)
  | mapEntry T m k => rw [hop] at h; simp only [ac] at h; exact absurd h (mapEntryAc_not_val _ _ _ _ _ _)
  | entryStore T m k x => rw [hop] at h; simp only [ac] at h; exact absurd h (entryStoreAc_not_val _ _ _ _ _ _ _)
  | makeMap T r => rw [hop] at h; simp only [ac] at h; unfold makeMapAc at h; split at h <;> simp at h
  | range T x => rw [hop] at h; simp only [ac] at h; unfold rangeAc at h; split at h <;> first | (simp at h; done) | (simp only [cond_eq_ite] at h; split at h <;> simp at h)
  | next x b =>
    rw [hop] at h; simp only [ac] at h; unfold nextAc at h; repeat' split at h
    all_goals simp at h
  | entry x =>
    rw [hop] at h; simp only [ac] at h
    have hx := hρ x
    unfold entryAc at h
    split at h
    · rename_i k he
      split at h
      · rename_i K E e es hk
        simp only [Ac.val.injEq, true_and] at h; subst h
        rw [he] at hx
        generalize hcc : η x = cv at hx
        cases hx with
        | mitr _ =>
          obtain ⟨_, _, m, since, c0, seen, q3, _, q5⟩ := hw.obj k _ hk
          obtain ⟨r, ents, ent, kc, vc, rfl, a2, a3, a4, a5, a6, a7, a8, a9⟩ := q5 e rfl
          refine OpRes.still hw (u := .tuple #[ent.key, ent.val]) ?_ (.tup rfl fun i s v hs hv => ?_)
          · simp [execOp, hop, hcc, Instr.entry, getObj, Sem.run, q3, a3, a4, a5]
          · match i, hs, hv with
            | 0, hs, hv => simp at hs hv; subst hs; subst hv; rw [a8]; exact a6.ofPV
            | 1, hs, hv => simp at hs hv; subst hs; subst hv; rw [a9]; exact a7.ofPV
      · cases h
    · cases h
  | _ => rw [hop] at h; simp [ac] at h
end
end Go.Ab
namespace Go.Ab
open Go

section
variable {Γ : Ctx} {D : Dom} {ow : Own} {μ : Nat → Nat} {st : List BX} {w : World} {η : Operand → Value} {ρ ρt ρf : Operand → SV}

def NotUpd (x : Ac) : Prop := ∀ c v s, x ≠ .upd c v s
def NotCall (x : Ac) : Prop := ∀ f as, x ≠ .call f as
theorem notUpd_val {c : Bool} {v : SV} : NotUpd (.val c v) := fun _ _ _ h => by cases h
theorem notUpd_fail : NotUpd .fail := fun _ _ _ h => by cases h
theorem intAc_nu (op : BinOp) (k : IntKind) (x y : Int) : NotUpd (intAc op k x y) := by cases op <;> first | exact notUpd_val | exact notUpd_fail
theorem strAc_nu (op : BinOp) (x y : List UInt8) : NotUpd (strAc op x y) := by cases op <;> first | exact notUpd_val | exact notUpd_fail
theorem boolAc_nu (op : BinOp) (x y : Bool) : NotUpd (boolAc op x y) := by cases op <;> first | exact notUpd_val | exact notUpd_fail
theorem cond_nu {b : Bool} {x : Ac} (h : NotUpd x) : NotUpd (bif b then x else .fail) := by cases b; exact notUpd_fail; exact h
theorem cond_nu' {b : Bool} {x : Ac} (h : NotUpd x) : NotUpd (bif b then .fail else x) := by cases b; exact h; exact notUpd_fail
theorem nilCmpAc_nu (op : BinOp) (x : SV) : NotUpd (nilCmpAc op x) := by
  unfold nilCmpAc
  repeat' split
  all_goals (intro c v st' h; simp at h)
theorem structAc_nu (P : Program) (op : BinOp) (T : TypeId) (x y : SV) : NotUpd (structAc P op T x y) := by
  unfold structAc
  split
  · refine cond_nu ?_; split <;> first | exact notUpd_val | exact notUpd_fail
  · exact notUpd_fail
theorem structAc_nc (P : Program) (op : BinOp) (T : TypeId) (x y : SV) : NotCall (structAc P op T x y) := by
  unfold structAc
  intro f as h
  simp only [cond_eq_ite] at h
  repeat' split at h
  all_goals cases h
theorem binAc_nu (P : Program) (op : BinOp) (T : TypeId) (x y : SV) : NotUpd (binAc P op T x y) := by
  unfold binAc
  split
  · split
    · exact notUpd_val
    · exact notUpd_val
    · exact cond_nu (intAc_nu _ _ _ _)
  · exact strAc_nu _ _ _
  · exact cond_nu (boolAc_nu _ _ _)
  · exact cond_nu (by cases op <;> first | exact notUpd_val | exact notUpd_fail)
  · exact cond_nu (by cases op <;> first | exact notUpd_val | exact notUpd_fail)
  · exact structAc_nu _ _ _ _ _
theorem unAc_nu (op : UnOp) (x : SV) : NotUpd (unAc op x) := by unfold unAc; split <;> first | exact notUpd_val | exact notUpd_fail
theorem convAc_nu (P : Program) (s d : TypeId) (x : SV) : NotUpd (convAc P s d x) := by
  unfold convAc; refine cond_nu ?_; split <;> first | exact notUpd_val | exact notUpd_fail | exact cond_nu notUpd_val
theorem convStAc_nu (P : Program) (st : List BX) (s d : TypeId) (x : SV) : NotUpd (convStAc P st s d x) := by
  unfold convStAc; split
  · split
    · exact cond_nu notUpd_val
    · exact notUpd_fail
  · exact convAc_nu _ _ _ _
theorem buildAc_nu (P : Program) (T : TypeId) (ps : List (Nat × SV)) : NotUpd (buildAc P T ps) := by
  unfold buildAc; split
  · exact cond_nu notUpd_val
  · refine cond_nu ?_; split <;> first | exact notUpd_val | exact notUpd_fail
  · exact notUpd_fail
theorem buildSliceAc_nu (P : Program) (T : TypeId) (n : Nat) (ps : List (Nat × SV)) : NotUpd (buildSliceAc P T n ps) := by
  unfold buildSliceAc; split
  · exact cond_nu notUpd_val
  · exact notUpd_fail
theorem loadAc_nu (P : Program) (T : TypeId) (st : List BX) (a : SV) : NotUpd (loadAc P T st a) := by
  intro c v s h
  unfold loadAc at h
  simp only [cond_eq_ite] at h
  repeat' split at h
  all_goals cases h
theorem fieldAddrAc_nu (P : Program) (st : List BX) (S : TypeId) (i : Nat) (a : SV) : NotUpd (fieldAddrAc P st S i a) := by
  unfold fieldAddrAc; split
  · split
    · refine cond_nu' ?_; split <;> first | exact cond_nu notUpd_val | exact notUpd_fail
    · exact notUpd_fail
  · exact notUpd_fail
theorem fieldAc_nu (P : Program) (S : TypeId) (i : Nat) (a : SV) : NotUpd (fieldAc P S i a) := by
  unfold fieldAc; split
  · split
    · refine cond_nu ?_; split
      · exact cond_nu notUpd_val
      · refine cond_nu ?_; split <;> first | exact notUpd_val | exact notUpd_fail
      · exact notUpd_fail
    · exact notUpd_fail
  · exact notUpd_fail
theorem indexAddrAc_nu (P : Program) (T : TypeId) (st : List BX) (x i : SV) : NotUpd (indexAddrAc P T st x i) := by
  intro c v s h
  unfold indexAddrAc at h
  simp only [cond_eq_ite] at h
  repeat' split at h
  all_goals cases h
theorem indexAc_nu (P : Program) (T : TypeId) (x i : SV) : NotUpd (indexAc P T x i) := by
  unfold indexAc; split <;> first | exact notUpd_val | exact cond_nu notUpd_val | exact notUpd_fail
theorem sliceAc_nu (P : Program) (T : TypeId) (x : SV) (lo hi mx : Option SV) : NotUpd (sliceAc P T x lo hi mx) := by
  unfold sliceAc; split
  · exact notUpd_fail
  · split
    · exact notUpd_val
    · split
      · split <;> first | exact notUpd_val | exact notUpd_fail
      · split
        · split <;> first | exact cond_nu notUpd_val | exact notUpd_fail
        · exact notUpd_fail
      · exact notUpd_fail
theorem lookupAc_nu (P : Program) (T : TypeId) (st : List BX) (m k : SV) (ok : Bool) : NotUpd (lookupAc P T st m k ok) := by
  unfold lookupAc; split
  · refine cond_nu ?_; split
    · exact cond_nu notUpd_val
    · split
      · exact cond_nu notUpd_val
      · exact notUpd_fail
    · exact notUpd_fail
  · exact notUpd_fail
theorem lenAc_nu (P : Program) (T : TypeId) (st : List BX) (x : SV) : NotUpd (lenAc P T st x) := by
  unfold lenAc; split <;> first | exact notUpd_val | exact notUpd_fail | (split <;> first | exact notUpd_val | exact notUpd_fail)
theorem minmaxAc_nu (mx : Bool) (ss : List SV) : NotUpd (minmaxAc mx ss) := by
  unfold minmaxAc; split
  · split <;> first | exact notUpd_val | exact notUpd_fail
  · exact notUpd_fail
theorem minmaxAc_nc (mx : Bool) (ss : List SV) : NotCall (minmaxAc mx ss) := by
  unfold minmaxAc; intro f as h
  split at h
  · split at h <;> cases h
  · cases h
theorem makeFuncAc_nu (fn : Fn) (first cs : List SV) : NotUpd (makeFuncAc fn first cs) := by unfold makeFuncAc; split <;> first | exact notUpd_val | exact notUpd_fail

theorem cond_upd {b : Bool} {x : Ac} {v : SV} {s : List BX} (h : (bif b then x else .fail) = .upd true v s) : b = true ∧ x = .upd true v s := by
  cases b
  · simp at h
  · exact ⟨rfl, h⟩

theorem ac_upd_sound (hw : WRel Γ D ow μ st w) (hρ : ∀ x, SRep Γ.P D w ow μ st (ρ x) (η x)) (o : Oper) (v : SV) (st' : List BX) (h : ac Γ.P o.op ρ ρt ρf st = .upd true v st') : OpRes Γ D ow μ st w ((execOp η o).run Γ.P w) v st' := by
  cases hop : o.op with
  | alloc T =>
    rw [hop] at h; simp only [ac] at h
    obtain ⟨u, w', r1, r2⟩ := alloc_sound hw T h
    exact OpRes.lift r1 r2 (by simp only [execOp, hop])
  | box T x =>
    rw [hop] at h; simp only [ac] at h
    obtain ⟨u, w', r1, r2⟩ := boxAc_sound hw T _ _ (hρ x) h
    exact OpRes.lift r1 r2 (by simp only [execOp, hop])
  | makeSlice T n c =>
    rw [hop] at h; simp only [ac] at h
    cases hz : isZeroC n with
    | true =>
      rw [hz] at h; simp only [cond_true] at h
      obtain ⟨u, w', r1, r2⟩ := makeSlice_sound hw T _ _ _ _ v st' (hρ n) (hρ c) h
      exact OpRes.lift r1 r2 (by simp only [execOp, hop])
    | false =>
      rw [hz] at h; simp only [cond_false] at h
      obtain ⟨u, w', r1, r2⟩ := makeRow_sound hw T _ _ _ _ v st' (hρ n) (hρ c) h
      exact OpRes.lift r1 r2 (by simp only [execOp, hop])
  | store T a x =>
    rw [hop] at h; simp only [ac] at h
    obtain ⟨w', r1, r2⟩ := storeFz_sound hw T _ _ _ _ v st' (hρ a) (hρ x) h
    exact OpRes.liftU r1 r2 (by simp only [execOp, hop])
  | insert T m k x =>
    rw [hop] at h; simp only [ac] at h
    obtain ⟨w', r1, r2⟩ := mapUpdate_sound hw T _ _ _ _ _ _ v st' (hρ m) (hρ k) (hρ x) h
    exact OpRes.liftU r1 r2 (by simp only [execOp, hop])
  | mapUpdate T m k x =>
    rw [hop] at h; simp only [ac] at h
    obtain ⟨w', r1, r2⟩ := mapUpdate_sound hw T _ _ _ _ _ _ v st' (hρ m) (hρ k) (hρ x) h
    exact OpRes.liftU r1 r2 (by simp only [execOp, hop])
  | mapEntry T m k =>
    rw [hop] at h; simp only [ac] at h
    obtain ⟨u, w', r1, r2⟩ := mapEntry_sound hw T _ _ _ _ v st' (hρ m) (hρ k) h
    exact OpRes.lift r1 r2 (by simp only [execOp, hop])
  | entryStore T m k x =>
    rw [hop] at h; simp only [ac] at h
    obtain ⟨w', r1, r2⟩ := entryStore_sound hw T _ _ _ _ _ _ v st' (hρ m) (hρ k) (hρ x) h
    exact OpRes.liftU r1 r2 (by simp only [execOp, hop])
  | makeMap T r =>
    rw [hop] at h; simp only [ac] at h
    unfold makeMapAc at h
    split at h
    · rename_i K E hT
      simp only [Ac.upd.injEq, true_and] at h
      obtain ⟨rfl, rfl⟩ := h
      obtain ⟨u, w', r1, r2⟩ := makeMap_sound hw T K E
      exact OpRes.lift r1 r2 (by simp only [execOp, hop]; rfl)
    · simp at h
  | call c =>
    rw [hop] at h; simp only [ac] at h
    unfold callAc at h
    split at h
    · simp at h
    · split at h <;> simp at h
    · split at h
      · exact absurd h (lenAc_nu _ _ _ _ _ _ _)
      · simp at h
    · rename_i hc
      split at h
      · rename_i x y T T' hx hT
        obtain ⟨h1, h2⟩ := cond_upd h
        have := Nat.eq_of_beq_eq_true h1; subst this
        have ha : c.args = #[x, y] := by rw [← Array.toArray_toList (xs := c.args), hx]
        have hat : c.argTypes = #[T, T] := by rw [← Array.toArray_toList (xs := c.argTypes), hT]
        obtain ⟨u, w', r1, r2⟩ := append_sound hw T o.type _ _ _ _ v st' (hρ x) (hρ y) h2
        refine OpRes.lift r1 r2 ?_
        simp [execOp, hop, resolve, hc, invoke, builtin, ha, hat]
      · simp at h
    · exact absurd h (minmaxAc_nu _ _ _ _ _)
    · exact absurd h (minmaxAc_nu _ _ _ _ _)
    · simp at h
  | move x => rw [hop] at h; simp [ac] at h
  | assign x => rw [hop] at h; simp [ac] at h
  | pick c x y => rw [hop] at h; simp only [ac] at h; split at h <;> simp at h
  | build T ps => rw [hop] at h; exact absurd h (buildAc_nu _ _ _ _ _ _)
  | buildSlice T n ps => rw [hop] at h; exact absurd h (buildSliceAc_nu _ _ _ _ _ _ _)
  | load T a => rw [hop] at h; exact absurd h (loadAc_nu _ _ _ _ _ _ _)
  | nilCheck x => rw [hop] at h; simp only [ac, cond_eq_ite] at h; repeat' split at h
                  all_goals cases h
  | binOp b T x y T2 =>
    rw [hop] at h; simp only [ac, binOpAc, cond_eq_ite] at h
    split at h
    · split at h
      · exact absurd h (nilCmpAc_nu _ _ _ _ _)
      · simp at h
    · exact absurd h (binAc_nu _ _ _ _ _ _ _ _)
  | unOp u T x => rw [hop] at h; exact absurd h (unAc_nu _ _ _ _ _)
  | convert s d x => rw [hop] at h; exact absurd h (convStAc_nu _ _ _ _ _ _ _ _)
  | makeFunc fn first cs => rw [hop] at h; exact absurd h (makeFuncAc_nu _ _ _ _ _ _)
  | slice T x lo hi mx => rw [hop] at h; exact absurd h (sliceAc_nu _ _ _ _ _ _ _ _ _)
  | fieldAddr S x i => rw [hop] at h; exact absurd h (fieldAddrAc_nu _ _ _ _ _ _ _ _)
  | field S x i => rw [hop] at h; exact absurd h (fieldAc_nu _ _ _ _ _ _ _)
  | indexAddr T x i => rw [hop] at h; exact absurd h (indexAddrAc_nu _ _ _ _ _ _ _ _)
  | index T x i => rw [hop] at h; exact absurd h (indexAc_nu _ _ _ _ _ _ _)
  | lookup T m k ok => rw [hop] at h; exact absurd h (lookupAc_nu _ _ _ _ _ _ _ _ _)
  | extract t i => rw [hop] at h; simp only [ac] at h; unfold extractAc at h; split at h <;> first | (simp at h; done) | (split at h <;> simp at h)
  | range T x =>
    rw [hop] at h; simp only [ac] at h
    obtain ⟨u, w', r1, r2⟩ := range_sound hw T _ _ v st' (hρ x) h
    exact OpRes.lift r1 r2 (by simp only [execOp, hop])
  | next x b =>
    rw [hop] at h; simp only [ac] at h
    obtain ⟨u, w', r1, r2⟩ := next_sound hw _ _ b o.type v st' (hρ x) h
    exact OpRes.lift r1 r2 (by simp only [execOp, hop])
  | entry x =>
    rw [hop] at h; simp only [ac] at h; unfold entryAc at h; repeat' split at h
    all_goals simp at h
  | makeInterface T x => rw [hop] at h; simp only [ac, makeIfcAc] at h; split at h <;> simp at h
  | panic x => rw [hop] at h; simp only [ac, panicAc] at h; split at h <;> simp at h
  | _ => rw [hop] at h; simp [ac] at h

theorem ac_call_sound (hρ : ∀ x, SRep Γ.P D w ow μ st (ρ x) (η x)) (hη : ∀ f, η (.func f) = .func (.func f) #[] #[]) (o : Oper) (f : FuncId) (args : List SV) (h : ac Γ.P o.op ρ ρt ρf st = .call f args) :
    ∃ vals : Array Value, (execOp η o).run Γ.P w = (callFunc f vals).run Γ.P w ∧ vals.size = args.length ∧ ∀ (i : Nat) (s : SV) (v : Value), args[i]? = some s → vals[i]? = some v → SRep Γ.P D w ow μ st s v := by
  have argsOk : ∀ xs : Array Operand, ∀ (i : Nat) (s : SV) (v : Value), (xs.toList.map ρ)[i]? = some s → (xs.map η)[i]? = some v → SRep Γ.P D w ow μ st s v := by
    intro xs i s v hs hv
    rw [List.getElem?_map] at hs
    rw [Array.getElem?_map] at hv
    cases hp : xs[i]? with
    | none => rw [hp] at hv; simp at hv
    | some p =>
      have : xs.toList[i]? = some p := by simpa using hp
      rw [this] at hs; rw [hp] at hv
      simp at hs hv
      subst hs; subst hv
      exact hρ p
  cases hop : o.op with
  | call c =>
    rw [hop] at h; simp only [ac] at h
    unfold callAc at h
    split at h
    · rename_i g hc
      simp only [Ac.call.injEq] at h
      obtain ⟨rfl, rfl⟩ := h
      refine ⟨c.args.map η, ?_, by simp, argsOk c.args⟩
      simp [execOp, hop, resolve, hc, hη, Deferred.ofValue, invoke]
    · rename_i x hne hc
      have hx := hρ x
      split at h
      · rename_i g n caps he
        simp only [Ac.call.injEq] at h
        obtain ⟨rfl, rfl⟩ := h
        rw [he] at hx
        generalize hcc : η x = cv at hx
        cases hx with
        | @fn _ _ _ us vs hn hsz hall =>
          have hle : n ≤ caps.length := by rw [← hsz, ← hn]; simp
          have htn : (caps.take n).length = us.size := by rw [List.length_take, hn]; omega
          refine ⟨us ++ c.args.map η ++ vs, ?_, by simp at hsz ⊢; omega, fun i s v hs hv => ?_⟩
          · simp [execOp, hop, resolve, hc, hcc, Deferred.ofValue, invoke]
          · rw [Array.append_assoc] at hv
            by_cases hi : i < us.size
            · rw [List.getElem?_append_left (by omega), List.getElem?_take_of_lt (by omega)] at hs
              rw [Array.getElem?_append_left hi] at hv
              exact hall i s v hs (by rw [Array.getElem?_append_left hi]; exact hv)
            · rw [List.getElem?_append_right (by omega), htn] at hs
              rw [Array.getElem?_append_right (by omega)] at hv
              by_cases hi2 : i - us.size < c.args.size
              · rw [List.getElem?_append_left (by simpa using hi2)] at hs
                rw [Array.getElem?_append_left (by simpa using hi2)] at hv
                exact argsOk c.args _ s v hs hv
              · rw [List.getElem?_append_right (by simp; omega), List.getElem?_drop] at hs
                rw [Array.getElem?_append_right (by simp; omega)] at hv
                simp only [List.length_map, Array.length_toList, Array.size_map] at hs hv
                refine hall _ s v hs ?_
                rw [Array.getElem?_append_right (by omega)]
                rw [show n + (i - us.size - c.args.size) - us.size = i - us.size - c.args.size by omega]
                exact hv
      · simp at h
    · split at h
      · unfold lenAc at h; split at h <;> first | (simp at h; done) | (split at h <;> simp at h)
      · simp at h
    · split at h
      · simp only [cond_eq_ite] at h
        split at h
        · unfold appendAc at h
          simp only [cond_eq_ite] at h
          repeat' split at h
          all_goals simp at h
        · simp at h
      · simp at h
    · exact absurd h (minmaxAc_nc _ _ _ _)
    · exact absurd h (minmaxAc_nc _ _ _ _)
    · simp at h
  | move x => rw [hop] at h; simp [ac] at h
  | assign x => rw [hop] at h; simp [ac] at h
  | pick c x y => rw [hop] at h; simp only [ac] at h; split at h <;> simp at h
  | alloc T => rw [hop] at h; simp only [ac, allocAc, cond_eq_ite] at h; repeat' split at h
               all_goals cases h
  | box T x => rw [hop] at h; simp only [ac, boxAc, cond_eq_ite] at h; repeat' split at h
               all_goals cases h
  | makeSlice T n c => rw [hop] at h; simp only [ac, makeSliceAc, makeRowAc, cond_eq_ite] at h; repeat' split at h
                       all_goals cases h
  | store T a x => rw [hop] at h; simp only [ac, storeFz, storeAc, cond_eq_ite] at h; repeat' split at h
                   all_goals simp at h
  | insert T m k x => rw [hop] at h; simp only [ac, mapUpdateAc, cond_eq_ite] at h; repeat' split at h
                      all_goals simp at h
  | mapUpdate T m k x => rw [hop] at h; simp only [ac, mapUpdateAc, cond_eq_ite] at h; repeat' split at h
                         all_goals simp at h
  | mapEntry T m k => rw [hop] at h; simp only [ac, mapEntryAc, cond_eq_ite] at h; repeat' split at h
                      all_goals simp at h
  | entryStore T m k x => rw [hop] at h; simp only [ac, entryStoreAc, cond_eq_ite] at h; repeat' split at h
                          all_goals simp at h
  | makeMap T r => rw [hop] at h; simp only [ac, makeMapAc] at h; split at h <;> simp at h
  | build T ps => rw [hop] at h; simp only [ac, buildAc, cond_eq_ite] at h; repeat' split at h
                  all_goals simp at h
  | buildSlice T n ps => rw [hop] at h; simp only [ac, buildSliceAc, cond_eq_ite] at h; repeat' split at h
                         all_goals simp at h
  | load T a => rw [hop] at h; simp only [ac, loadAc, cond_eq_ite] at h; repeat' split at h
                all_goals simp at h
  | nilCheck x => rw [hop] at h; simp only [ac, cond_eq_ite] at h; repeat' split at h
                  all_goals cases h
  | binOp b T x y T2 =>
    rw [hop] at h; simp only [ac, binOpAc, nilCmpAc, binAc, cond_eq_ite] at h; repeat' split at h
    all_goals first
      | (exact absurd h (structAc_nc _ _ _ _ _ _ _))
      | (simp at h; done)
      | (cases b <;> simp [intAc] at h; done)
      | (cases b <;> simp [strAc] at h; done)
      | (cases b <;> simp [boolAc] at h; done)
      | (cases b <;> simp [nilSliceAc] at h; done)
  | unOp u T x => rw [hop] at h; simp only [ac, unAc] at h; repeat' split at h
                  all_goals simp at h
  | convert s d x => rw [hop] at h; simp only [ac, convStAc, convAc, cond_eq_ite] at h; repeat' split at h
                     all_goals simp at h
  | makeFunc fn first cs => rw [hop] at h; simp only [ac, makeFuncAc] at h; split at h <;> simp at h
  | slice T x lo hi mx => rw [hop] at h; simp only [ac, sliceAc, cond_eq_ite] at h; repeat' split at h
                          all_goals simp at h
  | fieldAddr S x i => rw [hop] at h; simp only [ac, fieldAddrAc, cond_eq_ite] at h; repeat' split at h
                       all_goals simp at h
  | field S x i => rw [hop] at h; simp only [ac, fieldAc, cond_eq_ite] at h; repeat' split at h
                   all_goals simp at h
  | indexAddr T x i => rw [hop] at h; simp only [ac, indexAddrAc, cond_eq_ite] at h; repeat' split at h
                       all_goals simp at h
  | index T x i => rw [hop] at h; simp only [ac, indexAc, cond_eq_ite] at h; repeat' split at h
                   all_goals simp at h
  | lookup T m k ok => rw [hop] at h; simp only [ac, lookupAc, cond_eq_ite] at h; repeat' split at h
                       all_goals simp at h
  | extract t i => rw [hop] at h; simp only [ac] at h; unfold extractAc at h; split at h <;> first | (simp at h; done) | (split at h <;> simp at h)
  | range T x => rw [hop] at h; simp only [ac] at h; unfold rangeAc at h; split at h <;> first | (simp at h; done) | (simp only [cond_eq_ite] at h; split at h <;> simp at h)
  | next x b =>
    rw [hop] at h; simp only [ac] at h; unfold nextAc at h; repeat' split at h
    all_goals simp at h
  | entry x =>
    rw [hop] at h; simp only [ac] at h; unfold entryAc at h; repeat' split at h
    all_goals simp at h
  | makeInterface T x => rw [hop] at h; simp only [ac, makeIfcAc] at h; split at h <;> simp at h
  | panic x => rw [hop] at h; simp only [ac, panicAc] at h; split at h <;> simp at h
  | _ => rw [hop] at h; simp [ac] at h

theorem structAc_np (P : Program) (op : BinOp) (T : TypeId) (x y : SV) (v : SV) : structAc P op T x y ≠ .pan v := by
  unfold structAc
  simp only [cond_eq_ite]
  repeat' split
  all_goals simp
theorem minmaxAc_np (mx : Bool) (ss : List SV) (v : SV) : minmaxAc mx ss ≠ .pan v := by
  unfold minmaxAc
  split
  · split <;> simp
  · simp
/-- A panic of the code's own. -/
theorem ac_pan_sound (hρ : ∀ x, SRep Γ.P D w ow μ st (ρ x) (η x)) (o : Oper) (s : SV) (h : ac Γ.P o.op ρ ρt ρf st = .pan s) : ∃ u, (execOp η o).run Γ.P w = .halt (.panic u) w ∧ SRep Γ.P D w ow μ st s u := by
  cases hop : o.op with
  | panic x =>
    rw [hop] at h; simp only [ac, panicAc] at h
    split at h
    · rename_i T y hx
      simp only [Ac.pan.injEq] at h; subst h
      have hv := hρ x
      rw [hx] at hv
      generalize hcc : η x = cv at hv
      refine ⟨cv, ?_, hv⟩
      cases hv with
      | ifc hv => simp [execOp, hop, hcc, Instr.panic, goPanic]
    · cases h
  | call c =>
    rw [hop] at h; simp only [ac] at h
    unfold callAc at h
    split at h
    · cases h
    · split at h <;> cases h
    · split at h
      · unfold lenAc at h; split at h <;> first | (simp at h; done) | (split at h <;> simp at h)
      · cases h
    · split at h
      · simp only [cond_eq_ite] at h
        split at h
        · unfold appendAc at h
          simp only [cond_eq_ite] at h
          repeat' split at h
          all_goals cases h
        · cases h
      · cases h
    · exact absurd h (minmaxAc_np _ _ _)
    · exact absurd h (minmaxAc_np _ _ _)
    · cases h
  | move x => rw [hop] at h; simp [ac] at h
  | assign x => rw [hop] at h; simp [ac] at h
  | pick c x y => rw [hop] at h; simp only [ac] at h; split at h <;> simp at h
  | alloc T => rw [hop] at h; simp only [ac, allocAc, cond_eq_ite] at h; repeat' split at h
               all_goals cases h
  | box T x => rw [hop] at h; simp only [ac, boxAc, cond_eq_ite] at h; repeat' split at h
               all_goals cases h
  | makeSlice T n c => rw [hop] at h; simp only [ac, makeSliceAc, makeRowAc, cond_eq_ite] at h; repeat' split at h
                       all_goals cases h
  | store T a x => rw [hop] at h; simp only [ac, storeFz, storeAc, cond_eq_ite] at h; repeat' split at h
                   all_goals simp at h
  | insert T m k x => rw [hop] at h; simp only [ac, mapUpdateAc, cond_eq_ite] at h; repeat' split at h
                      all_goals simp at h
  | mapUpdate T m k x => rw [hop] at h; simp only [ac, mapUpdateAc, cond_eq_ite] at h; repeat' split at h
                         all_goals simp at h
  | mapEntry T m k => rw [hop] at h; simp only [ac, mapEntryAc, cond_eq_ite] at h; repeat' split at h
                      all_goals simp at h
  | entryStore T m k x => rw [hop] at h; simp only [ac, entryStoreAc, cond_eq_ite] at h; repeat' split at h
                          all_goals simp at h
  | makeMap T r => rw [hop] at h; simp only [ac, makeMapAc] at h; split at h <;> simp at h
  | build T ps => rw [hop] at h; simp only [ac, buildAc, cond_eq_ite] at h; repeat' split at h
                  all_goals simp at h
  | buildSlice T n ps => rw [hop] at h; simp only [ac, buildSliceAc, cond_eq_ite] at h; repeat' split at h
                         all_goals simp at h
  | load T a => rw [hop] at h; simp only [ac, loadAc, cond_eq_ite] at h; repeat' split at h
                all_goals simp at h
  | nilCheck x => rw [hop] at h; simp only [ac, cond_eq_ite] at h; repeat' split at h
                  all_goals cases h
  | binOp b T x y T2 =>
    rw [hop] at h; simp only [ac, binOpAc, nilCmpAc, binAc, cond_eq_ite] at h; repeat' split at h
    all_goals first
      | (exact absurd h (structAc_np _ _ _ _ _ _))
      | (simp at h; done)
      | (cases b <;> simp [intAc] at h; done)
      | (cases b <;> simp [strAc] at h; done)
      | (cases b <;> simp [boolAc] at h; done)
      | (cases b <;> simp [nilSliceAc] at h; done)
  | unOp u T x => rw [hop] at h; simp only [ac, unAc] at h; repeat' split at h
                  all_goals simp at h
  | convert s d x => rw [hop] at h; simp only [ac, convStAc, convAc, cond_eq_ite] at h; repeat' split at h
                     all_goals simp at h
  | makeFunc fn first cs => rw [hop] at h; simp only [ac, makeFuncAc] at h; split at h <;> simp at h
  | slice T x lo hi mx => rw [hop] at h; simp only [ac, sliceAc, cond_eq_ite] at h; repeat' split at h
                          all_goals simp at h
  | fieldAddr S x i => rw [hop] at h; simp only [ac, fieldAddrAc, cond_eq_ite] at h; repeat' split at h
                       all_goals simp at h
  | field S x i => rw [hop] at h; simp only [ac, fieldAc, cond_eq_ite] at h; repeat' split at h
                   all_goals simp at h
  | indexAddr T x i => rw [hop] at h; simp only [ac, indexAddrAc, cond_eq_ite] at h; repeat' split at h
                       all_goals simp at h
  | index T x i => rw [hop] at h; simp only [ac, indexAc, cond_eq_ite] at h; repeat' split at h
                   all_goals simp at h
  | lookup T m k ok => rw [hop] at h; simp only [ac, lookupAc, cond_eq_ite] at h; repeat' split at h
                       all_goals simp at h
  | extract t i => rw [hop] at h; simp only [ac] at h; unfold extractAc at h; split at h <;> first | (simp at h; done) | (split at h <;> simp at h)
  | range T x => rw [hop] at h; simp only [ac] at h; unfold rangeAc at h; split at h <;> first | (simp at h; done) | (simp only [cond_eq_ite] at h; split at h <;> simp at h)
  | next x b =>
    rw [hop] at h; simp only [ac] at h; unfold nextAc at h; repeat' split at h
    all_goals simp at h
  | entry x =>
    rw [hop] at h; simp only [ac] at h; unfold entryAc at h; repeat' split at h
    all_goals simp at h
  | makeInterface T x => rw [hop] at h; simp only [ac, makeIfcAc] at h; split at h <;> simp at h
  | _ => rw [hop] at h; simp [ac] at h
end
end Go.Ab
