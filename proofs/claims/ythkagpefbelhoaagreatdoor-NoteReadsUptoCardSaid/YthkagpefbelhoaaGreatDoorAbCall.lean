/- Calls by contract. -/
import Derived.Test.YthkagpefbelhoaaGreatDoorAbStep2
set_option linter.unusedVariables false
set_option linter.unusedSimpArgs false
set_option linter.unnecessarySimpa false
namespace Go.Ab
open Go

/-- A value that hangs on nothing owned. -/
def Closed (P : Program) (D : Dom) (w : World) (s : SV) (v : Value) : Prop := ∀ (ow : Own) (μ : Nat → Nat) (st : List BX), SRep P D w ow μ st s v

/-- What is handed over is there. -/
def ObjIn (P : Program) (D : Dom) (w : World) (ow : Own) (μ : Nat → Nat) (st : List BX) (k : Nat) : BX → Prop
  | .box T s => BoxRep P D w ow μ st k T s
  | .bld T bs => BldRep P D w ow μ k T bs
  | _ => False

structure Pre (P : Program) (D : Dom) (ow : Own) (μ : Nat → Nat) (st : List BX) (w : World) (as : List SV) (vals : Array Value) : Prop where
  size : vals.size = as.length
  arg : ∀ (i : Nat) (s : SV) (v : Value), as[i]? = some s → vals[i]? = some v → SRep P D w ow μ st s v
  box : ∀ (k : Nat) (b : BX), st[k]? = some b → ObjIn P D w ow μ st k b
  owlt : ∀ b k, ow b = some k → b < w.heap.size ∧ k < st.length
  dlt : ∀ b o, D b o → b < w.heap.size
  tabs : Tabs P ow w
  lone : ∀ b k, ow b = some k → ∀ o, ¬ D b o

structure Post (P : Program) (D : Dom) (w : World) (ow : Own) (μ : Nat → Nat) (st : List BX) (rs : List SV) (st' : List BX) (v : Value) (D' : Dom) (w' : World) : Prop where
  dom : ∀ b o, D b o → D' b o
  new : ∀ b o, D' b o → D b o ∨ w.heap.size ≤ b
  dlt : ∀ b o, D' b o → b < w'.heap.size
  res : Closed P D' w' (resSV rs) v
  len : st'.length = st.length
  box : ∀ (k : Nat) (T : TypeId) (s : SV), st[k]? = some (.box T s) → ∃ (s' : SV) (cells : List Value) (T' : TypeId), st'[k]? = some (.box T s') ∧ w'.heap[μ k]? = some (.cells cells.toArray T' (0, 0)) ∧ cells.length = P.cellsOf T ∧ (∀ o, ¬ D' (μ k) o) ∧ Closed P D' w' s' (pack P T cells)
  own : ∃ ow' : Own, (∀ b k, ow' b = some k → b < w'.heap.size ∧ k < st.length ∧ ∀ o, ¬ D' b o) ∧ (∀ b k, ow' b = some k → b < w.heap.size → ow b = some k) ∧
    (∀ (k : Nat) (T : TypeId) (s : SV), st[k]? = some (.box T s) → ow' (μ k) = some k) ∧
    ∀ (k : Nat) (T : TypeId) (bs : List UInt8), st[k]? = some (.bld T bs) → ∃ bs', st'[k]? = some (.bld T bs') ∧ BldRep P D' w' ow' μ k T bs'
  os : w'.os = w.os
  tape : w'.tape = w.tape
  output : w'.output = w.output
  size : w.heap.size ≤ w'.heap.size
  old : ∀ b, b < w.heap.size → ow b = none → w'.heap[b]? = w.heap[b]?

def CanEnter (P : Program) (f : FuncId) : Prop := ∀ (args : Array Value) (w : World), (callFunc f args).run P w = .ok (.enter f args) w

/-- A function's contract at these arguments. -/
def Meets (P : Program) (f : FuncId) (as : List SV) (st : List BX) (rs : List SV) (st' : List BX) : Prop :=
  CanEnter P f ∧ ∀ (D : Dom) (ow : Own) (μ : Nat → Nat) (w : World) (vals : Array Value), Pre P D ow μ st w as vals →
    Calls P f vals w fun e w' => ∃ v D', e = .returned v ∧ Post P D w ow μ st rs st' v D' w'

theorem canEnter_of {P : Program} {f : FuncId} {fn : Func} (hf : P.funcs[f]? = some fn) (hn : (fn.name == "runtime.NumGoroutine") = false) (hb : fn.body.isNone = false) : CanEnter P f := by
  intro args w
  have hn' : fn.name ≠ "runtime.NumGoroutine" := by simpa using hn
  have hb' : fn.body ≠ none := fun e => by rw [e] at hb; cases hb
  simp [callFunc, hf, hn', hb']

section
variable {Γ : Ctx} {D : Dom} {ow : Own} {μ : Nat → Nat} {st : List BX} {w : World}

theorem canon_sound {P : Program} {T : Option TypeId} {s s' : SV} {v : Value} (h : SRep P D w ow μ st s v) (hc : canon P T s = some s') : Closed P D w s' v := by
  intro ow' μ' st'
  unfold canon at hc
  split at hc
  · simp only [Option.some.injEq] at hc; subst hc; cases h; exact .bool
  · simp only [Option.some.injEq] at hc; subst hc; cases h; exact .int
  · simp only [Option.some.injEq] at hc; subst hc; cases h; exact .str
  · simp only [Option.some.injEq] at hc; subst hc
    cases h with | slice h => exact .slice h
  · simp only [Option.some.injEq] at hc; subst hc
    cases h with | data h1 h2 => exact .data h1 h2
  · simp only [Option.some.injEq] at hc; subst hc
    cases h with | map h => exact .map h
  · simp only [Option.some.injEq] at hc; subst hc; cases h; exact .raw
  · simp only [Option.some.injEq] at hc; subst hc
    cases h with | pto h1 h2 => exact .pto h1 h2
  · simp only [Option.some.injEq] at hc; subst hc
    cases h with | eif h1 h2 => exact .eif h1 h2
  · simp only [Option.some.injEq] at hc; subst hc
    cases h with | acc h => exact .slice h
  · split at hc
    · split at hc
      · simp only [Option.some.injEq] at hc; subst hc; cases h; exact .slice (.nil fun _ => rfl)
      · simp at hc
    · simp at hc
  · rename_i T' fs
    cases ho : isOf P T' (.agg T' fs) with
    | false => rw [ho] at hc; simp at hc
    | true =>
      rw [ho] at hc
      simp only [cond_true, Option.some.injEq] at hc; subst hc
      have hr := isOf_sound h T' ho
      cases h with
      | agg hT => exact .data (by simp [isAggB, hT]) (by simpa [Value.cells] using hr)
  · simp at hc

theorem dedup_nodup : ∀ l : List Nat, (dedup l).Nodup := by
  intro l
  induction l with
  | nil => simp [dedup]
  | cons k r ih =>
    unfold dedup
    cases h : (dedup r).any (Nat.beq k) with
    | true => simpa using ih
    | false =>
      simp only [cond_false]
      refine List.nodup_cons.2 ⟨fun hm => ?_, ih⟩
      have : (dedup r).any (Nat.beq k) = true := List.any_eq_true.2 ⟨k, hm, Nat.beq_refl k⟩
      rw [h] at this; cases this

theorem idx_spec {k : Nat} : ∀ {ks : List Nat}, ks.any (Nat.beq k) = true → ks[idx k ks]? = some k := by
  intro ks
  induction ks with
  | nil => intro h; simp at h
  | cons x r ih =>
    intro h
    unfold idx
    cases hb : Nat.beq k x with
    | true => have := Nat.eq_of_beq_eq_true hb; subst this; simp
    | false =>
      simp only [List.any_cons, hb, Bool.false_or] at h
      simpa using ih h

theorem subSt_spec {P : Program} : ∀ (ks : List Nat) (sub : List BX), subSt P st ks = some sub → sub.length = ks.length ∧ ∀ (j k : Nat), ks[j]? = some k → ∃ b b', st[k]? = some b ∧ canonBX P b = some b' ∧ sub[j]? = some b' := by
  intro ks
  induction ks with
  | nil => intro sub h; simp [subSt] at h; subst h; exact ⟨rfl, fun j k hj => by simp at hj⟩
  | cons x r ih =>
    intro sub h
    unfold subSt at h
    split at h
    · rename_i b hb
      split at h
      · rename_i y q hy hq
        simp only [Option.some.injEq] at h; subst h
        obtain ⟨h1, h2⟩ := ih q hq
        refine ⟨by simp [h1], fun j k hj => ?_⟩
        cases j with
        | zero => simp at hj; subst hj; exact ⟨b, y, hb, hy, rfl⟩
        | succ j => simp at hj; simpa using h2 j k hj
      · simp at h
    · simp at h

theorem canonBX_spec {P : Program} {b b' : BX} (h : canonBX P b = some b') : (∃ T s s', b = .box T s ∧ b' = .box T s' ∧ canon P (some T) s = some s') ∨ ∃ T bs, b = .bld T bs ∧ b' = .bld T bs := by
  unfold canonBX at h
  split at h
  · rename_i T s
    split at h
    · rename_i x hx; simp only [Option.some.injEq] at h; exact Or.inl ⟨T, s, x, rfl, h.symm, hx⟩
    · simp at h
  · rename_i T bs
    simp only [Option.some.injEq] at h; exact Or.inr ⟨T, bs, rfl, h.symm⟩
  · simp at h

theorem backSt_length : ∀ (ks : List Nat) (bs : List BX) (st : List BX), (backSt ks bs st).length = st.length := by
  intro ks
  induction ks with
  | nil => intro bs st; simp [backSt]
  | cons k r ih => intro bs st; cases bs with
    | nil => simp [backSt]
    | cons b q => simp [backSt, ih]

theorem backSt_other : ∀ (ks : List Nat) (bs : List BX) (st : List BX) (k : Nat), k ∉ ks → (backSt ks bs st)[k]? = st[k]? := by
  intro ks
  induction ks with
  | nil => intro bs st k _; simp [backSt]
  | cons x r ih => intro bs st k hk; cases bs with
    | nil => simp [backSt]
    | cons b q =>
      simp only [backSt]
      rw [ih q _ k (fun h => hk (by simp [h])), List.getElem?_set_ne (fun h => hk (by simp [h]))]

theorem backSt_at : ∀ (ks : List Nat) (bs : List BX) (st : List BX) (j k : Nat), ks.Nodup → bs.length = ks.length → ks[j]? = some k → k < st.length → (backSt ks bs st)[k]? = bs[j]? := by
  intro ks
  induction ks with
  | nil => intro bs st j k _ _ h; simp at h
  | cons x r ih => intro bs st j k hn hl hj hk; cases bs with
    | nil => simp at hl
    | cons b q =>
      simp only [backSt]
      obtain ⟨n1, n2⟩ := List.nodup_cons.1 hn
      cases j with
      | zero =>
        simp at hj; subst hj
        rw [backSt_other r q _ _ n1, List.getElem?_set_self hk]
        simp
      | succ j =>
        simp at hj
        rw [ih q _ j k n2 (by simpa using hl) hj (by simpa using hk)]
        simp

/-- Which of the things handed over does this block belong to? -/
def owSub (ow : Own) (ks : List Nat) (b : Nat) : Option Nat := match ow b with | some k => ks.findIdx? (· == k) | none => none

theorem owSub_some {ks : List Nat} {b j : Nat} (h : owSub ow ks b = some j) : ∃ k, ks[j]? = some k ∧ ow b = some k := by
  unfold owSub at h
  split at h
  · rename_i k hk
    rw [List.findIdx?_eq_some_iff_getElem] at h
    obtain ⟨hlt, h1, _⟩ := h
    have : ks[j] = k := by simpa using h1
    exact ⟨k, by rw [List.getElem?_eq_getElem hlt, this], hk⟩
  · cases h

theorem owSub_at {ks : List Nat} (hn : ks.Nodup) {j k b : Nat} (hj : ks[j]? = some k) (hb : ow b = some k) : owSub ow ks b = some j := by
  have hlt := (List.getElem?_eq_some_iff.1 hj).1
  have hkj := (List.getElem?_eq_some_iff.1 hj).2
  unfold owSub
  rw [hb]
  show ks.findIdx? (· == k) = some j
  rw [List.findIdx?_eq_some_iff_getElem]
  refine ⟨hlt, by simp [hkj], fun i hi => ?_⟩
  have hne : ks[i] ≠ ks[j] := List.pairwise_iff_getElem.1 hn i j (by omega) hlt hi
  simp only [Bool.not_eq_true, beq_eq_false_iff_ne, ne_eq]
  intro e
  exact hne (by rw [hkj]; exact e)

theorem owSub_none {ks : List Nat} {b : Nat} (h : ∀ k, k ∈ ks → ow b ≠ some k) : owSub ow ks b = none := by
  cases hh : owSub ow ks b with
  | none => rfl
  | some j =>
    obtain ⟨k, h1, h2⟩ := owSub_some hh
    exact absurd h2 (h k (List.mem_of_getElem? h1))

/-- Whose is this block behind a call? -/
def owBack (ow : Own) (ks : List Nat) (ow' : Own) : Own := fun b =>
  match ow' b with
  | some j => ks[j]?
  | none => match ow b with | some k => if k ∈ ks then none else some k | none => none

theorem argSV_sound (hw : WRel Γ D ow μ st w) {ks : List Nat} {sub : List BX} (hsub : subSt Γ.P st ks = some sub) {T : Option TypeId} {s s' : SV} {v : Value} (h : SRep Γ.P D w ow μ st s v) (ha : argSV Γ.P ks T s = some s') :
    SRep Γ.P D w (owSub ow ks) (fun j => μ (ks.getD j 0)) sub s' v := by
  have hspec := (subSt_spec ks sub hsub).2
  have refOk : ∀ (k : Nat) (p : List Nat) (T : TypeId) (v : Value), SRep Γ.P D w ow μ st (.ref k p T) v → ks.any (Nat.beq k) = true → SRep Γ.P D w (owSub ow ks) (fun j => μ (ks.getD j 0)) sub (.ref (idx k ks) p T) v := by
    intro k p T v h hb
    have hi := idx_spec hb
    obtain ⟨b, b', h1, h2, h3⟩ := hspec _ _ hi
    generalize hv : SV.ref k p T = sv at h
    cases h <;> first | (cases hv; done) | skip
    rename_i hk hp
    cases hv
    rw [h1] at hk; cases hk
    obtain ⟨TB, s0, s1, e1, rfl, h4⟩ | ⟨TB, bs, e1, _⟩ := canonBX_spec h2
    case inr => cases e1
    cases e1
    have := SRep.ref (P := Γ.P) (D := D) (w := w) (ow := owSub ow ks) (μ := fun j => μ (ks.getD j 0)) (st := sub) h3 hp
    simpa [List.getD, hi] using this
  have brefOk : ∀ (k : Nat) (T : TypeId) (v : Value), SRep Γ.P D w ow μ st (.bref k T) v → ks.any (Nat.beq k) = true → SRep Γ.P D w (owSub ow ks) (fun j => μ (ks.getD j 0)) sub (.bref (idx k ks) T) v := by
    intro k T v h hb
    have hi := idx_spec hb
    obtain ⟨b, b', h1, h2, h3⟩ := hspec _ _ hi
    generalize hv : SV.bref k T = sv at h
    cases h <;> first | (cases hv; done) | skip
    rename_i hk
    cases hv
    rw [h1] at hk; cases hk
    obtain ⟨TB, s0, s1, e1, rfl, h4⟩ | ⟨TB, bs, e1, rfl⟩ := canonBX_spec h2
    case inl => cases e1
    have := SRep.bref (P := Γ.P) (D := D) (w := w) (ow := owSub ow ks) (μ := fun j => μ (ks.getD j 0)) (st := sub) (T := T) h3
    simpa [List.getD, hi] using this
  have renOk : ∀ (cs cs' : List SV), ren Γ.P ks cs = some cs' → cs'.length = cs.length ∧ ∀ (i : Nat) (x : SV) (u : Value), cs'[i]? = some x → (∀ y, cs[i]? = some y → SRep Γ.P D w ow μ st y u) → SRep Γ.P D w (owSub ow ks) (fun j => μ (ks.getD j 0)) sub x u := by
    intro cs
    induction cs with
    | nil => intro cs' h; simp [ren] at h; subst h; exact ⟨rfl, fun i x u hx => by simp at hx⟩
    | cons c r ih =>
      intro cs' h
      unfold ren at h
      split at h
      · rename_i y q hy hq
        simp only [Option.some.injEq] at h; subst h
        obtain ⟨h1, h2⟩ := ih q hq
        refine ⟨by simp [h1], fun i x u hx hall => ?_⟩
        cases i with
        | zero =>
          simp at hx; subst hx
          have hc := hall c rfl
          unfold ren1 at hy
          split at hy
          · rename_i k p T
            cases hb : ks.any (Nat.beq k) with
            | false => rw [hb] at hy; simp at hy
            | true => rw [hb] at hy; simp only [cond_true, Option.some.injEq] at hy; subst hy; exact refOk k p T u hc hb
          · rename_i k T
            cases hb : ks.any (Nat.beq k) with
            | false => rw [hb] at hy; simp at hy
            | true => rw [hb] at hy; simp only [cond_true, Option.some.injEq] at hy; subst hy; exact brefOk k T u hc hb
          · exact canon_sound hc hy _ _ _
        | succ i => simp at hx; exact h2 i x u hx (fun y hy => hall y (by simpa using hy))
      · simp at h
  unfold argSV at ha
  split at ha
  · rename_i k p T'
    cases hb : ks.any (Nat.beq k) with
    | false => rw [hb] at ha; simp at ha
    | true => rw [hb] at ha; simp only [cond_true, Option.some.injEq] at ha; subst ha; exact refOk k p T' v h hb
  · rename_i k T'
    cases hb : ks.any (Nat.beq k) with
    | false => rw [hb] at ha; simp at ha
    | true => rw [hb] at ha; simp only [cond_true, Option.some.injEq] at ha; subst ha; exact brefOk k T' v h hb
  · rename_i f caps
    split at ha
    · rename_i cs hcs
      simp only [Option.some.injEq] at ha; subst ha
      obtain ⟨h1, h2⟩ := renOk caps cs hcs
      cases h with
      | fn hsz hall =>
        refine .fn (by rw [hsz, h1]) (fun i x u hx hu => h2 i x u hx (fun y hy => hall i y u hy hu))
    · simp at ha
  · exact canon_sound h ha _ _ _

theorem argsSV_sound (hw : WRel Γ D ow μ st w) {ks : List Nat} {sub : List BX} (hsub : subSt Γ.P st ks = some sub) : ∀ (args : List SV) (ts : List TypeId) (as : List SV), argsSV Γ.P ks ts args = some as →
    as.length = args.length ∧ ∀ (i : Nat) (s' : SV) (v : Value), as[i]? = some s' → (∀ s, args[i]? = some s → SRep Γ.P D w ow μ st s v) → SRep Γ.P D w (owSub ow ks) (fun j => μ (ks.getD j 0)) sub s' v := by
  intro args
  induction args with
  | nil => intro ts as h; simp [argsSV] at h; subst h; exact ⟨rfl, fun i s' v hi => by simp at hi⟩
  | cons s r ih =>
    intro ts as h
    unfold argsSV at h
    split at h
    · rename_i x q hx hq
      simp only [Option.some.injEq] at h; subst h
      obtain ⟨h1, h2⟩ := ih ts.tail q hq
      refine ⟨by simp [h1], fun i s' v hi hall => ?_⟩
      cases i with
      | zero => simp at hi; subst hi; exact argSV_sound hw hsub (hall s rfl) hx
      | succ i => simp at hi; exact h2 i s' v hi (fun y hy => hall y (by simpa using hy))
    · simp at h
end
end Go.Ab
