/- Regions whose order is drawn. -/
import Derived.Test.YtjogoleiodbfdaaAbDraw
set_option linter.unusedVariables false
set_option linter.unusedSimpArgs false
set_option linter.unnecessarySimpa false
namespace Go.Ab
open Go

inductive Anc (ops : Array Oper) : Nat → Nat → Prop
  | edge {j : Nat} {o : Oper} {x : Edge} : ops[j]? = some o → x ∈ o.after → Region.binds .any x = true → Anc ops x.on j
  | step {i j : Nat} {o : Oper} {x : Edge} : ops[j]? = some o → x ∈ o.after → Region.binds .any x = true → Anc ops i x.on → Anc ops i j

theorem edgeMask_bit {acc : List Nat} {i : Nat} : ∀ {es : List Edge}, Nat.testBit (edgeMask acc es) i = true → ∃ x, x ∈ es ∧ Region.binds .any x = true ∧ (i = x.on ∨ Nat.testBit (acc.getD x.on 0) i = true) := by
  intro es
  induction es with
  | nil => intro h; simp [edgeMask] at h
  | cons x r ih =>
    intro h
    unfold edgeMask at h
    cases hb : Region.binds .any x with
    | false =>
      rw [hb] at h
      obtain ⟨y, h1, h2⟩ := ih h
      exact ⟨y, List.mem_cons_of_mem _ h1, h2⟩
    | true =>
      rw [hb] at h
      simp only [cond_true, Nat.testBit_or, Bool.or_eq_true] at h
      rcases h with (h | h) | h
      · rw [Nat.testBit_two_pow] at h
        exact ⟨x, by simp, hb, Or.inl (by simpa [eq_comm] using h)⟩
      · exact ⟨x, by simp, hb, Or.inr h⟩
      · obtain ⟨y, h1, h2⟩ := ih h
        exact ⟨y, List.mem_cons_of_mem _ h1, h2⟩

theorem ancL_spec {ops : Array Oper} : ∀ (l : List Oper) (acc : List Nat), ops.toList.drop acc.length = l → (∀ j i, Nat.testBit (acc.getD j 0) i = true → Anc ops i j) → ∀ j i, Nat.testBit ((ancL l acc).getD j 0) i = true → Anc ops i j := by
  intro l
  induction l with
  | nil => intro acc _ h; exact h
  | cons o r ih =>
    intro acc hl h
    unfold ancL
    have ho : ops[acc.length]? = some o := by
      have : (ops.toList.drop acc.length)[0]? = some o := by rw [hl]; rfl
      simpa using this
    have hl' : ops.toList.drop (acc.length + 1) = r := by
      have : (ops.toList.drop acc.length).drop 1 = r := by rw [hl]; rfl
      rwa [List.drop_drop] at this
    refine ih _ (by simpa using hl') (fun j i hb => ?_)
    by_cases hj : j < acc.length
    · exact h j i (by simpa [List.getD, List.getElem?_append_left hj] using hb)
    · by_cases hj2 : j = acc.length
      · subst hj2
        have hb' : Nat.testBit (edgeMask acc o.after.toList) i = true := by simpa [List.getD] using hb
        obtain ⟨x, h1, h2, h3⟩ := edgeMask_bit hb'
        rcases h3 with rfl | h3
        · exact .edge ho (by simpa using h1) h2
        · exact .step ho (by simpa using h1) h2 (h _ _ h3)
      · have : (acc ++ [edgeMask acc o.after.toList])[j]? = none := List.getElem?_eq_none (by simp; omega)
        simp [List.getD, this] at hb

theorem lt_anc {ops : Array Oper} {i j : Nat} (h : (mkDI ops).lt i j = true) : i < j ∧ Anc ops i j := by
  unfold DI.lt at h
  simp only [Bool.and_eq_true] at h
  refine ⟨Nat.le_of_ble_eq_true h.1, ancL_spec ops.toList [] (by simp) (fun j i hb => by simp at hb) j i h.2⟩

/-- What is listed, listed are those ahead of it. -/
def Down (ops : Array Oper) (L : Array Bool) : Prop := ∀ j, L.getD j false = true → ∀ o, ops[j]? = some o → ∀ x, x ∈ o.after → Region.binds .any x = true → L.getD x.on false = true

theorem anc_in {ops : Array Oper} {L : Array Bool} (hd : Down ops L) {i j : Nat} (h : Anc ops i j) (hp : ∀ o, ops[j]? = some o → ∀ x, x ∈ o.after → Region.binds .any x = true → L.getD x.on false = true) : L.getD i false = true := by
  induction h with
  | edge ho hx hb => exact hp _ ho _ hx hb
  | step ho hx hb _ ih => exact ih (hd _ (hp _ ho _ hx hb))

/- Writers. -/
theorem writer_some {t : Nat} : ∀ {l : List Oper} {k i : Nat}, writer t l k = some i → k ≤ i ∧ ∃ o, l[i - k]? = some o ∧ o.dst = some t := by
  intro l
  induction l with
  | nil => intro k i h; simp [writer] at h
  | cons o r ih =>
    intro k i h
    have next : writer t r (k + 1) = some i → k ≤ i ∧ ∃ o', (o :: r)[i - k]? = some o' ∧ o'.dst = some t := by
      intro h
      obtain ⟨h1, o', h2, h3⟩ := ih h
      refine ⟨by omega, o', ?_, h3⟩
      have : i - k = (i - (k + 1)) + 1 := by omega
      rw [this]; simpa using h2
    unfold writer at h
    split at h
    · rename_i d hd
      cases hb : Nat.beq d t with
      | true =>
        rw [hb] at h
        simp only [cond_true, Option.some.injEq] at h
        subst h
        exact ⟨Nat.le_refl _, o, by simp, by rw [hd, Nat.eq_of_beq_eq_true hb]⟩
      | false => rw [hb] at h; exact next h
    · exact next h

theorem nodupB_nodup : ∀ {l : List Nat}, nodupB l = true → l.Nodup := by
  intro l
  induction l with
  | nil => intro _; simp
  | cons x r ih =>
    intro h
    simp only [nodupB, Bool.and_eq_true, Bool.not_eq_true'] at h
    refine List.nodup_cons.2 ⟨fun hm => ?_, ih h.2⟩
    have : r.any (Nat.beq x) = true := List.any_eq_true.2 ⟨x, hm, Nat.beq_refl x⟩
    rw [this] at h; cases h.1

theorem writer_of {t : Nat} : ∀ {l : List Oper} {k i : Nat} {o : Oper}, (dsts l).Nodup → l[i]? = some o → o.dst = some t → writer t l k = some (k + i) := by
  intro l
  induction l with
  | nil => intro k i o _ h; simp at h
  | cons x r ih =>
    intro k i o hn h hd
    have hr : (dsts r).Nodup := by
      unfold dsts at *
      simp only [List.filterMap_cons] at hn
      split at hn
      · exact hn
      · exact (List.nodup_cons.1 hn).2
    cases i with
    | zero =>
      simp at h; subst h
      unfold writer
      simp [hd]
    | succ i =>
      have h' : r[i]? = some o := by simpa using h
      have hm : t ∈ dsts r := List.mem_filterMap.2 ⟨o, List.mem_of_getElem? h', hd⟩
      have hrec : writer t r (k + 1) = some (k + (i + 1)) := by
        rw [ih (k := k + 1) hr h' hd]; congr 1; omega
      unfold writer
      split
      · rename_i d hx
        cases hb : Nat.beq d t with
        | true =>
          have := Nat.eq_of_beq_eq_true hb; subst this
          unfold dsts at hn hm
          simp only [List.filterMap_cons, hx] at hn
          exact absurd hm (List.nodup_cons.1 hn).1
        | false => exact hrec
      · exact hrec

theorem allIx_spec {f : Nat → Oper → Bool} : ∀ {l : List Oper} {k : Nat}, allIx f l k = true → ∀ i o, l[i]? = some o → f (k + i) o = true := by
  intro l
  induction l with
  | nil => intro k _ i o h; simp at h
  | cons x r ih =>
    intro k h i o hi
    simp only [allIx, Bool.and_eq_true] at h
    cases i with
    | zero => simp at hi; subst hi; exact h.1
    | succ i => have := ih h.2 i o (by simpa using hi); rwa [show k + (i + 1) = k + 1 + i by omega]

theorem edgesOk_spec : ∀ {l : List Oper} {k : Nat}, edgesOk l k = true → ∀ i o, l[i]? = some o → ∀ x, x ∈ o.after → Region.binds .any x = true → x.on < k + i := by
  intro l
  induction l with
  | nil => intro k _ i o h; simp at h
  | cons y r ih =>
    intro k h i o hi x hx hb
    simp only [edgesOk, Bool.and_eq_true, List.all_eq_true] at h
    cases i with
    | zero =>
      simp at hi; subst hi
      have := h.1 x (by simpa using hx)
      simp only [hb, Bool.not_true, Bool.false_or] at this
      exact Nat.le_of_ble_eq_true this
    | succ i => have := ih h.2 i o (by simpa using hi) x hx hb; omega

/- What the evaluator did. -/
structure DStep (C : Cfg) (d : DI) (ops : Array Oper) (n0 j : Nat) (o : Oper) (e : Env) (st : List BX) (v : SV) (st' : List BX) (lk lk' : List LM) : Prop where
  dst : dstOk C.n o.dst = true
  gd : gdOk d j o = true
  upd : d.upd j o = true → (bif isExt o.op then d.isN j else d.isA j) = true ∧ n0 ≤ st.length ∧ n0 ≤ st'.length ∧ (d.soft o = true → locOk n0 o (d.mask j e) = true) ∧ StepV C ops o (d.mask j e) st v st'
  non : d.upd j o = false → st' = st ∧ ∀ st2, (d.isA j = true → st2 = st) → (d.isA j = false → st2.take (bif d.isB j then n0 else 0) = st.take (bif d.isB j then n0 else 0)) → lmOf d n0 j o (d.mask j e) lk = none → StepV C ops o (d.mask j e) st2 v st2
  lm : ∀ p, d.upd j o = false → lmOf d n0 j o (d.mask j e) lk = some p → rdAc C.P p st = .val true v ∧ { p with v := v } ∈ lk'
  log : ∀ p, p ∈ lk' → p.u = true → p ∈ lk ∨ (p.j = j ∧ d.upd j o = true ∧ p.f = fun k => offRoad C o (d.mask j e) st k)
  sub : ∀ p, p ∈ lk → p ∈ lk'
  ok : d.upd j o = true → ∀ p, p ∈ lk → p.u = false → d.cmp p.j j = false → (isExt o.op || d.soft o) = true ∨ offRoad C o (d.mask j e) st p.k = true ∨ rdAc C.P p st' = .val true p.v ∨ (p.q.isSome = true ∧ isEntry o.op = true)

/-- A call that panics, in a region whose order is drawn. -/
structure DPan (C : Cfg) (d : DI) (n0 j : Nat) (o : Oper) (e : Env) (st : List BX) (sp : SV) (st' : List BX) : Prop where
  upd : d.upd j o = true
  ext : isExt o.op = false
  isA : d.isA j = true
  last : d.last j = true
  len : n0 ≤ st.length
  step : StepP C o (d.mask j e) st sp st'

theorem sameArr_spec {a : Ac} {v : SV} (h : sameArr a v = true) : a = .val true v := by
  unfold sameArr at h
  split at h
  · simp only [Bool.and_eq_true] at h
    obtain ⟨⟨h1, h2⟩, h3⟩ := h
    rw [Nat.eq_of_beq_eq_true h1, Nat.eq_of_beq_eq_true h2, Nat.eq_of_beq_eq_true h3]
  · cases h

theorem lmOf_spec {d : DI} {n0 j : Nat} {o : Oper} {e : Env} {lk : List LM} {p : LM} (h : lmOf d n0 j o e lk = some p) : o.guard = none ∧ (isCall o.op = false ∧ ∀ (P : Program) (ρt ρf : Operand → SV) (st : List BX), ac P o.op (opd e []) ρt ρf st = rdAc P p st) ∧ rdRoot p = some p.k ∧ p.k < n0 ∧ p.j = j ∧ d.isA j = false ∧ p.u = false ∧
    allIx (fun i x => !(d.upd i x) || Nat.ble j i || d.cmp i j || logged lk i p.k) d.l 0 = true := by
  unfold lmOf at h
  split at h
  · rename_i T a hg hop
    split at h
    · rename_i k hk
      cases hc : (Nat.blt k n0 && !(d.isA j) && !(d.isB j) && allIx (fun i x => !(d.upd i x) || Nat.ble j i || d.cmp i j || logged lk i k) d.l 0) with
      | false => rw [hc] at h; cases h
      | true =>
        rw [hc] at h
        simp only [cond_true, Option.some.injEq] at h
        subst h
        simp only [Bool.and_eq_true, Bool.not_eq_true'] at hc
        exact ⟨hg, ⟨by rw [hop]; rfl, fun P ρt ρf st => by rw [hop]; rfl⟩, hk, Nat.le_of_ble_eq_true hc.1.1.1, rfl, hc.1.1.2, rfl, hc.2⟩
    · cases h
  · rename_i T m x hg hop
    split at h
    · rename_i k hk
      cases hc : (Nat.blt k n0 && !(d.isA j) && !(d.isB j) && allIx (fun i x => !(d.upd i x) || Nat.ble j i || d.cmp i j || logged lk i k) d.l 0) with
      | false => rw [hc] at h; cases h
      | true =>
        rw [hc] at h
        simp only [cond_true, Option.some.injEq] at h
        subst h
        simp only [Bool.and_eq_true, Bool.not_eq_true'] at hc
        exact ⟨hg, ⟨by rw [hop]; rfl, fun P ρt ρf st => by rw [hop]; show lookupAc P T st (opd e [] m) (opd e [] x) false = _; rw [hk]; rfl⟩, rfl, Nat.le_of_ble_eq_true hc.1.1.1, rfl, hc.1.1.2, rfl, hc.2⟩
    · cases h
  · cases h

theorem opW_rd {R : Type} {C : Cfg} {ops : Array Oper} {o : Oper} {e : Env} {st : List BX} {K : SV → Option R} {r : R} {p : LM} (h : opW C ops o e st K = some r) (hg : o.guard = none) (hc : isCall o.op = false) (hop : ∀ (P : Program) (ρt ρf : Operand → SV) (st : List BX), ac P o.op (opd e []) ρt ρf st = rdAc P p st) : ∃ v, rdAc C.P p st = .val true v ∧ K v = some r := by
  unfold opW at h
  rw [hg] at h
  simp only [hop] at h
  split at h
  · rename_i c v hac
    cases c with
    | false => cases h
    | true => exact ⟨v, hac, h⟩
  · rw [hc] at h; cases h
  · cases h

theorem runD_steps {R : Type} {C : Cfg} (hC : CallOk C) {d : DI} {ops : Array Oper} {n0 : Nat} {r : R} {K : Env → List BX → Option R} {X : SV → List BX → Option R} : ∀ (l : List Oper) (j : Nat) (e : Env) (st : List BX) (lk : List LM), runD C d ops n0 l j e st lk K X = some r →
    ∃ (N : Nat) (v : Nat → SV) (s : Nat → List BX) (E : Nat → Env) (LK : Nat → List LM), s j = st ∧ E j = e ∧ LK j = lk ∧ N ≤ l.length ∧ (∀ i o, i < N → l[i]? = some o → DStep C d ops n0 (j + i) o (E (j + i)) (s (j + i)) (v (j + i)) (s (j + i + 1)) (LK (j + i)) (LK (j + i + 1)) ∧ E (j + i + 1) = put (E (j + i)) o.dst (v (j + i))) ∧
      ((N = l.length ∧ K (E (j + N)) (s (j + N)) = some r) ∨ ∃ o sp st', l[N]? = some o ∧ DPan C d n0 (j + N) o (E (j + N)) (s (j + N)) sp st' ∧ X sp st' = some r) := by
  intro l
  induction l with
  | nil => intro j e st lk h; exact ⟨0, fun _ => .undef, fun _ => st, fun _ => e, fun _ => lk, rfl, rfl, rfl, by simp, fun i o _ h => by simp at h, Or.inl ⟨rfl, h⟩⟩
  | cons o l ih =>
    intro j e st lk h
    unfold runD at h
    cases hg : (dstOk C.n o.dst && gdOk d j o) with
    | false => rw [hg] at h; cases h
    | true =>
      rw [hg] at h
      simp only [cond_true] at h
      simp only [Bool.and_eq_true] at hg
      have key : (∃ v0 st' lk', DStep C d ops n0 j o e st v0 st' lk lk' ∧ runD C d ops n0 l (j + 1) (put e o.dst v0) st' lk' K X = some r) ∨ ∃ sp st', DPan C d n0 j o e st sp st' ∧ X sp st' = some r := by
        cases hu : d.upd j o with
        | true =>
          rw [hu] at h
          simp only [cond_true] at h
          cases hA : ((bif isExt o.op then d.isN j else d.isA j) && Nat.ble n0 st.length && (!(d.soft o) || locOk n0 o (d.mask j e))) with
          | false => rw [hA] at h; cases h
          | true =>
            rw [hA] at h
            simp only [cond_true] at h
            simp only [Bool.and_eq_true, Bool.or_eq_true, Bool.not_eq_true'] at hA
            obtain ⟨⟨hA1, hA2⟩, hA3⟩ := hA
            rcases opV_step hC h with ⟨v0, st', hs, hk⟩ | ⟨sp, st', hs, hk⟩
            · refine Or.inl ?_
              cases hl : (Nat.ble n0 st'.length && lmOk C d j o (d.mask j e) st st' lk) with
              | false => rw [hl] at hk; cases hk
              | true =>
                rw [hl] at hk
                simp only [Bool.and_eq_true] at hl
                refine ⟨v0, st', _, ⟨hg.1, hg.2, fun _ => ⟨hA1, Nat.le_of_ble_eq_true hA2, Nat.le_of_ble_eq_true hl.1, fun hx => ?_, hs⟩, fun hf => absurd hf (by rw [hu]; decide), fun p hf => absurd hf (by rw [hu]; decide), fun p hp _ => ?_, fun p hp => List.mem_append_left _ hp, fun _ p hp hpu hcm => ?_⟩, hk⟩
                · rcases hA3 with h2 | h2
                  · rw [hx] at h2; cases h2
                  · exact h2
                · rcases List.mem_append.1 hp with hp | hp
                  · exact Or.inl hp
                  · rw [List.mem_singleton] at hp; subst hp; exact Or.inr ⟨rfl, hu, rfl⟩
                · have h3 := List.all_eq_true.1 hl.2 p hp
                  rw [hcm, hpu] at h3
                  simp only [Bool.false_or, Bool.or_eq_true] at h3
                  rcases h3 with (((h3 | h3) | h3) | h3) | h3
                  · exact Or.inl (by rw [h3]; rfl)
                  · exact Or.inl (by rw [h3]; simp)
                  · exact Or.inr (Or.inl h3)
                  · exact Or.inr (Or.inr (Or.inl (sameArr_spec h3)))
                  · simp only [Bool.and_eq_true] at h3; exact Or.inr (Or.inr (Or.inr h3))
            · refine Or.inr ⟨sp, st', ?_⟩
              cases hl : (d.last j && !(isExt o.op)) with
              | false => rw [hl] at hk; cases hk
              | true =>
                rw [hl] at hk
                simp only [Bool.and_eq_true, Bool.not_eq_true'] at hl
                rw [hl.2] at hA1
                exact ⟨⟨hu, hl.2, hA1, hl.1, Nat.le_of_ble_eq_true hA2, hs⟩, hk⟩
        | false =>
          rw [hu] at h
          simp only [cond_false] at h
          refine Or.inl ?_
          cases hlm : lmOf d n0 j o (d.mask j e) lk with
          | some p =>
            rw [hlm] at h
            simp only at h
            obtain ⟨hgn, ⟨hnc, hop⟩, _, _, _, hnA, hpu, _⟩ := lmOf_spec hlm
            obtain ⟨v0, hl, hk⟩ := opW_rd h hgn hnc hop
            refine ⟨v0, st, _, ⟨hg.1, hg.2, fun hf => absurd hf (by rw [hu]; decide), fun _ => ⟨rfl, fun st2 _ _ hn => ?_⟩, fun q _ hq => ?_, fun q hq hqu => ?_, fun q hq => List.mem_append_left _ hq, fun hf => absurd hf (by rw [hu]; decide)⟩, hk⟩
            · rw [hlm] at hn; cases hn
            · rw [hlm] at hq; cases hq
              exact ⟨hl, by simp⟩
            · rcases List.mem_append.1 hq with hq | hq
              · exact Or.inl hq
              · rw [List.mem_singleton] at hq; subst hq; exact absurd hqu (by simp [hpu])
          | none =>
            rw [hlm] at h
            simp only at h
            cases hA : d.isA j with
            | true =>
              rw [hA] at h
              simp only [cond_true] at h
              obtain ⟨v0, hs, hk⟩ := opW_step hC h
              refine ⟨v0, st, lk, ⟨hg.1, hg.2, fun hf => absurd hf (by rw [hu]; decide), fun _ => ⟨rfl, fun st2 h1 _ _ => ?_⟩, fun q _ hq => absurd hq (by rw [hlm]; simp), fun _ hq _ => Or.inl hq, fun _ hq => hq, fun hf => absurd hf (by rw [hu]; decide)⟩, hk⟩
              exact hs st2 st2.length (by rw [List.take_length, h1 hA])
            | false =>
              rw [hA] at h
              simp only [cond_false] at h
              obtain ⟨v0, hs, hk⟩ := opW_step hC h
              exact ⟨v0, st, lk, ⟨hg.1, hg.2, fun hf => absurd hf (by rw [hu]; decide), fun _ => ⟨rfl, fun st2 _ h1 _ => hs st2 _ (h1 hA)⟩, fun q _ hq => absurd hq (by rw [hlm]; simp), fun _ hq _ => Or.inl hq, fun _ hq => hq, fun hf => absurd hf (by rw [hu]; decide)⟩, hk⟩
      rcases key with ⟨v0, st', lk', hs, hk⟩ | ⟨sp, st', hp, hk⟩
      · obtain ⟨N, v, s, E, LK, h1, h2, h2', hN, h3, h4⟩ := ih (j + 1) _ _ _ hk
        refine ⟨N + 1, fun i => if i = j then v0 else v i, fun i => if i = j then st else s i, fun i => if i = j then e else E i, fun i => if i = j then lk else LK i, by simp, by simp, by simp, by simpa using hN, fun i x hlt hi => ?_, ?_⟩
        · cases i with
          | zero =>
            simp at hi; subst hi
            simp only [Nat.add_zero, if_true]
            rw [if_neg (by omega), if_neg (by omega), if_neg (by omega), h1, h2, h2']
            exact ⟨hs, rfl⟩
          | succ i =>
            have := h3 i x (by omega) (by simpa using hi)
            have e1 : j + (i + 1) = j + 1 + i := by omega
            rw [e1]
            simp only [if_neg (show ¬ (j + 1 + i = j) by omega), if_neg (show ¬ (j + 1 + i + 1 = j) by omega)]
            exact this
        · rw [show j + (N + 1) = j + 1 + N by omega]
          simp only [if_neg (show ¬ (j + 1 + N = j) by omega)]
          rcases h4 with ⟨h4, h5⟩ | ⟨o', sp, st', h4, h5, h6⟩
          · exact Or.inl ⟨by simp [h4], h5⟩
          · exact Or.inr ⟨o', sp, st', by simpa using h4, h5, h6⟩
      · exact ⟨0, fun _ => .undef, fun _ => st, fun _ => e, fun _ => lk, rfl, rfl, rfl, by simp, fun i o h => by omega, Or.inr ⟨o, sp, st', rfl, hp, hk⟩⟩
end Go.Ab
