/- Any order of a region comes to what the evaluator says. -/
import Derived.Test.YthkagpefbelhoaaGreatDoorAbDraw2
set_option linter.unusedVariables false
set_option linter.unusedSimpArgs false
set_option linter.unnecessarySimpa false
namespace Go.Ab
open Go

theorem ext_take {C : Cfg} {ops : Array Oper} {o : Oper} {e : Env} {st st' : List BX} {v : SV} {n0 : Nat} (hx : isExt o.op = true) (h : StepV C ops o e st v st') (hn : n0 ≤ st.length) : st'.take n0 = st.take n0 := by
  cases h with
  | val => rfl
  | gval => rfl
  | gcall => rfl
  | upd hg hac =>
    unfold isExt at hx
    split at hx
    · rename_i T hop
      rw [hop] at hac
      simp only [ac, allocAc] at hac
      cases hb : isBldT C.P T <;> cases hz : zeroOk C.P T <;> simp only [hb, hz, cond_true, cond_false] at hac <;> cases hac <;> rw [List.take_append_of_le_length hn]
    · rename_i T x hop
      rw [hop] at hac
      simp only [ac] at hac
      cases hz : fitsT C.P T (opd e [] x) <;> rw [hz] at hac <;> cases hac
      rw [List.take_append_of_le_length hn]
    · rename_i T r hop
      rw [hop] at hac
      simp only [ac, makeMapAc] at hac
      split at hac <;> cases hac
      rw [List.take_append_of_le_length hn]
    · cases hx
  | call hg hac =>
    exfalso
    unfold isExt at hx
    split at hx
    · rename_i T hop
      rw [hop] at hac
      simp only [ac, allocAc] at hac
      cases hb : isBldT C.P T <;> cases hz : zeroOk C.P T <;> simp only [hb, hz, cond_true, cond_false] at hac <;> cases hac
    · rename_i T x hop
      rw [hop] at hac
      simp only [ac] at hac
      cases hz : fitsT C.P T (opd e [] x) <;> rw [hz] at hac <;> cases hac
    · rename_i T r hop
      rw [hop] at hac
      simp only [ac, makeMapAc] at hac
      split at hac <;> cases hac
    · cases hx

theorem listed_set {L : Array Bool} {j i : Nat} (hj : j < L.size) : (L.setIfInBounds j true).getD i false = if i = j then true else L.getD i false := by
  by_cases h : i = j
  · subst h
    simp [hj]
  · have : j ≠ i := fun e => h e.symm
    simp [h, Array.getElem?_setIfInBounds_ne this]

theorem rep_false (n i : Nat) : (Array.replicate n false).getD i false = false := by
  by_cases h : i < n <;> simp [h]

def envL (ops : Array Oper) (v : Nat → SV) (e : Env) (L : Array Bool) : Env := fun t => match writer t ops.toList 0 with | some i => if L.getD i false = true then v i else e t | none => e t

def unl (n : Nat) (L : Array Bool) : Nat := ((List.range n).filter fun i => !L.getD i false).length

theorem filter_lt {p q : Nat → Bool} {j : Nat} (hq : ∀ i, q i = true → p i = true) (h1 : p j = true) (h2 : q j = false) : ∀ {l : List Nat}, j ∈ l → (l.filter q).length < (l.filter p).length := by
  intro l
  have le : ∀ l : List Nat, (l.filter q).length ≤ (l.filter p).length := by
    intro l
    induction l with
    | nil => simp
    | cons x r ih =>
      simp only [List.filter_cons]
      cases hx : q x with
      | true => simp [hq x hx]; exact ih
      | false => cases hp : p x <;> simp <;> omega
  induction l with
  | nil => intro h; cases h
  | cons x r ih =>
    intro h
    simp only [List.filter_cons]
    rcases List.mem_cons.1 h with rfl | h
    · simp [h1, h2]; have := le r; omega
    · have := ih h
      cases hx : q x with
      | true => simp [hq x hx]; exact this
      | false => cases hp : p x <;> simp <;> omega

section
variable {Γ : Ctx}

def UpdAt (ops : Array Oper) (i : Nat) : Prop := ∃ o, ops[i]? = some o ∧ (mkDI ops).upd i o = true

structure DInv (Γ : Ctx) (ops : Array Oper) (v : Nat → SV) (s : Nat → List BX) (e : Env) (L : Array Bool) (a : Act) (w : World) : Prop where
  size : L.size = ops.size
  down : Down ops L
  gd : ∀ t u want x, envL ops v e L t = .gd u want x → ∃ g o, L.getD g false = true ∧ ops[g]? = some o ∧ o.dst = some u
  k : ∃ k, k ≤ ops.size ∧ (∀ i, i < k → UpdAt ops i → L.getD i false = true) ∧ (∀ i, k ≤ i → UpdAt ops i → L.getD i false = false) ∧ Rel Γ (envL ops v e L) (s k) a w

theorem runD_sound {R : Type} {C : Cfg} (hC : CallOk C) (hP : C.P = Γ.P) (hn : Γ.n = C.n) {ops : Array Oper} (hd : drawOk Γ.P ops = true) {e : Env} {st : List BX} {K : Env → List BX → Option R} {r : R} (h : runD C (mkDI ops) ops st.length ops.toList 0 e st K = some r)
    (hng : ∀ t u want x, e t ≠ .gd u want x) {Q : Exit → Act → World → Prop} (hK : ∀ e' st' a' w', K e' st' = some r → Rel Γ e' st' a' w' → Q .normal a' w') (a : Act) (w : World) (hrel : Rel Γ e st a w) :
    wpAny Γ.P .any ops Q ops.size (Array.replicate ops.size false) a w := by
  simp only [drawOk, Bool.and_eq_true] at hd
  obtain ⟨⟨_, hedge⟩, hnd⟩ := hd
  have hnd := nodupB_nodup hnd
  have hedge := edgesOk_spec hedge
  obtain ⟨v, s, E, hs0, hE0, hstep, hk⟩ := runD_steps hC ops.toList 0 e st h
  have hlen : ops.toList.length = ops.size := by simp
  have hstep : ∀ j o, ops[j]? = some o → DStep C (mkDI ops) ops st.length j o (E j) (s j) (v j) (s (j + 1)) ∧ E (j + 1) = put (E j) o.dst (v j) := by
    intro j o ho
    have := hstep j o (by simpa using ho)
    simpa using this
  rw [Nat.zero_add, hlen] at hk
  have hwr : ∀ j o t, ops[j]? = some o → o.dst = some t → writer t ops.toList 0 = some j := by
    intro j o t ho hdst
    have := writer_of (k := 0) hnd (by simpa using ho) hdst
    simpa using this
  have hwr' : ∀ t i, writer t ops.toList 0 = some i → ∃ o, ops[i]? = some o ∧ o.dst = some t := by
    intro t i hw
    obtain ⟨_, o, h1, h2⟩ := writer_some hw
    exact ⟨o, by simpa using h1, h2⟩
  -- the evaluator's slots
  have hE : ∀ j, j ≤ ops.size → ∀ t, E j t = match writer t ops.toList 0 with | some i => if i < j then v i else e t | none => e t := by
    intro j
    induction j with
    | zero => intro _ t; rw [hE0]; split <;> simp
    | succ j ih =>
      intro hj t
      have ho : ops[j]? = some ops[j] := Array.getElem?_eq_getElem (by omega)
      rw [(hstep j _ ho).2]
      have ih := ih (by omega) t
      cases hdst : ops[j].dst with
      | none =>
        simp only [put, ih]
        cases hw : writer t ops.toList 0 with
        | none => rfl
        | some i =>
          simp only
          obtain ⟨o, h1, h2⟩ := hwr' t i hw
          have : i ≠ j := fun hh => by subst hh; rw [ho] at h1; cases h1; rw [hdst] at h2; cases h2
          by_cases hij : i < j
          · rw [if_pos hij, if_pos (by omega)]
          · rw [if_neg hij, if_neg (by omega)]
      | some d =>
        simp only [put, Env.set]
        cases hb : Nat.beq t d with
        | true =>
          have := Nat.eq_of_beq_eq_true hb; subst this
          rw [hwr j _ t ho hdst]
          simp
        | false =>
          simp only [cond_false, ih]
          cases hw : writer t ops.toList 0 with
          | none => rfl
          | some i =>
            simp only
            obtain ⟨o, h1, h2⟩ := hwr' t i hw
            have : i ≠ j := fun hh => by
              subst hh; rw [ho] at h1; cases h1; rw [hdst] at h2; cases h2
              rw [Nat.beq_refl] at hb; cases hb
            by_cases hij : i < j
            · rw [if_pos hij, if_pos (by omega)]
            · rw [if_neg hij, if_neg (by omega)]
  -- where nothing is turned, the state stays
  have hsame : ∀ p q, p ≤ q → q ≤ ops.size → (∀ i, p ≤ i → i < q → ¬ UpdAt ops i) → s p = s q := by
    intro p q hpq
    induction q with
    | zero => intro _ _; have : p = 0 := by omega
              subst this; rfl
    | succ q ih =>
      intro hq hno
      by_cases he : p = q + 1
      · subst he; rfl
      · have ho : ops[q]? = some ops[q] := Array.getElem?_eq_getElem (by omega)
        have hu : (mkDI ops).upd q ops[q] = false := by
          cases hb : (mkDI ops).upd q ops[q] with
          | false => rfl
          | true => exact absurd ⟨_, ho, hb⟩ (hno q (by omega) (by omega))
        rw [ih (by omega) (by omega) (fun i h1 h2 => hno i h1 (by omega)), ((hstep q _ ho).1.non hu).1]
  have htake : ∀ p q, p ≤ q → q ≤ ops.size → (∀ i o, p ≤ i → i < q → ops[i]? = some o → (mkDI ops).upd i o = true → isExt o.op = true) → (s p).take st.length = (s q).take st.length := by
    intro p q hpq
    induction q with
    | zero => intro _ _; have : p = 0 := by omega
              subst this; rfl
    | succ q ih =>
      intro hq hno
      by_cases he : p = q + 1
      · subst he; rfl
      · have ho : ops[q]? = some ops[q] := Array.getElem?_eq_getElem (by omega)
        rw [ih (by omega) (by omega) (fun i o h1 h2 => hno i o h1 (by omega))]
        cases hu : (mkDI ops).upd q ops[q] with
        | false => rw [((hstep q _ ho).1.non hu).1]
        | true =>
          have hx := hno q _ (by omega) (by omega) ho hu
          obtain ⟨_, h2, h3⟩ := (hstep q _ ho).1.upd hu
          exact (ext_take hx h3 (h2 hx)).symm
  -- the end
  have hend : ∀ L a w, DInv Γ ops v s e L a w → (∀ i, i < ops.size → L.getD i false = true) → Q .normal a w := by
    intro L a w hi hall
    obtain ⟨k, hk1, hk2, hk3, hr⟩ := hi.k
    have e1 : s k = s ops.size := hsame k ops.size hk1 (Nat.le_refl _) (fun i h1 h2 hu => by
      have := hk3 i h1 hu; rw [hall i h2] at this; cases this)
    have e2 : envL ops v e L = E ops.size := by
      funext t
      rw [hE _ (Nat.le_refl _)]
      unfold envL
      cases hw : writer t ops.toList 0 with
      | none => rfl
      | some i =>
        obtain ⟨o, h1, _⟩ := hwr' t i hw
        have hlt : i < ops.size := (Array.getElem?_eq_some_iff.1 h1).1
        simp only [hall i hlt, if_pos hlt, if_true]
    rw [e1, e2] at hr
    exact hK _ _ _ _ hk hr
  have hready : ∀ L, L.size = ops.size → Region.ready .any ops L = [] → ∀ i, i < ops.size → L.getD i false = true := by
    intro L hsz hr i
    induction i using Nat.strongRecOn with
    | _ i ih =>
      intro hi
      cases hb : L.getD i false with
      | true => rfl
      | false =>
        have ho : ops[i]? = some ops[i] := Array.getElem?_eq_getElem hi
        have hm : i ∈ Region.ready .any ops L := mem_ready.2 ⟨by
          have hlt : i < L.size := by omega
          simpa [hlt] using hb, _, ho, fun x hx hbx => by
          have hlt := hedge i _ (by simpa using ho) x hx hbx
          exact ih x.on (by omega) (by omega)⟩
        rw [hr] at hm; cases hm
  have main : ∀ fuel L a w, DInv Γ ops v s e L a w → unl ops.size L ≤ fuel → wpAny Γ.P .any ops Q fuel L a w := by
    intro fuel
    induction fuel with
    | zero =>
      intro L a w hi hu
      have hall : ∀ i, i < ops.size → L.getD i false = true := by
        intro i hlt
        cases hb : L.getD i false with
        | true => rfl
        | false =>
          have : i ∈ (List.range ops.size).filter fun i => !L.getD i false := List.mem_filter.2 ⟨List.mem_range.2 hlt, by rw [hb]; rfl⟩
          have := List.length_pos_of_mem this
          unfold unl at hu; omega
      refine ⟨?_, hend L a w hi hall⟩
      cases hr : Region.ready .any ops L with
      | nil => rfl
      | cons i r =>
        have hm : i ∈ Region.ready .any ops L := by rw [hr]; simp
        obtain ⟨h1, o, ho, _⟩ := mem_ready.1 hm
        have hlt : i < ops.size := (Array.getElem?_eq_some_iff.1 ho).1
        have := hall i hlt
        have hlt' : i < L.size := by rw [hi.size]; exact hlt
        simp [hlt'] at this h1
        rw [this] at h1; cases h1
    | succ fuel ih =>
      intro L a w hi hu
      refine ⟨fun hr => hend L a w hi (hready L hi.size hr), fun j hj => ?_⟩
      obtain ⟨hj1, o, ho, hpre⟩ := mem_ready.1 hj
      have hlt : j < ops.size := (Array.getElem?_eq_some_iff.1 ho).1
      have hltL : j < L.size := by rw [hi.size]; exact hlt
      have hj0 : L.getD j false = false := by simpa [hltL] using hj1
      have hup : ∀ i, Anc ops i j → L.getD i false = true := fun i ha => anc_in hi.down ha (fun o' ho' x hx hb => by rw [ho] at ho'; cases ho'; exact hpre x hx hb)
      have hdn : ∀ i, Anc ops j i → L.getD i false = false := fun i ha => by
        cases hb : L.getD i false with
        | false => rfl
        | true =>
          have := anc_in hi.down ha (hi.down i hb)
          rw [hj0] at this; cases this
      have hcmp : ∀ i, (mkDI ops).cmp i j = true → i ≠ j → (i < j ∧ L.getD i false = true) ∨ (j < i ∧ L.getD i false = false) := by
        intro i hc hne
        unfold DI.cmp at hc
        cases hb : Nat.beq i j with
        | true => exact absurd (Nat.eq_of_beq_eq_true hb) hne
        | false =>
          rw [hb] at hc
          simp only [cond_false] at hc
          cases hb2 : Nat.blt i j with
          | true => rw [hb2] at hc; obtain ⟨h1, h2⟩ := lt_anc hc; exact Or.inl ⟨h1, hup i h2⟩
          | false => rw [hb2] at hc; obtain ⟨h1, h2⟩ := lt_anc hc; exact Or.inr ⟨h1, hdn i h2⟩
      obtain ⟨hds, hput⟩ := hstep j o ho
      obtain ⟨k, hk1, hk2, hk3, hr⟩ := hi.k
      have hEL : ∀ t i, writer t ops.toList 0 = some i → i ≠ j → (mkDI ops).cmp i j = true → E j t = envL ops v e L t := by
        intro t i hw hne hc
        rw [hE j (by omega)]
        unfold envL
        simp only [hw]
        rcases hcmp i hc hne with ⟨h1, h2⟩ | ⟨h1, h2⟩
        · rw [if_pos h1, if_pos h2]
        · rw [if_neg (by omega), if_neg (by rw [h2]; decide)]
      have hle : ∀ t, (mkDI ops).mask j (E j) t = .undef ∨ (mkDI ops).mask j (E j) t = envL ops v e L t := by
        intro t
        unfold DI.mask
        show (match writer t ops.toList 0 with | some i => (bif (mkDI ops).cmp i j then E j t else .undef) | none => E j t) = _ ∨ (match writer t ops.toList 0 with | some i => (bif (mkDI ops).cmp i j then E j t else .undef) | none => E j t) = _
        cases hw : writer t ops.toList 0 with
        | none =>
          refine Or.inr ?_
          simp only
          rw [hE j (by omega)]
          unfold envL
          simp only [hw]
        | some i =>
          simp only
          cases hc : (mkDI ops).cmp i j with
          | false => exact Or.inl rfl
          | true =>
            refine Or.inr ?_
            simp only [cond_true]
            by_cases hne : i = j
            · subst hne
              rw [hE i (by omega)]
              unfold envL
              simp only [hw]
              rw [if_neg (by omega), if_neg (by rw [hj0]; decide)]
            · exact hEL t i hw hne hc
      -- where the state stands
      have hAk : (mkDI ops).isA j = true → ∀ i, UpdAt ops i → i ≠ j → (i < j ∧ L.getD i false = true) ∨ (j < i ∧ L.getD i false = false) := by
        intro hA i ⟨oi, hoi, hui⟩ hne
        have := allIx_spec hA i oi (by simpa [mkDI] using hoi)
        simp only [Nat.zero_add, hui, Bool.not_true, Bool.false_or] at this
        exact hcmp i this hne
      have hkj : (mkDI ops).isA j = true → ∀ i, k ≤ i → i < j → ¬ UpdAt ops i := by
        intro hA i h1 h2 hui
        rcases hAk hA i hui (by omega) with ⟨_, h3⟩ | ⟨h3, _⟩
        · have := hk3 i h1 hui; rw [this] at h3; cases h3
        · omega
      have hjk : (mkDI ops).isA j = true → ∀ i, j < i → i < k → ¬ UpdAt ops i := by
        intro hA i h1 h2 hui
        rcases hAk hA i hui (by omega) with ⟨h3, _⟩ | ⟨_, h3⟩
        · omega
        · have := hk2 i h2 hui; rw [this] at h3; cases h3
      have hsz' : (L.setIfInBounds j true).size = ops.size := by simp [hi.size]
      have hgo : ∀ g want t, o.guard = some (g, want) → (ops[g]?).bind (·.dst) = some t → L.getD g false = true ∧ ∃ og, ops[g]? = some og ∧ og.dst = some t := by
        intro g want t hg ht
        have := hds.gd
        unfold gdOk at this
        rw [hg] at this
        obtain ⟨h1, h2⟩ := lt_anc this
        cases hog : ops[g]? with
        | none => rw [hog] at ht; cases ht
        | some og => rw [hog] at ht; exact ⟨hup g h2, og, rfl, ht⟩
      have notj : ∀ g og t, L.getD g false = true → ops[g]? = some og → og.dst = some t → o.dst ≠ some t := by
        intro g og t hg hog ht hd
        have h1 := hwr g og t hog ht
        have h2 := hwr j o t ho hd
        rw [h1] at h2; cases h2
        rw [hj0] at hg; cases hg
      -- afterwards
      have after : ∀ st2 k', k' ≤ ops.size → s k' = st2 → (∀ i, i < k' → UpdAt ops i → (L.setIfInBounds j true).getD i false = true) → (∀ i, k' ≤ i → UpdAt ops i → (L.setIfInBounds j true).getD i false = false) →
          (∀ u want x, v j = .gd u want x → ∃ g, o.guard = some (g, want) ∧ (ops[g]?).bind (·.dst) = some u) → ∀ a' w', Rel Γ (put (envL ops v e L) o.dst (v j)) st2 a' w' → wpAny Γ.P .any ops Q fuel (L.setIfInBounds j true) a' w' := by
        intro st2 k' hk' hst h1 h2 hgd a' w' hr'
        have henv : put (envL ops v e L) o.dst (v j) = envL ops v e (L.setIfInBounds j true) := by
          funext t
          cases hd : o.dst with
          | none =>
            show envL ops v e L t = _
            unfold envL
            cases hw : writer t ops.toList 0 with
            | none => rfl
            | some i =>
              simp only
              obtain ⟨oi, q1, q2⟩ := hwr' t i hw
              have : i ≠ j := fun hh => by subst hh; rw [ho] at q1; cases q1; rw [hd] at q2; cases q2
              rw [listed_set hltL, if_neg this]
          | some d =>
            simp only [put, Env.set]
            cases hb : Nat.beq t d with
            | true =>
              have := Nat.eq_of_beq_eq_true hb; subst this
              unfold envL
              rw [hwr j o t ho hd]
              simp only [cond_true]
              rw [listed_set hltL, if_pos rfl, if_pos rfl]
            | false =>
              simp only [cond_false]
              unfold envL
              cases hw : writer t ops.toList 0 with
              | none => rfl
              | some i =>
                simp only
                obtain ⟨oi, q1, q2⟩ := hwr' t i hw
                have : i ≠ j := fun hh => by
                  subst hh; rw [ho] at q1; cases q1; rw [hd] at q2; cases q2
                  rw [Nat.beq_refl] at hb; cases hb
                rw [listed_set hltL, if_neg this]
        refine ih _ _ _ ⟨hsz', ?_, ?_, k', hk', h1, h2, by rw [hst, ← henv]; exact hr'⟩ ?_
        · intro i hl oi hoi x hx hb
          rw [listed_set hltL] at hl ⊢
          by_cases hxj : x.on = j
          · rw [if_pos hxj]
          · rw [if_neg hxj]
            by_cases hij : i = j
            · subst hij; rw [ho] at hoi; cases hoi; exact hpre x hx hb
            · rw [if_neg hij] at hl; exact hi.down i hl oi hoi x hx hb
        · intro t u want x hh
          rw [← henv] at hh
          have lift : (∃ g o, L.getD g false = true ∧ ops[g]? = some o ∧ o.dst = some u) → ∃ g o, (L.setIfInBounds j true).getD g false = true ∧ ops[g]? = some o ∧ o.dst = some u := by
            intro ⟨g, og, q1, q2, q3⟩
            refine ⟨g, og, ?_, q2, q3⟩
            rw [listed_set hltL]; split
            · rfl
            · exact q1
          cases hd : o.dst with
          | none => rw [hd] at hh; exact lift (hi.gd t u want x hh)
          | some d =>
            rw [hd] at hh
            simp only [put, Env.set] at hh
            cases hb : Nat.beq t d with
            | true =>
              rw [hb] at hh
              obtain ⟨g, q1, q2⟩ := hgd u want x hh
              obtain ⟨q3, og, q4, q5⟩ := hgo g want u q1 q2
              exact lift ⟨g, og, q3, q4, q5⟩
            | false => rw [hb] at hh; exact lift (hi.gd t u want x hh)
        · have hltn : unl ops.size (L.setIfInBounds j true) < unl ops.size L := by
            unfold unl
            refine filter_lt (j := j) (fun i hq => ?_) (by rw [hj0]; rfl) (by rw [listed_set hltL, if_pos rfl]; rfl) (List.mem_range.2 hlt)
            rw [listed_set hltL] at hq
            by_cases hij : i = j
            · rw [if_pos hij] at hq; cases hq
            · rw [if_neg hij] at hq; exact hq
          omega
      have hclean : ∀ d, o.dst = some d → Clean (envL ops v e L) d := by
        intro d hd t u want x hh hu
        subst hu
        obtain ⟨g, og, q1, q2, q3⟩ := hi.gd t u want x hh
        exact notj g og u q1 q2 q3 hd
      have hgo' : ∀ g want t, o.guard = some (g, want) → (ops[g]?).bind (·.dst) = some t → o.dst ≠ some t := fun g want t hg ht => by
        obtain ⟨q1, og, q2, q3⟩ := hgo g want t hg ht
        exact notj g og t q1 q2 q3
      cases hu : (mkDI ops).upd j o with
      | true =>
        obtain ⟨hA, _, hsv⟩ := hds.upd hu
        have hkj' : k ≤ j := by
          rcases Nat.lt_or_ge j k with hlt' | hge
          · have := hk2 j hlt' ⟨o, ho, hu⟩; rw [hj0] at this; cases this
          · exact hge
        have hsk : s k = s j := hsame k j hkj' (by omega) (hkj hA)
        rw [hsk] at hr
        refine step_sound hP hn ho hsv hds.dst hle hr hclean hgo' _ Q (fun hgd a' w' hr' => after (s (j + 1)) (j + 1) (by omega) rfl (fun i hij hui => ?_) (fun i hij hui => ?_) hgd a' w' hr')
        · rw [listed_set hltL]
          by_cases hne : i = j
          · rw [if_pos hne]
          · rw [if_neg hne]
            rcases hAk hA i hui hne with ⟨_, h3⟩ | ⟨h3, _⟩
            · exact h3
            · omega
        · rw [listed_set hltL, if_neg (by omega)]
          exact hk3 i (by omega) hui
      | false =>
        obtain ⟨_, hsv⟩ := hds.non hu
        have hnu : ¬ UpdAt ops j := fun ⟨o', ho', hu'⟩ => by rw [ho] at ho'; cases ho'; rw [hu] at hu'; cases hu'
        have hA' : (mkDI ops).isA j = true → s k = s j := by
          intro hA
          rcases Nat.le_total k j with hle | hle
          · exact hsame k j hle (by omega) (hkj hA)
          · refine (hsame j k hle hk1 (fun i h1 h2 => ?_)).symm
            by_cases hij : i = j
            · rw [hij]; exact hnu
            · exact hjk hA i (by omega) h2
        have hB' : (mkDI ops).isA j = false → (s k).take (bif (mkDI ops).isB j then st.length else 0) = (s j).take (bif (mkDI ops).isB j then st.length else 0) := by
          intro _
          cases hB : (mkDI ops).isB j with
          | false => simp
          | true =>
            simp only [cond_true]
            have hext : ∀ i oi, ops[i]? = some oi → (mkDI ops).upd i oi = true → i ≠ j → isExt oi.op = false → (i < j ∧ L.getD i false = true) ∨ (j < i ∧ L.getD i false = false) := by
              intro i oi hoi hui hne hx
              have := allIx_spec hB i oi (by simpa [mkDI] using hoi)
              simp only [Nat.zero_add, hui, hx, Bool.not_false, Bool.and_self, Bool.not_true, Bool.false_or] at this
              exact hcmp i this hne
            rcases Nat.le_total k j with hle | hle
            · refine htake k j hle (by omega) (fun i oi h1 h2 hoi hui => ?_)
              cases hx : isExt oi.op with
              | true => rfl
              | false =>
                rcases hext i oi hoi hui (by omega) hx with ⟨_, h3⟩ | ⟨h3, _⟩
                · have := hk3 i h1 ⟨oi, hoi, hui⟩; rw [this] at h3; cases h3
                · omega
            · refine (htake j k hle hk1 (fun i oi h1 h2 hoi hui => ?_)).symm
              have hne : i ≠ j := fun hh => by subst hh; exact hnu ⟨oi, hoi, hui⟩
              cases hx : isExt oi.op with
              | true => rfl
              | false =>
                rcases hext i oi hoi hui hne hx with ⟨h3, _⟩ | ⟨_, h3⟩
                · omega
                · have := hk2 i h2 ⟨oi, hoi, hui⟩; rw [this] at h3; cases h3
        refine step_sound hP hn ho (hsv (s k) hA' hB') hds.dst hle hr hclean hgo' _ Q (fun hgd a' w' hr' => after (s k) k hk1 rfl (fun i hij hui => ?_) (fun i hij hui => ?_) hgd a' w' hr')
        · rw [listed_set hltL]
          split
          · rfl
          · exact hk2 i hij hui
        · rw [listed_set hltL]
          by_cases hne : i = j
          · subst hne; exact absurd hui hnu
          · rw [if_neg hne]; exact hk3 i hij hui
  refine main _ _ _ _ ⟨by simp, fun j hj => absurd hj (by rw [rep_false]; decide), fun t u want x hh => ?_, 0, by omega, fun i hi => by omega, fun i _ _ => rep_false _ _, ?_⟩ (by unfold unl; exact Nat.le_trans (List.length_filter_le _ _) (by simp))
  · have : envL ops v e (Array.replicate ops.size false) t = e t := by
      unfold envL
      split
      · rw [rep_false, if_neg (by decide)]
      · rfl
    rw [this] at hh; exact absurd hh (hng t u want x)
  · have : envL ops v e (Array.replicate ops.size false) = e := by
      funext t
      unfold envL
      split
      · rw [rep_false, if_neg (by decide)]
      · rfl
    rw [this, hs0]; exact hrel
end
end Go.Ab
