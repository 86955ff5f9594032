/- append. -/
import Derived.Test.YtjogoleiodbfdaaAbWrite
set_option linter.unusedVariables false
set_option linter.unusedSimpArgs false
set_option linter.unnecessarySimpa false
namespace Go.Ab
open Go

section
variable {Γ : Ctx} {D : Dom} {ow : Own} {μ : Nat → Nat} {st : List BX} {w : World}

theorem WRel.setAcc (hw : WRel Γ D ow μ st w) {k gb : Nat} {st' : List BX} (hst : (k = st.length ∧ st' = st ++ [.acc 0]) ∨ (∃ g, st[k]? = some (.acc g) ∧ st' = st.set k (.acc (g + 1)))) {w' : World} {D' : Dom}
    (hgb : (w.heap.size ≤ gb ∧ gb < w'.heap.size) ∨ ow gb = some k) (hother : ∀ b, b < w.heap.size → b ≠ gb → w'.heap[b]? = w.heap[b]?) (hsz : w.heap.size ≤ w'.heap.size)
    (hos : w'.os = w.os) (htp : w'.tape = w.tape) (hou : w'.output = w.output) (hD : ∀ b o, D b o → D' b o) (hN : ∀ b o, D' b o → D b o ∨ b = gb) (hkp : Keeps D w w') :
    WRel Γ D' (upd ow gb (some k)) μ st' w' ∧ Moves D w ow μ st D' w' (upd ow gb (some k)) μ st' := by
  have isacc : ∀ y, st[k]? = some y → ∃ g, y = .acc g := by
    intro y hy
    rcases hst with ⟨h1, _⟩ | ⟨g, h1, _⟩
    · have := (List.getElem?_eq_some_iff.1 hy).1; omega
    · rw [h1] at hy; cases hy; exact ⟨g, rfl⟩
  have keep : ∀ {j : Nat} {y : BX}, st[j]? = some y → j ≠ k → st'[j]? = some y := by
    intro j y e hj
    rcases hst with ⟨h1, h2⟩ | ⟨g, h1, h2⟩
    · rw [h2, List.getElem?_append_left (List.getElem?_eq_some_iff.1 e).1]; exact e
    · rw [h2, List.getElem?_set_ne (by omega)]; exact e
  have back : ∀ {j : Nat} {y : BX}, st'[j]? = some y → j ≠ k → st[j]? = some y := by
    intro j y e hj
    rcases hst with ⟨h1, h2⟩ | ⟨g, h1, h2⟩
    · rw [h2] at e
      have hlt := (List.getElem?_eq_some_iff.1 e).1
      simp at hlt
      rwa [List.getElem?_append_left (by omega)] at e
    · rw [h2, List.getElem?_set_ne (by omega)] at e; exact e
  have atk : ∃ g1, st'[k]? = some (.acc g1) ∧ ∀ g, st[k]? = some (.acc g) → g < g1 := by
    rcases hst with ⟨h1, h2⟩ | ⟨g, h1, h2⟩
    · refine ⟨0, by rw [h2, h1, List.getElem?_append_right (Nat.le_refl _)]; simp, fun g hg => ?_⟩
      have := (List.getElem?_eq_some_iff.1 hg).1; omega
    · refine ⟨g + 1, by rw [h2, List.getElem?_set_self (List.getElem?_eq_some_iff.1 h1).1], fun g' hg => ?_⟩
      rw [h1] at hg; cases hg; omega
  have len : st.length ≤ st'.length ∧ k < st'.length := by
    rcases hst with ⟨h1, h2⟩ | ⟨g, h1, h2⟩
    · rw [h2]; simp; omega
    · rw [h2]; simp; exact (List.getElem?_eq_some_iff.1 h1).1
  have notgb : ∀ {j b : Nat}, ow b = some j → j ≠ k → b ≠ gb := by
    intro j b ob hj e
    subst e
    rcases hgb with h | h
    · have := (hw.owlt b j ob).1; omega
    · rw [ob] at h; cases h; exact hj rfl
  have gbB : Γ.B ≤ gb ∨ ow gb = some k := hgb.imp (fun h => by have := hw.hs; omega) id
  have gblt : gb < w'.heap.size := by
    rcases hgb with h | h
    · exact h.2
    · have := (hw.owlt gb k h).1; omega
  have m : Moves D w ow μ st D' w' (upd ow gb (some k)) μ st' := by
    refine ⟨hD, hkp, fun j T x e => ⟨rfl, ?_⟩, fun j K E es e => ⟨rfl, ?_⟩, fun j b e hs => ⟨rfl, b, ?_, rfl⟩, fun j E g xs e => ?_, fun j g e => ?_⟩
    · have hj : j ≠ k := fun hj => by subst hj; obtain ⟨g, hg⟩ := isacc _ e; cases hg
      exact ⟨_, keep e hj⟩
    · have hj : j ≠ k := fun hj => by subst hj; obtain ⟨g, hg⟩ := isacc _ e; cases hg
      exact ⟨_, keep e hj⟩
    · have hj : j ≠ k := fun hj => by subst hj; obtain ⟨g, hg⟩ := isacc _ e; subst hg; exact hs rfl
      exact keep e hj
    · have hj : j ≠ k := fun hj => by subst hj; obtain ⟨g, hg⟩ := isacc _ e; cases hg
      refine ⟨g, xs, keep e hj, Nat.le_refl _, fun _ => ⟨rfl, fun cur hc hoj => ?_⟩⟩
      have hb := notgb hoj hj
      exact ⟨rfl, by rw [upd_other _ _ hb]; exact hoj, cur, (hother _ (hw.owlt _ j hoj).1 hb).trans hc, rfl⟩
    · by_cases hj : j = k
      · subst hj
        obtain ⟨g1, h1, h2⟩ := atk
        have := h2 g e
        exact ⟨g1, h1, by omega, fun h => by omega⟩
      · refine ⟨g, keep e hj, Nat.le_refl _, fun _ b ob => ?_⟩
        have hb := notgb ob hj
        refine ⟨hother b (hw.owlt b j ob).1 hb, by rw [upd_other _ _ hb]; exact ob, fun o d => (hN b o d).resolve_right hb⟩
  have par' : ∀ j, j < Γ.np → ∃ b, st'[j]? = some b ∧ b.kind = Γ.K0 j := by
    intro j hj
    obtain ⟨x, hx, p1⟩ := hw.par j hj
    by_cases hjk : j = k
    · subst hjk
      obtain ⟨g, hg⟩ := isacc _ hx; subst hg
      obtain ⟨g1, h1, _⟩ := atk
      exact ⟨_, h1, p1⟩
    · exact ⟨x, keep hx hjk, p1⟩
  refine ⟨⟨fun j T x e => ?_, fun j K E es e => ?_, fun j x e => ?_, fun b j ob => ?_, fun b o d => ?_, hos.trans hw.os, htp.trans hw.tape, hou.trans hw.output, Nat.le_trans hw.hs hsz, fun b hb hn => ?_, fun b o d => hD b o (hw.dom0 b o d), fun b o d => ?_, fun b j ob hb => ?_, Nat.le_trans hw.np len.1, hw.mu0, par', fun b j y ob e hy o d => ?_, hw.keep0.trans m.keeps hw.dom0, hw.arr0_moves m par'⟩, m⟩
  · have hj : j ≠ k := fun hj => by subst hj; obtain ⟨g1, h1, _⟩ := atk; rw [h1] at e; cases e
    obtain ⟨c, T1, q1, q2, q3, q4, q5⟩ := hw.box j T x (back e hj)
    have hb := notgb q3 hj
    exact BoxRep.mono ⟨c, T1, q1, q2, q3, q4, q5⟩ m rfl (hother _ (hw.owlt _ _ q3).1 hb) (by rw [upd_other _ _ hb]; exact q3) (fun o d => q4 o ((hN _ o d).resolve_right hb))
  · have hj : j ≠ k := fun hj => by subst hj; obtain ⟨g1, h1, _⟩ := atk; rw [h1] at e; cases e
    obtain ⟨ents, clock, kc, vc, q1, q2, q3⟩ := hw.map j K E es (back e hj)
    have hb := notgb q2 hj
    exact OMapRep.mono ⟨ents, clock, kc, vc, q1, q2, q3⟩ m.dom m.keeps rfl (hother _ (hw.owlt _ _ q2).1 hb) (by rw [upd_other _ _ hb]; exact q2) (fun o d => q3.1 o ((hN _ o d).resolve_right hb))
  · by_cases hj : j = k
    · subst hj; obtain ⟨g1, h1, _⟩ := atk; rw [h1] at e; cases e; trivial
    · refine (hw.obj j x (back e hj)).mono m.dom m.keeps (fun _ => rfl) (fun c oc => ?_)
      have hb := notgb oc hj
      exact ⟨hother _ (hw.owlt _ _ oc).1 hb, by rw [upd_other _ _ hb]; exact oc, fun o d => (hN _ o d).resolve_right hb⟩
  · by_cases hb : b = gb
    · rw [hb, upd_same] at ob; cases ob; rw [hb]; exact ⟨gblt, len.2⟩
    · rw [upd_other _ _ hb] at ob
      have := hw.owlt b j ob
      exact ⟨by omega, by omega⟩
  · rcases hN b o d with d | d
    · have := hw.dlt b o d; omega
    · rw [d]; exact gblt
  · have hne : b ≠ gb := fun hb2 => by
      subst hb2
      rcases gbB with h | h
      · omega
      · have := hw.owN b k h hb; rw [hn] at this; cases this
    exact (hother b (by have := hw.hs; omega) hne).trans (hw.old b hb hn)
  · rcases hN b o d with d | d
    · exact hw.domN b o d
    · subst d
      rcases gbB with h | h
      · exact Or.inr (Or.inl h)
      · by_cases hb : b < Γ.B
        · exact Or.inr (Or.inr (by rw [hw.owN b k h hb]; simp))
        · exact Or.inr (Or.inl (by omega))
  · by_cases hne : b = gb
    · subst hne
      rw [upd_same] at ob; cases ob
      rcases gbB with h | h
      · omega
      · exact hw.owN b k h hb
    · rw [upd_other _ _ hne] at ob
      exact hw.owN b j ob hb
  · by_cases hj : j = k
    · subst hj; obtain ⟨g1, h1, _⟩ := atk; rw [h1] at e; cases e; exact hy _ rfl
    · by_cases hb : b = gb
      · rw [hb, upd_same] at ob; cases ob; exact hj rfl
      · rw [upd_other _ _ hb] at ob
        exact hw.lone b j y ob (back e hj) hy o ((hN b o d).resolve_right hb)

/-- A row of the call's own is made anew: where it was, or elsewhere. -/
theorem WRel.growArr (hw : WRel Γ D ow μ st w) {k g gb : Nat} {E0 : TypeId} {xs xs' : List PV} (hk : st[k]? = some (.arr E0 g xs)) {w' : World} {cur' : Array Value}
    (hgb : (w.heap.size ≤ gb ∧ gb < w'.heap.size) ∨ ow gb = some k) (hother : ∀ b, b < w.heap.size → b ≠ gb → w'.heap[b]? = w.heap[b]?) (hsz : w.heap.size ≤ w'.heap.size)
    (hos : w'.os = w.os) (htp : w'.tape = w.tape) (hou : w'.output = w.output) (hh : w'.heap[gb]? = some (.cells cur' E0 (0, 0))) (hcs : xs'.length * Γ.P.cellsOf E0 ≤ cur'.size)
    (hr : ∀ (i : Nat) (x : PV), xs'[i]? = some x → Rep Γ.P D w E0 x ((cur'.toList.drop (i * Γ.P.cellsOf E0)).take (Γ.P.cellsOf E0))) :
    (st.set k (.arr E0 (g + 1) xs'))[k]? = some (.arr E0 (g + 1) xs') ∧ WRel Γ D (upd ow gb (some k)) (upd μ k gb) (st.set k (.arr E0 (g + 1) xs')) w' ∧ Moves D w ow μ st D w' (upd ow gb (some k)) (upd μ k gb) (st.set k (.arr E0 (g + 1) xs')) := by
  have hlt := (List.getElem?_eq_some_iff.1 hk).1
  have hfree : ∀ o, ¬ D gb o := by
    intro o d
    rcases hgb with h | h
    · have := hw.dlt _ _ d; omega
    · exact hw.lone gb k _ h hk (by simp) o d
  have hkp : Keeps D w w' := Keeps.of_heap fun b o d => hother b (hw.dlt b o d) (fun e => by subst e; exact hfree o d)
  have keep : ∀ {j : Nat} {y : BX}, st[j]? = some y → j ≠ k → (st.set k (.arr E0 (g + 1) xs'))[j]? = some y := fun e hj => by rw [List.getElem?_set_ne (by omega)]; exact e
  have back : ∀ {j : Nat} {y : BX}, (st.set k (.arr E0 (g + 1) xs'))[j]? = some y → j ≠ k → st[j]? = some y := fun e hj => by rwa [List.getElem?_set_ne (by omega)] at e
  have same : (st.set k (.arr E0 (g + 1) xs'))[k]? = some (.arr E0 (g + 1) xs') := by rw [List.getElem?_set_self hlt]
  have notgb : ∀ {j b : Nat}, ow b = some j → j ≠ k → b ≠ gb := by
    intro j b ob hj e
    subst e
    rcases hgb with h | h
    · have := (hw.owlt b j ob).1; omega
    · rw [ob] at h; cases h; exact hj rfl
  have gblt : gb < w'.heap.size := by
    rcases hgb with h | h
    · exact h.2
    · have := (hw.owlt gb k h).1; omega
  have mu : ∀ {j : Nat}, j ≠ k → upd μ k gb j = μ j := fun hj => upd_other _ _ hj
  have m : Moves D w ow μ st D w' (upd ow gb (some k)) (upd μ k gb) (st.set k (.arr E0 (g + 1) xs')) := by
    refine ⟨fun _ _ d => d, hkp, fun j T x e => ?_, fun j K E es e => ?_, fun j b e hs => ?_, fun j E g' ys e => ?_, fun j g' e => ?_⟩
    · have hj : j ≠ k := fun hj => by subst hj; rw [hk] at e; cases e
      exact ⟨mu hj, _, keep e hj⟩
    · have hj : j ≠ k := fun hj => by subst hj; rw [hk] at e; cases e
      exact ⟨mu hj, _, keep e hj⟩
    · have hj : j ≠ k := fun hj => by subst hj; rw [hk] at e; cases e; exact hs rfl
      exact ⟨mu hj, b, keep e hj, rfl⟩
    · by_cases hj : j = k
      · subst hj; rw [hk] at e; cases e
        exact ⟨_, _, same, by omega, fun h => by omega⟩
      · refine ⟨g', ys, keep e hj, Nat.le_refl _, fun _ => ⟨rfl, fun cur hc hoj => ?_⟩⟩
        have hb := notgb hoj hj
        exact ⟨mu hj, by rw [upd_other _ _ hb]; exact hoj, cur, (hother _ (hw.owlt _ j hoj).1 hb).trans hc, rfl⟩
    · have hj : j ≠ k := fun hj => by subst hj; rw [hk] at e; cases e
      refine ⟨g', keep e hj, Nat.le_refl _, fun _ b ob => ?_⟩
      have hb := notgb ob hj
      exact ⟨hother b (hw.owlt b j ob).1 hb, by rw [upd_other _ _ hb]; exact ob, fun o d => d⟩
  have par' : ∀ j, j < Γ.np → ∃ b, (st.set k (.arr E0 (g + 1) xs'))[j]? = some b ∧ b.kind = Γ.K0 j := by
    intro j hj
    obtain ⟨x, hx, p1⟩ := hw.par j hj
    by_cases hjk : j = k
    · subst hjk; rw [hk] at hx; cases hx; exact ⟨_, same, p1⟩
    · exact ⟨x, keep hx hjk, p1⟩
  refine ⟨same, ⟨fun j T x e => ?_, fun j K E es e => ?_, fun j x e => ?_, fun b j ob => ?_, fun b o d => Nat.lt_of_lt_of_le (hw.dlt b o d) hsz, hos.trans hw.os, htp.trans hw.tape, hou.trans hw.output, Nat.le_trans hw.hs hsz, fun b hb hn => ?_, hw.dom0, hw.domN, fun b j ob hb => ?_, by simpa using hw.np, fun j hj hK => ?_, par', fun b j y ob e hy o d => ?_, hw.keep0.trans m.keeps hw.dom0, hw.arr0_moves m par'⟩, m⟩
  · have hj : j ≠ k := fun hj => by subst hj; rw [same] at e; cases e
    obtain ⟨c, T1, q1, q2, q3, q4, q5⟩ := hw.box j T x (back e hj)
    have hb := notgb q3 hj
    exact BoxRep.mono ⟨c, T1, q1, q2, q3, q4, q5⟩ m (mu hj) (hother _ (hw.owlt _ _ q3).1 hb) (by rw [upd_other _ _ hb]; exact q3) q4
  · have hj : j ≠ k := fun hj => by subst hj; rw [same] at e; cases e
    obtain ⟨ents, clock, kc, vc, q1, q2, q3⟩ := hw.map j K E es (back e hj)
    have hb := notgb q2 hj
    exact OMapRep.mono ⟨ents, clock, kc, vc, q1, q2, q3⟩ m.dom m.keeps (mu hj) (hother _ (hw.owlt _ _ q2).1 hb) (by rw [upd_other _ _ hb]; exact q2) q3.1
  · by_cases hj : j = k
    · subst hj; rw [same] at e; cases e
      exact Or.inr ⟨cur', by rw [upd_same]; exact hh, by rw [upd_same, upd_same], by rw [upd_same]; exact hfree, hcs, fun i x hx => (hr i x hx).mono m.dom m.keeps⟩
    · refine (hw.obj j x (back e hj)).mono m.dom m.keeps (fun _ => mu hj) (fun c oc => ?_)
      have hb := notgb oc hj
      exact ⟨hother _ (hw.owlt _ _ oc).1 hb, by rw [upd_other _ _ hb]; exact oc, fun o d => d⟩
  · by_cases hb : b = gb
    · rw [hb, upd_same] at ob; cases ob; rw [hb]; exact ⟨gblt, by simpa using hlt⟩
    · rw [upd_other _ _ hb] at ob
      have := hw.owlt b j ob
      exact ⟨by omega, by simpa using this.2⟩
  · have hne : b ≠ gb := fun hb2 => by
      subst hb2
      rcases hgb with h | h
      · have := hw.hs; omega
      · have := hw.owN b k h hb; rw [hn] at this; cases this
    exact (hother b (by have := hw.hs; omega) hne).trans (hw.old b hb hn)
  · by_cases hne : b = gb
    · subst hne
      rw [upd_same] at ob; cases ob
      rcases hgb with h | h
      · have := hw.hs; omega
      · exact hw.owN b k h hb
    · rw [upd_other _ _ hne] at ob
      exact hw.owN b j ob hb
  · by_cases hjk : j = k
    · subst hjk
      obtain ⟨x, hx, p1⟩ := hw.par j hj
      rw [hk] at hx; cases hx
      exact absurd p1.symm (hK E0)
    · rw [mu hjk]; exact hw.mu0 j hj hK
  · by_cases hj : j = k
    · subst hj
      by_cases hb : b = gb
      · subst hb; exact hfree o d
      · rw [upd_other _ _ hb] at ob; exact hw.lone b j _ ob hk (by simp) o d
    · by_cases hb : b = gb
      · rw [hb, upd_same] at ob; cases ob; exact hj rfl
      · rw [upd_other _ _ hb] at ob
        exact hw.lone b j y ob (back e hj) hy o d

/-- Nothing was appended. -/
theorem WRel.arrBump (hw : WRel Γ D ow μ st w) {k g : Nat} {E0 : TypeId} {xs : List PV} (hk : st[k]? = some (.arr E0 g xs)) :
    (st.set k (.arr E0 (g + 1) xs))[k]? = some (.arr E0 (g + 1) xs) ∧ WRel Γ D ow μ (st.set k (.arr E0 (g + 1) xs)) w ∧ Moves D w ow μ st D w ow μ (st.set k (.arr E0 (g + 1) xs)) := by
  have hlt := (List.getElem?_eq_some_iff.1 hk).1
  have keep : ∀ {j : Nat} {y : BX}, st[j]? = some y → j ≠ k → (st.set k (.arr E0 (g + 1) xs))[j]? = some y := fun e hj => by rw [List.getElem?_set_ne (by omega)]; exact e
  have back : ∀ {j : Nat} {y : BX}, (st.set k (.arr E0 (g + 1) xs))[j]? = some y → j ≠ k → st[j]? = some y := fun e hj => by rwa [List.getElem?_set_ne (by omega)] at e
  have same : (st.set k (.arr E0 (g + 1) xs))[k]? = some (.arr E0 (g + 1) xs) := by rw [List.getElem?_set_self hlt]
  have m : Moves D w ow μ st D w ow μ (st.set k (.arr E0 (g + 1) xs)) := by
    refine ⟨fun _ _ d => d, Keeps.refl _ _, fun j T x e => ?_, fun j K E es e => ?_, fun j b e hs => ?_, fun j E g' ys e => ?_, fun j g' e => ?_⟩
    · have hj : j ≠ k := fun hj => by subst hj; rw [hk] at e; cases e
      exact ⟨rfl, _, keep e hj⟩
    · have hj : j ≠ k := fun hj => by subst hj; rw [hk] at e; cases e
      exact ⟨rfl, _, keep e hj⟩
    · have hj : j ≠ k := fun hj => by subst hj; rw [hk] at e; cases e; exact hs rfl
      exact ⟨rfl, b, keep e hj, rfl⟩
    · by_cases hj : j = k
      · subst hj; rw [hk] at e; cases e
        exact ⟨_, _, same, by omega, fun h => by omega⟩
      · exact ⟨g', ys, keep e hj, Nat.le_refl _, fun _ => ⟨rfl, ArrKeep.refl _ _ _ _ _⟩⟩
    · have hj : j ≠ k := fun hj => by subst hj; rw [hk] at e; cases e
      exact ⟨g', keep e hj, Nat.le_refl _, fun _ b ob => ⟨rfl, ob, fun _ d => d⟩⟩
  have par' : ∀ j, j < Γ.np → ∃ b, (st.set k (.arr E0 (g + 1) xs))[j]? = some b ∧ b.kind = Γ.K0 j := by
    intro j hj
    obtain ⟨x, hx, p1⟩ := hw.par j hj
    by_cases hjk : j = k
    · subst hjk; rw [hk] at hx; cases hx; exact ⟨_, same, p1⟩
    · exact ⟨x, keep hx hjk, p1⟩
  refine ⟨same, ⟨fun j T s e => ?_, fun j K E es e => ?_, fun j b e => ?_, fun b j ob => by simpa using hw.owlt b j ob, hw.dlt, hw.os, hw.tape, hw.output, hw.hs, hw.old, hw.dom0, hw.domN, hw.owN, by simpa using hw.np, hw.mu0, par', fun b j y ob e hy o d => ?_, hw.keep0.trans m.keeps hw.dom0, hw.arr0_moves m par'⟩, m⟩
  · have hj : j ≠ k := fun hj => by subst hj; rw [same] at e; cases e
    obtain ⟨c, T1, q1, q2, q3, q4, q5⟩ := hw.box j T s (back e hj)
    exact ⟨c, T1, q1, q2, q3, q4, q5.mono m⟩
  · have hj : j ≠ k := fun hj => by subst hj; rw [same] at e; cases e
    exact hw.map j K E es (back e hj)
  · by_cases hj : j = k
    · subst hj; rw [same] at e; cases e
      have h0 : ArrRep Γ.P D w ow μ j E0 xs := hw.obj j _ hk
      exact h0
    · exact (hw.obj j b (back e hj)).mono m.dom m.keeps (fun _ => rfl) (fun _ o => ⟨rfl, o, fun _ d => d⟩)
  · by_cases hj : j = k
    · subst hj; exact hw.lone b j _ ob hk (by simp) o d
    · exact hw.lone b j y ob (back e hj) hy o d

/-- Cells of a slice that lie in a block of their own, as a list. -/
theorem slice_append {E : TypeId} {xs ys : List PV} {Lx Ly : List Value} (hx : Lx.length = xs.length * Γ.P.cellsOf E) (hy : Ly.length = ys.length * Γ.P.cellsOf E)
    (rx : ∀ (i : Nat) (x : PV), xs[i]? = some x → Rep Γ.P D w E x ((Lx.drop (i * Γ.P.cellsOf E)).take (Γ.P.cellsOf E)))
    (ry : ∀ (i : Nat) (x : PV), ys[i]? = some x → Rep Γ.P D w E x ((Ly.drop (i * Γ.P.cellsOf E)).take (Γ.P.cellsOf E))) :
    ∀ (i : Nat) (x : PV), (xs ++ ys)[i]? = some x → Rep Γ.P D w E x (((Lx ++ Ly).drop (i * Γ.P.cellsOf E)).take (Γ.P.cellsOf E)) := by
  intro i x hi
  by_cases h : i < xs.length
  · rw [List.getElem?_append_left h] at hi
    have := rx i x hi
    have h2 : (i + 1) * Γ.P.cellsOf E ≤ xs.length * Γ.P.cellsOf E := Nat.mul_le_mul_right _ (by omega)
    rw [Nat.add_mul] at h2
    rw [List.drop_append_of_le_length (by omega), List.take_append_of_le_length (by rw [List.length_drop]; omega)]
    exact this
  · rw [List.getElem?_append_right (by omega)] at hi
    have := ry _ x hi
    have h2 : xs.length * Γ.P.cellsOf E ≤ i * Γ.P.cellsOf E := Nat.mul_le_mul_right _ (by omega)
    have e : i * Γ.P.cellsOf E = Lx.length + (i - xs.length) * Γ.P.cellsOf E := by rw [Nat.sub_mul]; omega
    rw [e, List.drop_append, List.drop_eq_nil_of_le (by omega), List.nil_append, Nat.add_sub_cancel_left]
    exact this

theorem rep_cells_one {E : TypeId} {ys : List PV} {Ly : List Value} (hy : Ly.length = ys.length * Γ.P.cellsOf E) (hne : 0 < Γ.P.cellsOf E)
    (ry : ∀ (i : Nat) (x : PV), ys[i]? = some x → Rep Γ.P D w E x ((Ly.drop (i * Γ.P.cellsOf E)).take (Γ.P.cellsOf E))) : ∀ c, c ∈ Ly → c.oneCell' = true := by
  intro c hc
  obtain ⟨j, hj, rfl⟩ := List.mem_iff_getElem.1 hc
  have h1 : j / Γ.P.cellsOf E < ys.length := by rw [Nat.div_lt_iff_lt_mul hne]; omega
  refine (ry _ _ (List.getElem?_eq_getElem h1)).oneCell _ (List.mem_iff_getElem?.2 ⟨j % Γ.P.cellsOf E, ?_⟩)
  rw [List.getElem?_take_of_lt (Nat.mod_lt _ hne), List.getElem?_drop]
  have := Nat.div_add_mod j (Γ.P.cellsOf E)
  rw [Nat.mul_comm] at this
  rw [this, List.getElem?_eq_getElem hj]

/-- Behind an append into a block of the call's own. -/
theorem acc_done (hw : WRel Γ D ow μ st w) {k gb : Nat} {st' : List BX} (hst : (k = st.length ∧ st' = st ++ [.acc 0]) ∨ (∃ g, st[k]? = some (.acc g) ∧ st' = st.set k (.acc (g + 1)))) {w' : World}
    (hgb : (w.heap.size ≤ gb ∧ gb < w'.heap.size) ∨ ow gb = some k) (hother : ∀ b, b < w.heap.size → b ≠ gb → w'.heap[b]? = w.heap[b]?) (hsz : w.heap.size ≤ w'.heap.size)
    (hos : w'.os = w.os) (htp : w'.tape = w.tape) (hou : w'.output = w.output) (hkp : Keeps D w w')
    {E : TypeId} {zs : List PV} {L : List Value} {cur : Array Value} {cap : Nat} (hL : L.length = zs.length * Γ.P.cellsOf E) (hheap : w'.heap[gb]? = some (.cells cur E (0, 0))) (htake : cur.toList.take L.length = L) (hcap : zs.length ≤ cap) (hmax : cap ≤ maxLen) (hcs : cur.size = cap * Γ.P.cellsOf E)
    (hfree : ∀ o, zs.length * Γ.P.cellsOf E ≤ o → ¬ D gb o)
    (hr : ∀ (i : Nat) (x : PV), zs[i]? = some x → Rep Γ.P D w E x ((L.drop (i * Γ.P.cellsOf E)).take (Γ.P.cellsOf E))) (g1 : Nat) (hg1 : st'[k]? = some (.acc g1)) :
    OpRes Γ D ow μ st w (.ok (.value (.slice (some ⟨gb, 0, none⟩) zs.length cap)) w') (.acc k g1 E zs) st' := by
  obtain ⟨u1, u2⟩ := hw.setAcc hst (D' := fun b o => D b o ∨ (b = gb ∧ o < L.length)) hgb hother hsz hos htp hou (fun b o d => Or.inl d) (fun b o d => d.imp id (fun h => h.1)) hkp
  refine ⟨_, _, _, _, _, Or.inl rfl, u1, u2, .acc ?_ hg1 (Nat.le_refl _) (fun _ => Or.inr ⟨gb, cap, cur, rfl, hheap, hcap, hmax, hcs, upd_same _ _ _, fun o ho d => ?_⟩)⟩
  · refine .mk hcap hL (fun i x hx => (hr i x hx).mono u2.dom u2.keeps) (fun j v hj => ?_)
    have hlt := (List.getElem?_eq_some_iff.1 hj).1
    refine ⟨Or.inr ⟨rfl, by omega⟩, ?_⟩
    have : cur.toList[j]? = some v := by
      rw [← htake, List.getElem?_take_of_lt hlt] at hj; exact hj
    simp only [Nat.zero_add, World.cell?, hheap]
    simpa using this
  · rcases d with d | d
    · exact hfree o ho d
    · omega

theorem run_append_nothing {P : Program} (w : World) (t ty e : TypeId) (i : TypeInfo) (ht : P.underlying t = some (.slice e)) (hi : P.info? e = some i) (a : Option Addr) (n c : Nat) (hn : n ≤ c) (v : Value)
    (hv : v = .slice none 0 0 ∨ ∃ b c', v = .slice (some b) 0 c') (hnil : a = none → n = 0 ∧ c = 0) : (Builtin.append_ #[t, t] ty #[.slice a n c, v]).run P w = .ok (.slice a n c) w := by
  have hf : ∀ u, (Builtin.firstCells i.size 0 v).run P u = .ok #[] u := by
    intro u
    rcases hv with rfl | ⟨b, c', rfl⟩
    · simp [Builtin.firstCells]
    · simp [Builtin.firstCells, loadCells, loadCellsFrom]
  have hl : ∀ u, (Builtin.lenOf v).run P u = .ok 0 u := by
    intro u
    rcases hv with rfl | ⟨b, c', rfl⟩ <;> simp [Builtin.lenOf]
  cases a with
  | none =>
    obtain ⟨rfl, rfl⟩ := hnil rfl
    simp [Builtin.append_, run_underlying ht, sizeOf, typeInfo, hi, hl, hf]
  | some b => simp [Builtin.append_, run_underlying ht, sizeOf, typeInfo, hi, hl, hf, hn, storeCells]
end
end Go.Ab
