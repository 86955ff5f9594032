/- Loops by steps, calls by entries. -/
import Derived.Test.YtefbblajhfhhhaaDoorAbFrame
import Derived.KernelRfl
set_option linter.unusedVariables false
set_option linter.unusedSimpArgs false
set_option linter.unnecessarySimpa false
namespace Go.Ab
open Go

section
variable {Γ : Ctx} {D : Dom} {ow : Own} {μ : Nat → Nat} {st st' : List BX} {bs : List BSh} {w : World} {P : Program}

theorem keepRef_sound {s : SV} {v : Value} (f : StFit P st bs bs st st') (h : SRep P D w ow μ st s v) (hk : keepRef bs s = true) : SRep P D w (owTo ow bs.length) μ st' s v := by
  unfold keepRef at hk
  split at hk
  · rename_i k p T
    unfold boxAt at hk
    split at hk
    · rename_i T' p' hb
      obtain ⟨s, vs, rest, shs, shs', h1, h2, h3⟩ := f.box _ _ _ hb
      cases h with
      | ref h4 h5 =>
        rw [h1] at h4; cases h4
        exact .ref h3 h5
    · cases hk
  · rename_i k
    unfold mapAt at hk
    split at hk
    · rename_i K E hb
      obtain ⟨es, h1, h2⟩ := f.map _ _ _ hb
      cases h with
      | mref h4 =>
        rw [h1] at h4; cases h4
        exact .mref h2
    · cases hk
  · rename_i k
    unfold mitAt at hk
    split at hk
    · rename_i K E hb
      obtain ⟨es, h1, h2⟩ := f.mit _ _ _ hb
      cases h with
      | mitr h4 => exact .mitr h1
    · cases hk
  · rename_i k
    unfold iterAt at hk
    split at hk
    · rename_i hb
      obtain ⟨s0, p0, h1, h2⟩ := f.iter _ hb
      cases h with
      | iref h4 => exact .iref h2
    · cases hk
  · rename_i k T
    unfold bldAt at hk
    split at hk
    · rename_i T' hb
      obtain ⟨s0, h1, h2⟩ := f.bld _ _ hb
      cases h with
      | bref h4 => exact .bref h2
    · cases hk
  · cases h; exact .nils
  · cases hk

theorem arrAt_spec {k fl : Nat} {E : TypeId} (h : arrAtB bs k fl E = true) : bs[k]? = some (.arr E fl) ∧ k < bs.length := by
  unfold arrAtB at h
  split at h
  · rename_i E' fl' hb
    simp only [Bool.and_eq_true] at h
    have := Nat.eq_of_beq_eq_true h.1; subst this
    have := Nat.eq_of_beq_eq_true h.2; subst this
    exact ⟨hb, (List.getElem?_eq_some_iff.1 hb).1⟩
  · cases h
theorem loose_arr {k k' g fl : Nat} {E E' : TypeId} {v : Value} (f : StFit P st bs bs st st') (h : SRep P D w ow μ st (.arr k' g E') v) (hb : (Nat.beq k k' && Nat.beq E E' && arrIs st k g && arrAtB bs k fl E) = true) : SRep P D w (owTo ow bs.length) μ st' (.arr k fl E) v := by
  simp only [Bool.and_eq_true] at hb
  obtain ⟨⟨⟨h1, h2⟩, h3⟩, h4⟩ := hb
  have := Nat.eq_of_beq_eq_true h1; subst this
  have := Nat.eq_of_beq_eq_true h2; subst this
  obtain ⟨hb1, hb2⟩ := arrAt_spec h4
  obtain ⟨xs, q1, q2⟩ := f.arr k E fl hb1
  have hcur : ∀ {E' : TypeId} {g0 : Nat} {ys : List PV}, st[k]? = some (.arr E' g0 ys) → g = g0 := by
    intro E' g0 ys h
    unfold arrIs at h3
    rw [h] at h3
    exact Nat.eq_of_beq_eq_true h3
  have hx : ∀ {E' : TypeId} {g0 : Nat} {ys : List PV}, st[k]? = some (.arr E' g0 ys) → ys = xs := by
    intro E' g0 ys h
    rcases q2 with ⟨g1, q2, _⟩ | ⟨q2, _⟩
    · rw [h] at q2; cases q2; rfl
    · have := (List.getElem?_eq_some_iff.1 h).1; omega
  cases h with
  | arrOld hk hlt => have := hcur hk; omega
  | arrNil hk => have := hx hk; subst this; exact .arrNil q1
  | arr hk hl' hmx hc ho hs => have := hx hk; subst this; exact .arr q1 hl' hmx hc (owTo_some.2 ⟨ho, hb2⟩) hs
theorem loose_sound {sh : Shape} {s s' : SV} {v : Value} (f : StFit P st bs bs st st') (h : SRep P D w ow μ st s v) (hl : loose P st bs sh s = some s') : SRep P D w (owTo ow bs.length) μ st' s' v := by
  have hacc : ∀ k, accAt bs k = true → bs[k]? = some .acc ∧ k < bs.length := by
    intro k hk
    unfold accAt at hk
    split at hk
    · rename_i hb; exact ⟨hb, (List.getElem?_eq_some_iff.1 hb).1⟩
    · cases hk
  unfold loose at hl
  split at hl
  · rename_i k E
    split at hl
    · rename_i k' g E' xs
      obtain ⟨hb, rfl⟩ := cond_some hl
      simp only [Bool.and_eq_true] at hb
      obtain ⟨⟨⟨h1, h2⟩, h3⟩, h4⟩ := hb
      have := Nat.eq_of_beq_eq_true h1; subst this
      have := Nat.eq_of_beq_eq_true h2; subst this
      obtain ⟨hb1, hb2⟩ := hacc _ h4
      cases h with
      | @acc _ _ g0 _ _ _ hr hk hg ho =>
        refine .acc hr (f.acc _ hb1).1 (Nat.le_refl _) (fun _ => ?_)
        have hgg : g = g0 := by
          unfold accIs at h3
          rw [hk] at h3
          exact Nat.eq_of_beq_eq_true h3
        rcases ho hgg with ho | ⟨b, cap, cur, q1, q2, q3, q4, q5, q6, q7⟩
        · exact Or.inl ho
        · exact Or.inr ⟨b, cap, cur, q1, q2, q3, q4, q5, owTo_some.2 ⟨q6, hb2⟩, q7⟩
    · obtain ⟨hb, rfl⟩ := cond_some hl
      obtain ⟨hb1, hb2⟩ := hacc _ hb
      cases h
      exact .acc (.nil fun _ => rfl) (f.acc _ hb1).1 (Nat.le_refl _) (fun _ => Or.inl rfl)
    · cases hl
  · split at hl
    · cases hl; cases h; exact .slice (.nil fun _ => rfl)
    · exact canon_sound h hl _ _ _
  · split at hl
    · rename_i k fl E
      split at hl
      · rename_i k' g E'
        obtain ⟨hb, rfl⟩ := cond_some hl
        exact loose_arr f h hb
      · obtain ⟨hb, rfl⟩ := cond_some hl
        simp only [Bool.and_eq_true] at hb
        obtain ⟨hb1, hb2⟩ := arrAt_spec hb.1
        obtain ⟨xs, q1, q2⟩ := f.arr k E fl hb1
        have hle := Nat.le_of_ble_eq_true hb.2
        rcases q2 with ⟨g1, q2, _⟩ | ⟨_, q3⟩
        · have := (List.getElem?_eq_some_iff.1 q2).1; omega
        · subst q3
          cases h
          exact .arrNil q1
      · cases hl
    · split at hl
      · obtain ⟨hb, rfl⟩ := cond_some hl
        rw [Bool.and_eq_true] at hb
        have := Nat.eq_of_beq_eq_true hb.1; subst this
        cases h with
        | ifc h => exact .ifc (loose_arr f h hb.2)
      · cases hl
    · obtain ⟨hb, rfl⟩ := cond_some hl
      unfold keepCon at hb
      split at hb
      · rename_i fn n cs
        cases h with
        | fn h0 h1 h2 =>
          refine .fn h0 h1 (fun i s v hi hv => ?_)
          exact keepRef_sound f (h2 i s v hi hv) (List.all_eq_true.1 hb s (List.mem_of_getElem? hi))
      · exact keepRef_sound f h hb
  · split at hl
    · rename_i T x
      split at hl
      · rename_i y hy
        cases hl
        cases h with
        | ifc h => exact .ifc (canon_sound h hy _ _ _)
      · cases hl
    · cases hl
  · split at hl
    · cases hl
      cases h with
      | ifc h =>
        cases h
        exact .ifc (.slice (.nil fun _ => rfl))
    · split at hl
      · rename_i y hy
        cases hl
        cases h with
        | ifc h => exact .ifc (canon_sound h hy _ _ _)
      · cases hl
    · cases hl
  · exact canon_sound h hl _ _ _
theorem loose_pan {sh : Shape} {s : SV} : loose P st bs sh (.pan s) = none := by
  cases sh with
  | con c => cases c <;> simp [loose, keepCon, keepRef]; split <;> rfl
  | _ => simp [loose, canon]

mutual
theorem looseP_sound (f : StFit P st bs bs st st') : ∀ (p : Pat) (s : SV) (shs : List Shape) (vs : List SV) (shs' : List Shape) (rest : List SV) (v : Value), looseP P st bs p s shs = some (vs, shs') → SRep P D w ow μ st s v → SRep P D w (owTo ow bs.length) μ st' (p.build (vs ++ rest)).1 v
  | .leaf, s, sh :: shs, vs, shs', rest, v, h, hs => by
    simp only [looseP] at h
    split at h
    · rename_i x hx
      simp only [Option.some.injEq, Prod.mk.injEq] at h; obtain ⟨rfl, rfl⟩ := h
      exact loose_sound f hs hx
    · cases h
  | .leaf, s, [], vs, shs', rest, v, h, hs => by simp [looseP] at h
  | .agg T ps, s, shs, vs, shs', rest, v, h, hs => by
    simp only [looseP] at h
    split at h
    · rename_i fs hf
      have hs2 := expand_agg hs hf
      obtain ⟨h1, h2⟩ := loosePL_sound f ps fs shs vs shs' rest h
      cases hs2 with
      | agg hT hl ho hv hp =>
        refine .agg hT hl ho (by rw [← hv]; exact h1) (fun i x fd hx hfd => ?_)
        exact h2 i x _ hx (fun y hy => hp i y fd hy hfd)
    · cases h
theorem loosePL_sound (f : StFit P st bs bs st st') : ∀ (ps : List Pat) (ss : List SV) (shs : List Shape) (vs : List SV) (shs' : List Shape) (rest : List SV), loosePL P st bs ps ss shs = some (vs, shs') →
    (buildL ps (vs ++ rest)).1.length = ss.length ∧ ∀ (i : Nat) (x : SV) (u : Value), (buildL ps (vs ++ rest)).1[i]? = some x → (∀ y, ss[i]? = some y → SRep P D w ow μ st y u) → SRep P D w (owTo ow bs.length) μ st' x u
  | [], [], shs, vs, shs', rest, h => by
    refine ⟨rfl, fun i x u hx => ?_⟩
    simp [buildL] at hx
  | [], _ :: _, shs, vs, shs', rest, h => by simp [loosePL] at h
  | _ :: _, [], shs, vs, shs', rest, h => by simp [loosePL] at h
  | p :: ps, s :: ss, shs, vs, shs', rest, h => by
    simp only [loosePL] at h
    split at h
    · rename_i vs1 shs1 h1
      split at h
      · rename_i ws shs2 h2
        simp only [Option.some.injEq, Prod.mk.injEq] at h; obtain ⟨rfl, rfl⟩ := h
        have hb := looseP_build p s shs vs1 shs1 (ws ++ rest) h1
        obtain ⟨l1, l2⟩ := loosePL_sound f ps ss shs1 ws _ rest h2
        simp only [buildL, List.append_assoc]
        rw [hb]
        refine ⟨by simp [l1], fun i x u hx hy => ?_⟩
        cases i with
        | zero =>
          simp at hx; subst hx
          exact looseP_sound f p s shs vs1 shs1 (ws ++ rest) u h1 (hy s (by simp))
        | succ i => exact l2 i x u (by simpa using hx) (fun y h => hy y (by simpa using h))
      · cases h
    · cases h
end

theorem StFit.kind (f : StFit P st bs bs st st') {k : Nat} {b : BX} (hk : st'[k]? = some b) : (∃ b0, st[k]? = some b0 ∧ b.kind = b0.kind) ∨ (st.length ≤ k) := by
  have hlt : k < bs.length := by rw [← f.len]; exact (List.getElem?_eq_some_iff.1 hk).1
  have hc : bs[k]? = some bs[k] := List.getElem?_eq_getElem hlt
  generalize bs[k] = c at hc
  cases c with
  | acc =>
    obtain ⟨h1, h2⟩ := f.acc k hc
    rw [hk] at h1; cases h1
    rcases h2 with ⟨g, h2⟩ | h2
    · exact Or.inl ⟨_, h2, rfl⟩
    · exact Or.inr h2
  | box T p => obtain ⟨s, vs, rest, shs, shs', h1, h2, h3⟩ := f.box k T p hc; rw [hk] at h3; cases h3; exact Or.inl ⟨_, h1, rfl⟩
  | map K E => obtain ⟨es, h1, h2⟩ := f.map k K E hc; rw [hk] at h2; cases h2; exact Or.inl ⟨_, h1, rfl⟩
  | mit K E => obtain ⟨es, h1, c, h2⟩ := f.mit k K E hc; rw [hk] at h1; cases h1; exact Or.inl ⟨_, h2, rfl⟩
  | iter => obtain ⟨s, p, h1, h2⟩ := f.iter k hc; rw [hk] at h2; cases h2; exact Or.inl ⟨_, h1, rfl⟩
  | bld T => obtain ⟨s, h1, h2⟩ := f.bld k T hc; rw [hk] at h2; cases h2; exact Or.inl ⟨_, h1, rfl⟩
  | arr E fl =>
    obtain ⟨s, h1, h2⟩ := f.arr k E fl hc
    rw [hk] at h1; cases h1
    rcases h2 with ⟨g, h2, _⟩ | ⟨h2, _⟩
    · exact Or.inl ⟨_, h2, rfl⟩
    · exact Or.inr h2
theorem StFit.arrBack (f : StFit P st bs bs st st') {k fl : Nat} {E : TypeId} {xs : List PV} (hk : st'[k]? = some (.arr E fl xs)) (hlt : k < st.length) : ∃ g, st[k]? = some (.arr E g xs) ∧ (fl = 0 → g = 0) := by
  have hlt' : k < bs.length := by rw [← f.len]; exact (List.getElem?_eq_some_iff.1 hk).1
  have hc : bs[k]? = some bs[k] := List.getElem?_eq_getElem hlt'
  generalize bs[k] = c at hc
  cases c with
  | acc => rw [(f.acc k hc).1] at hk; cases hk
  | box T p => obtain ⟨s, vs, rest, shs, shs', h1, h2, h3⟩ := f.box k T p hc; rw [hk] at h3; cases h3
  | map K E => obtain ⟨es, h1, h2⟩ := f.map k K E hc; rw [hk] at h2; cases h2
  | mit K E => obtain ⟨es, h1, c, h2⟩ := f.mit k K E hc; rw [hk] at h1; cases h1
  | iter => obtain ⟨s, p, h1, h2⟩ := f.iter k hc; rw [hk] at h2; cases h2
  | bld T => obtain ⟨s, h1, h2⟩ := f.bld k T hc; rw [hk] at h2; cases h2
  | arr E' fl' =>
    obtain ⟨s, h1, h2⟩ := f.arr k E' fl' hc
    rw [hk] at h1; cases h1
    rcases h2 with ⟨g, h2, h3⟩ | ⟨h2, _⟩
    · exact ⟨g, h2, h3⟩
    · omega
theorem StFit.kept (f : StFit P st bs bs st st') {k : Nat} {b : BX} (hk : st[k]? = some b) (hlt : k < bs.length) : ∃ b', st'[k]? = some b' ∧ b'.kind = b.kind := by
  have h' : st'[k]? = some (st'[k]'(by rw [f.len]; exact hlt)) := List.getElem?_eq_getElem _
  rcases f.kind h' with ⟨b0, h1, h2⟩ | h2
  · rw [hk] at h1; cases h1; exact ⟨_, h', h2⟩
  · have := (List.getElem?_eq_some_iff.1 hk).1; omega
theorem StFit.arrOn (f : StFit P st bs bs st st') {k g : Nat} {E : TypeId} {xs : List PV} (hk : st[k]? = some (.arr E g xs)) (hlt : k < bs.length) : ∃ fl, st'[k]? = some (.arr E fl xs) ∧ (fl = 0 → g = 0) := by
  obtain ⟨b', h1, h2⟩ := f.kept hk hlt
  obtain ⟨fl, ys, rfl⟩ := kind_arr h2
  obtain ⟨g', h3, h4⟩ := f.arrBack h1 (List.getElem?_eq_some_iff.1 hk).1
  rw [hk] at h3; cases h3
  exact ⟨fl, h1, h4⟩
theorem ArrKeep.to {w w' : World} {ow ow' : Own} {μ μ' : Nat → Nat} {k n : Nat} {E : TypeId} (h : ArrKeep w ow μ w' ow' μ' k E) (hk : k < n) : ArrKeep w ow μ w' (owTo ow' n) μ' k E := by
  intro cur hc ho
  obtain ⟨e1, e2, cur', e3, e4⟩ := h cur hc ho
  exact ⟨e1, owTo_some.2 ⟨e2, hk⟩, cur', e3, e4⟩
theorem ArrKeep.from {w w' : World} {ow ow' : Own} {μ μ' : Nat → Nat} {k n : Nat} {E : TypeId} (h : ArrKeep w (owTo ow n) μ w' ow' μ' k E) (hk : k < n) : ArrKeep w ow μ w' ow' μ' k E := by
  intro cur hc ho
  exact h cur hc (owTo_some.2 ⟨ho, hk⟩)

theorem Objs.fit (f : StFit P st bs bs st st') (h : Objs P D ow μ st w) : Objs P D (owTo ow bs.length) μ st' w := by
  refine ⟨fun k b hk => ?_, fun b k ob => ?_, h.dlt, fun b k y ob hk hy o d => ?_⟩
  · have hlt : k < bs.length := by rw [← f.len]; exact (List.getElem?_eq_some_iff.1 hk).1
    have hc : bs[k]? = some bs[k] := List.getElem?_eq_getElem hlt
    generalize bs[k] = c at hc
    have keep : ∀ c, ow c = some k → w.heap[c]? = w.heap[c]? ∧ owTo ow bs.length c = some k ∧ ∀ o, D c o → D c o := fun c oc => ⟨rfl, owTo_some.2 ⟨oc, hlt⟩, fun _ d => d⟩
    cases c with
    | acc => rw [(f.acc k hc).1] at hk; cases hk; trivial
    | box T p =>
      obtain ⟨s, vs, rest, shs, shs', h1, h2, h3⟩ := f.box k T p hc
      rw [h3] at hk; cases hk
      obtain ⟨cells, T', q1, q2, q3, q4, q5⟩ := h.obj k _ h1
      exact ⟨cells, T', q1, q2, owTo_some.2 ⟨q3, hlt⟩, q4, looseP_sound f p s shs vs shs' rest _ h2 q5⟩
    | map K E =>
      obtain ⟨es, h1, h2⟩ := f.map k K E hc
      rw [h2] at hk; cases hk
      obtain ⟨ents, clock, kc, vc, q1, q2, q3⟩ := h.obj k _ h1
      exact ⟨ents, clock, kc, vc, q1, owTo_some.2 ⟨q2, hlt⟩, q3⟩
    | iter =>
      obtain ⟨s, p, h1, h2⟩ := f.iter k hc
      rw [h2] at hk; cases hk
      exact ObjRep.mono (P := P) (b := .iter s p) (h.obj k _ h1) (fun _ _ d => d) (Keeps.refl _ _) (fun _ => rfl) keep
    | mit K E =>
      obtain ⟨es, h1, c, h2⟩ := f.mit k K E hc
      rw [h1] at hk; cases hk
      have h0 := ObjRep.mono (P := P) (b := .mit K E c es) (h.obj k _ h2) (fun _ _ d => d) (Keeps.refl _ _) (fun _ => rfl) keep
      obtain ⟨q1, q2, m, since, c0, seen, q3, q4, q5⟩ := h0
      exact ⟨q1, q2, m, since, c0, seen, q3, q4, fun e he => by cases he⟩
    | bld T =>
      obtain ⟨s, h1, h2⟩ := f.bld k T hc
      rw [h2] at hk; cases hk
      exact ObjRep.mono (P := P) (b := .bld T s) (h.obj k _ h1) (fun _ _ d => d) (Keeps.refl _ _) (fun _ => rfl) keep
    | arr E fl =>
      obtain ⟨s, h1, h2⟩ := f.arr k E fl hc
      rw [h1] at hk; cases hk
      rcases h2 with ⟨g, h2, _⟩ | ⟨_, h2⟩
      · have h0 : ObjRep P D w ow μ k (.arr E g s) := h.obj k _ h2
        exact ObjRep.mono (P := P) (b := .arr E g s) h0 (fun _ _ d => d) (Keeps.refl _ _) (fun _ => rfl) keep
      · subst h2; exact Or.inl rfl
  · obtain ⟨h1, h2⟩ := owTo_some.1 ob
    exact ⟨(h.owlt b k h1).1, by rw [f.len]; exact h2⟩
  · obtain ⟨h1, h2⟩ := owTo_some.1 ob
    rcases f.kind hk with ⟨b0, q1, q2⟩ | q1
    · exact h.lone b k b0 h1 q1 (kind_nacc q2.symm hy) o d
    · have := (h.owlt b k h1).2; omega

theorem WRel.frame (hnp : Γ.np ≤ bs.length) (f : StFit Γ.P st bs bs st st') (hw : WRel Γ D ow μ st w) : WRel Γ D (owTo ow bs.length) μ st' w := by
  have ho := hw.objs.fit f
  refine ⟨fun k T s hk => ho.obj k _ hk, fun k K E es hk => ho.obj k _ hk, fun k b hk => ?_, ho.owlt, hw.dlt, hw.os, hw.tape, hw.output, hw.hs, hw.old, hw.dom0, hw.domN, fun b k ob hb => hw.owN b k (owTo_some.1 ob).1 hb, by rw [f.len]; exact hnp, hw.mu0, fun k hk => ?_, ho.lone, hw.keep0, fun k hk E xs e => ?_⟩
  · have := ho.obj k b hk
    cases b with
    | box T s => trivial
    | map K E es => trivial
    | acc g => trivial
    | hole => trivial
    | _ => exact this
  · obtain ⟨s, hs, p1⟩ := hw.par k hk
    obtain ⟨b', h1, h2⟩ := f.kept hs (Nat.lt_of_lt_of_le hk hnp)
    exact ⟨b', h1, h2.trans p1⟩
  · obtain ⟨g, h1, h2⟩ := f.arrBack e (Nat.lt_of_lt_of_le hk hw.np)
    have := h2 rfl; subst this
    obtain ⟨h3, h4⟩ := hw.arr0 k hk E xs h1
    exact ⟨h3, h4.to (Nat.lt_of_lt_of_le hk hnp)⟩

theorem Rel.frame {e e' : Env} {a : Act} (hnp : Γ.np ≤ bs.length) (f : StFit Γ.P st bs bs st st') (he : ∀ t, e' t = .undef ∨ ∃ sh, loose Γ.P st bs sh (e t) = some (e' t)) (hr : Rel Γ e st a w) : Rel Γ e' st' a w := by
  obtain ⟨D, ow, μ, hw, hs⟩ := hr
  refine ⟨D, owTo ow bs.length, μ, hw.frame hnp f, hs.size, hs.defers, fun t => ?_⟩
  · rcases he t with h | ⟨sh, h⟩
    · rw [h]; exact SRep.slot .undef
    · have hst := hs.slot t
      have hne : ∀ u want x, e t ≠ .gd u want x := by
        intro u want x hg
        rw [hg] at h
        unfold loose at h
        split at h
        · simp at h
        · simp [canon] at h
        · split at h <;> simp [keepCon, keepRef] at h
        · simp at h
        · simp at h
        · simp [canon] at h
      have hst' : SRep Γ.P D w ow μ st (e t) (a.tmps.getD t Go.undef) := by
        cases he : e t with
        | gd u want x => exact absurd he (hne u want x)
        | _ => rw [he] at hst; exact hst
      exact (loose_sound f hst' h).slot

theorem Frame.dec_spec {F : Frame} {e : Env} {x : F.ty} (h : F.dec P e st = some x) : StFit P st F.bs F.bs st (F.st x) ∧ ∀ t, F.env x t = .undef ∨ ∃ sh, loose P st F.bs sh (e t) = some (F.env x t) := by
  unfold Frame.dec at h
  split at h
  · rename_i vs us h1 h2
    have h3 := getL_spec _ _ _ h
    obtain ⟨l, h4⟩ := normSlots_spec _ _ _ h1
    have h5 := normSt_spec _ _ _ _ h2
    have e1 : F.st x = toSt F.bs us := by
      unfold Frame.st
      rw [← h3, ← l, List.drop_left]
    have e2 : F.env x = envOf F.slots vs := by
      unfold Frame.env
      rw [← h3]
      have : ∀ (ts : List Nat) (vs us : List SV), vs.length = ts.length → envOf ts (vs ++ us) = envOf ts vs := by
        intro ts
        induction ts with
        | nil => intro vs us _; simp [envOf]
        | cons t ts ih =>
          intro vs us hl
          cases vs with
          | nil => simp at hl
          | cons v vs => simp only [List.cons_append, envOf]; rw [ih vs us (by simpa using hl)]
      exact this _ _ _ l
    rw [e1, e2]
    exact ⟨h5, h4⟩
  · cases h

theorem Frame.dec_sound {F : Frame} {e : Env} {x : F.ty} {a : Act} (hP : Γ.P = P) (hnp : Γ.np ≤ F.bs.length) (h : F.dec P e st = some x) (hr : Rel Γ e st a w) : Rel Γ (F.env x) (F.st x) a w := by
  subst hP
  obtain ⟨h1, h2⟩ := Frame.dec_spec h
  exact Rel.frame hnp h1 h2 hr

theorem Frame.dec_pan {F : Frame} {e : Env} {x : F.ty} {v : Value} {a : Act} (hP : Γ.P = P) (hnp : Γ.np ≤ F.bs.length) (h : F.dec P e st = some x) (hr : PRel Γ (e 0) st v a w) : PRel Γ (F.env x 0) (F.st x) v a w := by
  subst hP
  obtain ⟨h1, h2⟩ := Frame.dec_spec h
  obtain ⟨hd, D, ow, μ, hw, hs⟩ := hr
  refine ⟨hd, D, owTo ow F.bs.length, μ, hw.frame hnp h1, ?_⟩
  rcases h2 0 with h | ⟨sh, h⟩
  · rw [h]; exact .undef
  · exact loose_sound h1 hs h
end

/- Loops. -/
def lexEq : LEx → LEx → Bool
  | .exit i, .exit j => Nat.beq i j
  | .ret, .ret => true
  | .pan, .pan => true
  | _, _ => false
theorem lexEq_eq {x y : LEx} (h : lexEq x y = true) : x = y := by
  unfold lexEq at h
  split at h
  · rw [Nat.eq_of_beq_eq_true h]
  · rfl
  · rfl
  · cases h

@[reducible] def XTy : List (LEx × Frame) → Type
  | [] => Empty
  | [x] => x.2.ty
  | x :: y :: r => x.2.ty ⊕ XTy (y :: r)
def decX (P : Program) : (X : List (LEx × Frame)) → LEx → Env → List BX → Option (XTy X)
  | [], _, _, _ => none
  | [x], l, e, st => bif lexEq x.1 l then x.2.dec P e st else none
  | x :: y :: r, l, e, st => bif lexEq x.1 l then (match x.2.dec P e st with | some v => some (.inl v) | none => none) else (match decX P (y :: r) l e st with | some v => some (.inr v) | none => none)
def exX : (X : List (LEx × Frame)) → XTy X → LEx
  | [x], _ => x.1
  | x :: _ :: _, .inl _ => x.1
  | _ :: y :: r, .inr v => exX (y :: r) v
def envX : (X : List (LEx × Frame)) → XTy X → Env
  | [x], v => x.2.env v
  | x :: _ :: _, .inl v => x.2.env v
  | _ :: y :: r, .inr v => envX (y :: r) v
def stX : (X : List (LEx × Frame)) → XTy X → List BX
  | [x], v => x.2.st v
  | x :: _ :: _, .inl v => x.2.st v
  | _ :: y :: r, .inr v => stX (y :: r) v
def sumE {α β γ : Type} (f : α → γ) (g : β → γ) : α ⊕ β → γ
  | .inl a => f a
  | .inr b => g b
def kX {R : Type} : (X : List (LEx × Frame)) → XTy X → (LEx → Env → List BX → Option R) → Option R
  | [x], v, K => K x.1 (x.2.env v) (x.2.st v)
  | x :: y :: r, v, K => sumE (fun v => K x.1 (x.2.env v) (x.2.st v)) (fun v => kX (y :: r) v K) v
theorem kX_eq {R : Type} : ∀ (X : List (LEx × Frame)) (v : XTy X) (K : LEx → Env → List BX → Option R), kX X v K = K (exX X v) (envX X v) (stX X v) := by
  intro X
  induction X with
  | nil => intro v; cases v
  | cons x r ih =>
    intro v K
    cases r with
    | nil => rfl
    | cons y r =>
      cases v with
      | inl v => rfl
      | inr v => exact ih v K
def npX (np : Nat) (X : List (LEx × Frame)) : Bool := X.all fun x => Nat.ble np x.2.bs.length

theorem envX_noGd : ∀ (X : List (LEx × Frame)) (v : XTy X), NoGd (envX X v) := by
  intro X
  induction X with
  | nil => intro v; cases v
  | cons x r ih =>
    intro v
    cases r with
    | nil => exact x.2.noGd v
    | cons y r =>
      cases v with
      | inl v => exact x.2.noGd v
      | inr v => exact ih v

theorem decX_ex {P : Program} {e : Env} {st : List BX} {l : LEx} : ∀ (X : List (LEx × Frame)) (v : XTy X), decX P X l e st = some v → exX X v = l := by
  intro X
  induction X with
  | nil => intro v; cases v
  | cons x r ih =>
    intro v h
    cases r with
    | nil =>
      simp only [decX] at h
      cases hb : lexEq x.1 l with
      | false => rw [hb] at h; simp at h
      | true => exact lexEq_eq hb
    | cons y r =>
      simp only [decX] at h
      cases hb : lexEq x.1 l with
      | true =>
        rw [hb] at h
        simp only [cond_true] at h
        split at h
        · cases h; exact lexEq_eq hb
        · cases h
      | false =>
        rw [hb] at h
        simp only [cond_false] at h
        split at h
        · rename_i u hu; cases h; exact ih u hu
        · cases h

theorem decX_sound {Γ : Ctx} {P : Program} (hP : Γ.P = P) {w : World} {a : Act} {e : Env} {st : List BX} {l : LEx} : ∀ (X : List (LEx × Frame)) (v : XTy X), npX Γ.np X = true → decX P X l e st = some v → exX X v = l ∧ (Rel Γ e st a w → Rel Γ (envX X v) (stX X v) a w) := by
  intro X
  induction X with
  | nil => intro v; cases v
  | cons x r ih =>
    intro v hn h
    have hx : Γ.np ≤ x.2.bs.length := by
      simp only [npX, List.all_cons, Bool.and_eq_true] at hn
      exact Nat.le_of_ble_eq_true hn.1
    cases r with
    | nil =>
      simp only [decX] at h
      cases hb : lexEq x.1 l with
      | false => rw [hb] at h; simp at h
      | true =>
        rw [hb] at h
        exact ⟨lexEq_eq hb, fun hr => Frame.dec_sound hP hx h hr⟩
    | cons y r =>
      simp only [decX] at h
      cases hb : lexEq x.1 l with
      | true =>
        rw [hb] at h
        simp only [cond_true] at h
        split at h
        · rename_i u hu
          cases h
          exact ⟨lexEq_eq hb, fun hr => Frame.dec_sound hP hx hu hr⟩
        · cases h
      | false =>
        rw [hb] at h
        simp only [cond_false] at h
        split at h
        · rename_i u hu
          cases h
          have hn' : npX Γ.np (y :: r) = true := by
            simp only [npX, List.all_cons, Bool.and_eq_true] at hn ⊢
            exact hn.2
          exact ih u hn' hu
        · cases h

theorem decX_pan {Γ : Ctx} {P : Program} (hP : Γ.P = P) {w : World} {a : Act} {v0 : Value} {e : Env} {st : List BX} {l : LEx} : ∀ (X : List (LEx × Frame)) (v : XTy X), npX Γ.np X = true → decX P X l e st = some v → exX X v = l ∧ (PRel Γ (e 0) st v0 a w → PRel Γ (envX X v 0) (stX X v) v0 a w) := by
  intro X
  induction X with
  | nil => intro v; cases v
  | cons x r ih =>
    intro v hn h
    have hx : Γ.np ≤ x.2.bs.length := by
      simp only [npX, List.all_cons, Bool.and_eq_true] at hn
      exact Nat.le_of_ble_eq_true hn.1
    cases r with
    | nil =>
      simp only [decX] at h
      cases hb : lexEq x.1 l with
      | false => rw [hb] at h; simp at h
      | true =>
        rw [hb] at h
        exact ⟨lexEq_eq hb, fun hr => Frame.dec_pan hP hx h hr⟩
    | cons y r =>
      simp only [decX] at h
      cases hb : lexEq x.1 l with
      | true =>
        rw [hb] at h
        simp only [cond_true] at h
        split at h
        · rename_i u hu
          cases h
          exact ⟨lexEq_eq hb, fun hr => Frame.dec_pan hP hx hu hr⟩
        · cases h
      | false =>
        rw [hb] at h
        simp only [cond_false] at h
        split at h
        · rename_i u hu
          cases h
          have hn' : npX Γ.np (y :: r) = true := by
            simp only [npX, List.all_cons, Bool.and_eq_true] at hn ⊢
            exact hn.2
          exact ih u hn' hu
        · cases h

/-- A loop's rounds: each goes on or ends. -/
def loopR {σ τ : Type} (step : σ → Option (σ ⊕ τ)) : Nat → σ → Option τ
  | 0, _ => none
  | n + 1, x =>
    match step x with
    | none => none
    | some (.inl x1) => loopR step n x1
    | some (.inr y) => some y

theorem loopR_mono {σ τ : Type} {step : σ → Option (σ ⊕ τ)} : ∀ (n m : Nat) (x : σ) (y : τ), loopR step n x = some y → n ≤ m → loopR step m x = some y := by
  intro n
  induction n with
  | zero => intro m x y h; simp [loopR] at h
  | succ n ih =>
    intro m x y h hm
    obtain ⟨k, rfl⟩ : ∃ k, m = k + 1 := ⟨m - 1, by omega⟩
    unfold loopR at h ⊢
    split at h
    · cases h
    · rename_i x1 h1; exact ih k x1 y h (by omega)
    · rename_i z h1; exact h

open Classical in
/-- What a loop comes to, where it ends. -/
noncomputable def loopW {σ τ : Type} (step : σ → Option (σ ⊕ τ)) (x : σ) : Option τ :=
  if h : ∃ n y, loopR step n x = some y then loopR step h.choose x else none

theorem loopW_spec {σ τ : Type} {step : σ → Option (σ ⊕ τ)} {x : σ} {y : τ} (h : loopW step x = some y) : ∃ n, loopR step n x = some y := by
  unfold loopW at h
  split at h
  · exact ⟨_, h⟩
  · cases h
theorem loopW_of {σ τ : Type} {step : σ → Option (σ ⊕ τ)} {x : σ} {y : τ} (n : Nat) (h : loopR step n x = some y) : loopW step x = some y := by
  unfold loopW
  have he : ∃ n y, loopR step n x = some y := ⟨n, y, h⟩
  rw [dif_pos he]
  obtain ⟨z, hz⟩ := he.choose_spec
  have h1 := loopR_mono _ (max n he.choose) _ _ hz (Nat.le_max_right _ _)
  have h2 := loopR_mono _ (max n he.choose) _ _ h (Nat.le_max_left _ _)
  rw [h1] at h2
  cases h2
  exact hz
theorem loopW_eq {σ τ : Type} (step : σ → Option (σ ⊕ τ)) (x : σ) : loopW step x = (match step x with | none => none | some (.inl x1) => loopW step x1 | some (.inr y) => some y) := by
  cases hx : step x with
  | none =>
    cases hw : loopW step x with
    | none => rfl
    | some y =>
      obtain ⟨n, hn⟩ := loopW_spec hw
      cases n with
      | zero => simp [loopR] at hn
      | succ n => simp [loopR, hx] at hn
  | some s =>
    cases s with
    | inr y => exact loopW_of 1 (by simp [loopR, hx])
    | inl x1 =>
      show _ = loopW step x1
      cases hw : loopW step x1 with
      | some y =>
        obtain ⟨n, hn⟩ := loopW_spec hw
        exact loopW_of (n + 1) (by simp [loopR, hx, hn])
      | none =>
        cases hw2 : loopW step x with
        | none => rfl
        | some y =>
          obtain ⟨n, hn⟩ := loopW_spec hw2
          cases n with
          | zero => simp [loopR] at hn
          | succ n =>
            simp only [loopR, hx] at hn
            rw [loopW_of n hn] at hw
            cases hw
theorem loopW_go {σ τ : Type} {step : σ → Option (σ ⊕ τ)} {x x1 : σ} (h : step x = some (.inl x1)) : loopW step x = loopW step x1 := by rw [loopW_eq, h]
theorem loopW_end {σ τ : Type} {step : σ → Option (σ ⊕ τ)} {x : σ} {y : τ} (h : step x = some (.inr y)) : loopW step x = some y := by rw [loopW_eq, h]

/-- The same; where the fuel is not 0, by that many rounds at most (the kernel can run that). -/
noncomputable def loopQ {σ τ : Type} (fuel : Nat) (step : σ → Option (σ ⊕ τ)) (x : σ) : Option τ :=
  match fuel with
  | 0 => loopW step x
  | n + 1 => loopR step (n + 1) x
theorem loopQ_spec {σ τ : Type} {fuel : Nat} {step : σ → Option (σ ⊕ τ)} {x : σ} {y : τ} (h : loopQ fuel step x = some y) : ∃ n, loopR step n x = some y := by
  unfold loopQ at h
  split at h
  · exact loopW_spec h
  · exact ⟨_, h⟩
theorem loopQ0 {σ τ : Type} (step : σ → Option (σ ⊕ τ)) (x : σ) : loopQ 0 step x = loopW step x := rfl

structure LoopE where
  key : Nat
  H : Frame
  X : List (LEx × Frame)
  step : H.ty → Option (H.ty ⊕ XTy X)

noncomputable def lamOf (P : Program) (fuel : Nat) : List LoopE → (R : Type) → Nat → Env → List BX → (LEx → Env → List BX → Option R) → Option R
  | [], _, _, _, _, _ => none
  | l :: r, R, key, e, st, K => bif Nat.beq l.key key then (l.H.dec P e st).bind fun x => (loopQ fuel l.step x).bind fun y => kX l.X y K else lamOf P fuel r R key e st K

def someL {σ τ : Type} (x : Option σ) : Option (σ ⊕ τ) := match x with | some v => some (.inl v) | none => none
def someR {σ τ : Type} (x : Option τ) : Option (σ ⊕ τ) := match x with | some v => some (.inr v) | none => none

/-- One round of a loop, as its text says. -/
def LoopStep (C : Cfg) (body : Code) (l : LoopE) : Prop :=
  ∀ (x : l.H.ty), exec C body { norm := fun e st => someL (l.H.dec C.P e st), exit := fun i e st => someR (decX C.P l.X (.exit i) e st), ret := fun e st => someR (decX C.P l.X .ret e st), pan := fun s st => someR (decX C.P l.X .pan (fun t => bif Nat.beq t 0 then s else .undef) st) } (l.H.env x) (l.H.st x) = l.step x

theorem loopR_sound {C : Cfg} (hC : CallOk C) {body : Code} {l : LoopE} (hL : ∀ b, b ∈ loopsOf body → LoopOk C b) (hnp : Nat.ble C.np l.H.bs.length = true) (hX : npX C.np l.X = true) (hstep : LoopStep C body l) :
    ∀ (n : Nat) (x : l.H.ty) (y : XTy l.X), loopR l.step n x = some y → LoopGo C body n (l.H.env x) (l.H.st x) (exX l.X y) (envX l.X y) (stX l.X y) := by
  intro n
  induction n with
  | zero => intro x y h; simp [loopR] at h
  | succ n ih =>
    intro x y h
    have hs := hstep x
    cases hx : l.step x with
    | none => simp [loopR, hx] at h
    | some s =>
      rw [hx] at hs
      refine loop_round hC hL hs (fun e1 st1 hk hg => ?_) (fun i e1 st1 hk hg => ?_) (fun e1 st1 hk hg => ?_) (fun s1 st1 hk => ?_)
      · simp only [someL] at hk
        split at hk
        · rename_i x1 h1
          cases hk
          simp only [loopR, hx] at h
          intro Γ hP hn hnp' Q a w hr hg' hQ
          exact ih x1 y h Γ hP hn hnp' Q a w (Frame.dec_sound hP (by rw [hnp']; exact Nat.le_of_ble_eq_true hnp) h1 hr) (l.H.noGd x1) hQ
        · cases hk
      · simp only [someR] at hk
        split at hk
        · rename_i z hk'
          cases hk
          simp only [loopR, hx, Option.some.injEq] at h
          subst h
          exact ⟨decX_ex l.X z hk', fun Γ a w hP hn => (decX_sound (a := a) (w := w) hP l.X z (by rw [hn]; exact hX) hk').2⟩
        · cases hk
      · simp only [someR] at hk
        split at hk
        · rename_i z hk'
          cases hk
          simp only [loopR, hx, Option.some.injEq] at h
          subst h
          exact ⟨decX_ex l.X z hk', fun Γ a w hP hn => (decX_sound (a := a) (w := w) hP l.X z (by rw [hn]; exact hX) hk').2⟩
        · cases hk
      · simp only [someR] at hk
        split at hk
        · rename_i z hk'
          cases hk
          simp only [loopR, hx, Option.some.injEq] at h
          subst h
          exact ⟨decX_ex l.X z hk', fun Γ v a w hP hn hp => (decX_pan (a := a) (w := w) (v0 := v) hP l.X z (by rw [hn]; exact hX) hk').2 hp⟩
        · cases hk

/-- The loop's oracle is sound. -/
theorem loopOk_of {C : Cfg} (hC : CallOk C) {body : Code} (fuel : Nat) (l : LoopE) (hL : ∀ b, b ∈ loopsOf body → LoopOk C b) (hnp : (Nat.ble C.np l.H.bs.length && npX C.np l.X) = true) (hstep : LoopStep C body l)
    (hlam : ∀ (R : Type) (e : Env) (st : List BX) (K : LEx → Env → List BX → Option R), C.lam R (keyOf body) e st K = (l.H.dec C.P e st).bind fun x => (loopQ fuel l.step x).bind fun y => kX l.X y K) : LoopOk C body := by
  simp only [Bool.and_eq_true] at hnp
  refine LoopOk.one fun R e st K r h => ?_
  rw [hlam] at h
  simp only [Option.bind_eq_some_iff] at h
  obtain ⟨x, h1, y, h2, h3⟩ := h
  rw [kX_eq] at h3
  obtain ⟨n, h2⟩ := loopQ_spec h2
  refine ⟨exX l.X y, envX l.X y, stX l.X y, n, h3, envX_noGd _ _, ?_⟩
  intro Γ hP hn hnp' Q a w hr hg hQ
  exact loopR_sound hC hL hnp.1 hnp.2 hstep n x y h2 Γ hP hn hnp' Q a w (Frame.dec_sound hP (by rw [hnp']; exact Nat.le_of_ble_eq_true hnp.1) h1 hr) (l.H.noGd x) hQ

/- Calls. -/
/-- What goes into a call, what comes out of it. -/
structure AFrame where
  n : Nat
  bs : List BSh
  sh : List Shape
@[reducible] def AFrame.ty (A : AFrame) : Type := TyL A.sh
def AFrame.args (A : AFrame) (x : A.ty) : List SV := (encL A.sh x).take A.n
def AFrame.st (A : AFrame) (x : A.ty) : List BX := toSt A.bs ((encL A.sh x).drop A.n)
def normArgs (P : Program) (st : List BX) (bs : List BSh) : List SV → List Shape → Option (List SV)
  | [], _ => some []
  | s :: ss, sh :: shs => match loose P st bs sh s, normArgs P st bs ss shs with | some v, some vs => some (v :: vs) | _, _ => none
  | _ :: _, [] => none
def AFrame.get (A : AFrame) (P : Program) (as : List SV) (st : List BX) : Option A.ty :=
  bif Nat.beq as.length A.n then
    match normArgs P st A.bs as A.sh, normSt P st A.bs A.bs st (A.sh.drop A.n) with
    | some vs, some us => getL A.sh (vs ++ us)
    | _, _ => none
  else none
theorem normArgs_spec {P : Program} {st : List BX} {bs : List BSh} : ∀ (as : List SV) (shs : List Shape) (vs : List SV), normArgs P st bs as shs = some vs → vs.length = as.length ∧ ∀ (i : Nat) (x : SV), vs[i]? = some x → ∃ y sh, as[i]? = some y ∧ loose P st bs sh y = some x := by
  intro as
  induction as with
  | nil => intro shs vs h; simp [normArgs] at h; subst h; exact ⟨rfl, fun i x hi => by simp at hi⟩
  | cons s ss ih =>
    intro shs vs h
    cases shs with
    | nil => simp [normArgs] at h
    | cons sh shs =>
      simp only [normArgs] at h
      split at h
      · rename_i v vs' h1 h2
        cases h
        obtain ⟨l, hh⟩ := ih shs vs' h2
        refine ⟨by simp [l], fun i x hi => ?_⟩
        cases i with
        | zero => simp at hi; subst hi; exact ⟨s, sh, rfl, h1⟩
        | succ i => obtain ⟨y, sh', h3, h4⟩ := hh i x (by simpa using hi); exact ⟨y, sh', by simpa using h3, h4⟩
      · cases h
theorem AFrame.get_spec {P : Program} {A : AFrame} {as : List SV} {st : List BX} {x : A.ty} (h : A.get P as st = some x) : as.length = A.n ∧ StFit P st A.bs A.bs st (A.st x) ∧ (A.args x).length = as.length ∧ ∀ (i : Nat) (s : SV), (A.args x)[i]? = some s → ∃ y sh, as[i]? = some y ∧ loose P st A.bs sh y = some s := by
  unfold AFrame.get at h
  cases hb : Nat.beq as.length A.n with
  | false => rw [hb] at h; simp at h
  | true =>
    rw [hb] at h
    have hl := Nat.eq_of_beq_eq_true hb
    simp only [cond_true] at h
    split at h
    · rename_i vs us h1 h2
      have h3 := getL_spec _ _ _ h
      obtain ⟨l, h4⟩ := normArgs_spec _ _ _ h1
      have h5 := normSt_spec _ _ _ _ h2
      have hn : vs.length = A.n := by omega
      have e1 : A.st x = toSt A.bs us := by
        unfold AFrame.st
        rw [← h3, ← hn, List.drop_left]
      have e2 : A.args x = vs := by
        unfold AFrame.args
        rw [← h3, ← hn, List.take_left]
      rw [e1, e2]
      exact ⟨hl, h5, l, h4⟩
    · cases h

/-- A contract for the form that a call's data are brought into. -/
theorem Meets.enter {P : Program} {A : AFrame} {f : FuncId} {as : List SV} {st : List BX} {x : A.ty} (h : A.get P as st = some x) (hle : st.length ≤ A.bs.length) {rs : List SV} {st' : List BX} (hm : Meets P f (A.args x) (A.st x) rs st') : Meets P f as st rs st' := by
  obtain ⟨h1, h2, h3, h4⟩ := AFrame.get_spec h
  refine ⟨hm.1, fun D ow μ w vals pre => ?_⟩
  have pre' : Pre P D (owTo ow A.bs.length) μ (A.st x) w (A.args x) vals := by
    refine ⟨by rw [pre.size, h3], fun i s v hs hv => ?_, pre.objs.fit h2, fun p hp g hg => ?_⟩
    · obtain ⟨y, sh, hy, hl⟩ := h4 i s hs
      exact loose_sound h2 (pre.arg i y v hy hv) hl
    · obtain ⟨q1, q2⟩ := pre.tabs p hp g hg
      exact ⟨by simp [owTo, q1], q2⟩
  refine (hm.2 D _ μ w vals pre').mono fun e w' ⟨v, D', he, hp⟩ => ⟨v, D', he, hp.dom, fun b o d => ?_, ?_, hp.os, hp.tape, hp.output, hp.size, fun b hb hn => hp.old b hb (by simp [owTo, hn]), hp.keeps⟩
  · rcases hp.new b o d with d | d | d
    · exact Or.inl d
    · exact Or.inr (Or.inl d)
    · exact Or.inr (Or.inr (fun hn => d (by simp [owTo, hn])))
  · obtain ⟨ow', μ', hr⟩ := hp.rest
    refine ⟨ow', μ', hr.objs, hr.res, fun b k hb hlt => (owTo_some.1 (hr.own b k hb hlt)).1, fun k b hk => ?_, fun k E g xs ys hk hk' => ?_⟩
    · obtain ⟨b1, q1, q2⟩ := h2.kept hk (Nat.lt_of_lt_of_le (List.getElem?_eq_some_iff.1 hk).1 hle)
      obtain ⟨b2, r1, r2, r3⟩ := hr.keep k b1 q1
      exact ⟨b2, r1, r2.trans q2, fun hacc harr => r3 (kind_nacc q2 hacc) (kind_narr q2 harr)⟩
    · have hlt := Nat.lt_of_lt_of_le (List.getElem?_eq_some_iff.1 hk).1 hle
      obtain ⟨fl, q1, q2⟩ := h2.arrOn hk hlt
      obtain ⟨r1, r2⟩ := hr.same k E fl xs ys q1 hk'
      exact ⟨r1, r2.from hlt⟩

/-- What comes out of a call, brought into its form. -/
theorem Post.leave {P : Program} {A : AFrame} {D : Dom} {w : World} {ow : Own} {μ : Nat → Nat} {st : List BX} {rs : List SV} {s : List BX} {v : Value} {D' : Dom} {w' : World} {y : A.ty} (h : A.get P rs s = some y) (hle : st.length ≤ A.bs.length) (hp : Post P D w ow μ st rs s v D' w') : Post P D w ow μ st (A.args y) (A.st y) v D' w' ∧ endOf (A.args y) v = endOf rs v := by
  obtain ⟨h1, h2, h3, h4⟩ := AFrame.get_spec h
  obtain ⟨ow', μ', hr⟩ := hp.rest
  have hnp : ∀ s0, rs ≠ [.pan s0] := by
    rintro s0 rfl
    obtain ⟨s1, hs1⟩ := List.length_eq_one_iff.1 (show (A.args y).length = 1 by rw [h3]; rfl)
    obtain ⟨z, sh, hz, hlo⟩ := h4 0 s1 (by rw [hs1]; rfl)
    simp at hz; subst hz
    rw [loose_pan] at hlo; cases hlo
  rcases resRep_cases hr.res with ⟨s0, e, _⟩ | ⟨_, hres0, hend⟩
  · exact absurd e (hnp s0)
  have hres' : SRep P D' w' (owTo ow' A.bs.length) μ' (A.st y) (resSV (A.args y)) v := by
    have hres := hres0
    by_cases hl : rs.length = 1
    · obtain ⟨s0, rfl⟩ := List.length_eq_one_iff.1 hl
      obtain ⟨s1, hs1⟩ := List.length_eq_one_iff.1 (show (A.args y).length = 1 by omega)
      rw [hs1] at h4 ⊢
      obtain ⟨z, sh, hz, hlo⟩ := h4 0 s1 rfl
      simp at hz; subst hz
      exact loose_sound h2 hres hlo
    · have e1 : ∀ l : List SV, l.length ≠ 1 → resSV l = .tup l := by
        intro l hl
        match l, hl with
        | [], _ => rfl
        | [x], hl => exact absurd rfl hl
        | x :: y :: r, _ => rfl
      rw [e1 rs hl] at hres
      rw [e1 _ (by omega)]
      cases hres with
      | tup hs hall =>
        refine .tup (by omega) (fun i x u hx hu => ?_)
        obtain ⟨z, sh, hz, hlo⟩ := h4 i x hx
        exact loose_sound h2 (hall i z u hz hu) hlo
  obtain ⟨hres2, hend2⟩ := resRep_of hres'
  refine ⟨⟨hp.dom, hp.new, ?_, hp.os, hp.tape, hp.output, hp.size, hp.old, hp.keeps⟩, hend2.trans hend.symm⟩
  refine ⟨owTo ow' A.bs.length, μ', hr.objs.fit h2, hres2, fun b k hb hlt => hr.own b k (owTo_some.1 hb).1 hlt, fun k b hk => ?_, fun k E g xs ys hk hk' => ?_⟩
  · obtain ⟨b1, q1, q2, q3⟩ := hr.keep k b hk
    obtain ⟨b2, r1, r2⟩ := h2.kept q1 (Nat.lt_of_lt_of_le (List.getElem?_eq_some_iff.1 hk).1 hle)
    exact ⟨b2, r1, r2.trans q2, q3⟩
  · have hlt := Nat.lt_of_lt_of_le (List.getElem?_eq_some_iff.1 hk).1 hle
    obtain ⟨b1, p1, p2, _⟩ := hr.keep k _ hk
    obtain ⟨g1, q1, q2⟩ := h2.arrBack hk' (List.getElem?_eq_some_iff.1 p1).1
    have := q2 rfl; subst this
    obtain ⟨r1, r2⟩ := hr.same k E g xs ys hk q1
    exact ⟨r1, r2.to hlt⟩
/-- The same for a panic. -/
theorem Post.leaveP {P : Program} {A : AFrame} {D : Dom} {w : World} {ow : Own} {μ : Nat → Nat} {st : List BX} {s0 : SV} {s : List BX} {v : Value} {D' : Dom} {w' : World} {y : A.ty} (h : A.get P [s0] s = some y) (hle : st.length ≤ A.bs.length) (hp : Post P D w ow μ st [.pan s0] s v D' w') : Post P D w ow μ st [.pan ((A.args y).headD .undef)] (A.st y) v D' w' := by
  obtain ⟨h1, h2, h3, h4⟩ := AFrame.get_spec h
  obtain ⟨ow', μ', hr⟩ := hp.rest
  refine ⟨hp.dom, hp.new, ?_, hp.os, hp.tape, hp.output, hp.size, hp.old, hp.keeps⟩
  obtain ⟨s1, hs1⟩ := List.length_eq_one_iff.1 (show (A.args y).length = 1 by rw [h3]; rfl)
  obtain ⟨z, sh, hz, hlo⟩ := h4 0 s1 (by rw [hs1]; rfl)
  simp at hz; subst hz
  rw [hs1]
  refine ⟨owTo ow' A.bs.length, μ', hr.objs.fit h2, loose_sound h2 hr.res hlo, fun b k hb hlt => hr.own b k (owTo_some.1 hb).1 hlt, fun k b hk => ?_, fun k E g xs ys hk hk' => ?_⟩
  · obtain ⟨b1, q1, q2, q3⟩ := hr.keep k b hk
    obtain ⟨b2, r1, r2⟩ := h2.kept q1 (Nat.lt_of_lt_of_le (List.getElem?_eq_some_iff.1 hk).1 hle)
    exact ⟨b2, r1, r2.trans q2, q3⟩
  · have hlt := Nat.lt_of_lt_of_le (List.getElem?_eq_some_iff.1 hk).1 hle
    obtain ⟨b1, p1, p2, _⟩ := hr.keep k _ hk
    obtain ⟨g1, q1, q2⟩ := h2.arrBack hk' (List.getElem?_eq_some_iff.1 p1).1
    have := q2 rfl; subst this
    obtain ⟨r1, r2⟩ := hr.same k E g xs ys hk q1
    exact ⟨r1, r2.to hlt⟩

structure CallE where
  f : FuncId
  A : AFrame
  R : AFrame
  F : A.ty → Option R.ty
  dflt : R.ty
def CallE.Ok (P : Program) (c : CallE) : Prop := ∀ (x : c.A.ty) (y : c.R.ty), c.F x = some y → Meets P c.f (c.A.args x) (c.A.st x) (c.R.args y) (c.R.st y)

/-- A call that may panic. -/
structure CallP where
  f : FuncId
  A : AFrame
  R : AFrame
  X : AFrame
  F : A.ty → Option (R.ty ⊕ X.ty)
  dflt : R.ty
def CallP.Ok (P : Program) (c : CallP) : Prop := ∀ (x : c.A.ty), (∀ (y : c.R.ty), c.F x = some (.inl y) → Meets P c.f (c.A.args x) (c.A.st x) (c.R.args y) (c.R.st y)) ∧ ∀ (y : c.X.ty), c.F x = some (.inr y) → Meets P c.f (c.A.args x) (c.A.st x) [.pan ((c.X.args y).headD .undef)] (c.X.st y)

def callP (P : Program) : List CallP → (R : Type) → Bool → FuncId → List SV → List BX → (List SV → List BX → Option R) → Option R
  | [], _, _, _, _, _, _ => none
  | c :: r, R, b, f, as, st, K =>
    bif Nat.beq c.f f && Nat.ble st.length c.A.bs.length then
      match c.A.get P as st with
      | some x => (bif b then c.F x else some (.inl c.dflt)).bind fun y => sumE (fun y => K (c.R.args y) (c.R.st y)) (fun y => K [.pan ((c.X.args y).headD .undef)] (c.X.st y)) y
      | none => callP P r R b f as st K
    else callP P r R b f as st K
def callOf (P : Program) (ps : List CallP) : List CallE → (R : Type) → Bool → FuncId → List SV → List BX → (List SV → List BX → Option R) → Option R
  | [], R, b, f, as, st, K => callP P ps R b f as st K
  | c :: r, R, b, f, as, st, K =>
    bif Nat.beq c.f f && Nat.ble st.length c.A.bs.length then
      match c.A.get P as st with
      | some x => (bif b then c.F x else some c.dflt).bind fun y => K (c.R.args y) (c.R.st y)
      | none => callOf P ps r R b f as st K
    else callOf P ps r R b f as st K

theorem callP_ok {P : Program} : ∀ (cs : List CallP), (∀ c, c ∈ cs → c.Ok P) → ∀ (R : Type) (b : Bool) (f : FuncId) (as : List SV) (st : List BX) (K : List SV → List BX → Option R) (r : R), callP P cs R b f as st K = some r →
    (b = true → ∃ rs st', K rs st' = some r ∧ Meets P f as st rs st') ∧ ∃ rs st', K rs st' = some r := by
  intro cs
  induction cs with
  | nil => intro _ R b f as st K r h; simp [callP] at h
  | cons c cs ih =>
    intro hok R b f as st K r h
    have ih' := ih (fun c hc => hok c (List.mem_cons_of_mem _ hc)) R b f as st K r
    simp only [callP] at h
    cases hb : (Nat.beq c.f f && Nat.ble st.length c.A.bs.length) with
    | false => rw [hb] at h; exact ih' h
    | true =>
      rw [hb] at h
      simp only [Bool.and_eq_true] at hb
      have := Nat.eq_of_beq_eq_true hb.1; subst this
      simp only [cond_true] at h
      split at h
      · rename_i x hx
        cases b with
        | true =>
          simp only [cond_true, Option.bind_eq_some_iff] at h
          obtain ⟨y, h1, h2⟩ := h
          have hk := hok c (by simp) x
          cases y with
          | inl y => exact ⟨fun _ => ⟨_, _, h2, Meets.enter hx (Nat.le_of_ble_eq_true hb.2) (hk.1 y h1)⟩, _, _, h2⟩
          | inr y => exact ⟨fun _ => ⟨_, _, h2, Meets.enter hx (Nat.le_of_ble_eq_true hb.2) (hk.2 y h1)⟩, _, _, h2⟩
        | false =>
          simp only [cond_false, Option.bind_some] at h
          exact ⟨fun h => absurd h (by decide), _, _, h⟩
      · exact ih' h

theorem callOf_ok {C : Cfg} {ps : List CallP} (hps : ∀ c, c ∈ ps → c.Ok C.P) : ∀ (cs : List CallE), (∀ c, c ∈ cs → c.Ok C.P) → ∀ (R : Type) (b : Bool) (f : FuncId) (as : List SV) (st : List BX) (K : List SV → List BX → Option R) (r : R), callOf C.P ps cs R b f as st K = some r →
    (b = true → ∃ rs st', K rs st' = some r ∧ Meets C.P f as st rs st') ∧ ∃ rs st', K rs st' = some r := by
  intro cs
  induction cs with
  | nil => intro _ R b f as st K r h; exact callP_ok ps hps R b f as st K r h
  | cons c cs ih =>
    intro hok R b f as st K r h
    have ih' := ih (fun c hc => hok c (List.mem_cons_of_mem _ hc)) R b f as st K r
    simp only [callOf] at h
    cases hb : (Nat.beq c.f f && Nat.ble st.length c.A.bs.length) with
    | false => rw [hb] at h; exact ih' h
    | true =>
      rw [hb] at h
      simp only [Bool.and_eq_true] at hb
      have := Nat.eq_of_beq_eq_true hb.1; subst this
      simp only [cond_true] at h
      split at h
      · rename_i x hx
        cases b with
        | true =>
          simp only [cond_true, Option.bind_eq_some_iff] at h
          obtain ⟨y, h1, h2⟩ := h
          refine ⟨fun _ => ⟨_, _, h2, ?_⟩, _, _, h2⟩
          exact Meets.enter hx (Nat.le_of_ble_eq_true hb.2) (hok c (by simp) x y h1)
        | false =>
          simp only [cond_false, Option.bind_some] at h
          exact ⟨fun h => absurd h (by decide), _, _, h⟩
      · exact ih' h

/-- A function's context. -/
@[reducible] noncomputable def cfg (P : Program) (n np : Nat) (calls : List CallE) (loops : List LoopE) (fuel : Nat) (ps : List CallP := []) (own : Bool := false) : Cfg :=
  { P := P, own := own, n := n, np := np, call := callOf P ps calls, lam := lamOf P fuel loops }
theorem cfg_callOkP {P : Program} {n np : Nat} {calls : List CallE} {loops : List LoopE} {fuel : Nat} {ps : List CallP} {own : Bool} (h : ∀ c, c ∈ calls → c.Ok P) (hp : ∀ c, c ∈ ps → c.Ok P) : CallOk (cfg P n np calls loops fuel ps own) :=
  fun R b f as st K r hr => callOf_ok (C := cfg P n np calls loops fuel ps own) hp calls h R b f as st K r hr
theorem callpN {P : Program} : ∀ c, c ∈ ([] : List CallP) → c.Ok P := fun c h => by cases h
theorem callpC {P : Program} {c : CallP} {cs : List CallP} (h : c.Ok P) (hs : ∀ c, c ∈ cs → c.Ok P) : ∀ d, d ∈ c :: cs → d.Ok P := by
  intro d hd
  rcases List.mem_cons.1 hd with rfl | hd
  · exact h
  · exact hs d hd
theorem cfg_callOk {P : Program} {n np : Nat} {calls : List CallE} {loops : List LoopE} {fuel : Nat} (h : ∀ c, c ∈ calls → c.Ok P) : CallOk (cfg P n np calls loops fuel) := cfg_callOkP h callpN

def lp (c : Code) (i : Nat) : Code := (loopsOf c).getD i .skip
def bodyOf (fn : Func) : Code := match fn.body with | some c => c | none => .skip
theorem loops0 {C : Cfg} {c : Code} (h : (loopsOf c).length = 0) : ∀ b, b ∈ loopsOf c → LoopOk C b := by
  intro b hb
  cases hl : loopsOf c with
  | nil => rw [hl] at hb; cases hb
  | cons x r => rw [hl] at h; cases h
theorem loopsN {C : Cfg} {c : Code} (n : Nat) (h : (loopsOf c).length = n) (hi : ∀ i, i < n → LoopOk C (lp c i)) : ∀ b, b ∈ loopsOf c → LoopOk C b := by
  intro b hb
  obtain ⟨i, hlt, rfl⟩ := List.mem_iff_getElem.1 hb
  have := hi i (by omega)
  unfold lp at this
  rwa [List.getD_eq_getElem?_getD, List.getElem?_eq_getElem hlt] at this
theorem loopCut {C : Cfg} {body : Code} (h : ∀ (R : Type) (e : Env) (st : List BX) (K : LEx → Env → List BX → Option R), C.lam R (keyOf body) e st K = none) : LoopOk C body := fun R e st K r hr => by rw [h] at hr; cases hr
theorem callsN {P : Program} : ∀ c, c ∈ ([] : List CallE) → c.Ok P := fun c h => by cases h
theorem callsC {P : Program} {c : CallE} {cs : List CallE} (h : c.Ok P) (hs : ∀ c, c ∈ cs → c.Ok P) : ∀ d, d ∈ c :: cs → d.Ok P := by
  intro d hd
  rcases List.mem_cons.1 hd with rfl | hd
  · exact h
  · exact hs d hd

/-- A function's contract out of its text. -/
theorem meets_of {C : Cfg} (hC : CallOk C) {f : FuncId} {fn : Func} {c : Code} (hf : C.P.funcs[f]? = some fn) (hb : fn.body = some c) (hn : fn.ntmps = C.n) (hname : (fn.name == "runtime.NumGoroutine") = false) (hL : ∀ body, body ∈ loopsOf c → LoopOk C body)
    {A R : AFrame} {F : A.ty → Option R.ty} (hF : ∀ x, execF C fn (A.args x) (A.st x) (R.get C.P) = F x) (hlen : ∀ x, (Nat.ble (A.args x).length C.n && Nat.beq (A.st x).length C.np && Nat.ble (A.st x).length R.bs.length) = true) (x : A.ty) (y : R.ty) (h : F x = some y) :
    Meets C.P f (A.args x) (A.st x) (R.args y) (R.st y) := by
  have hl := hlen x
  simp only [Bool.and_eq_true] at hl
  exact execF_sound hC hf hb hn hname hL (r := y) ((hF x).trans h) (Nat.le_of_ble_eq_true hl.1.1) (Nat.eq_of_beq_eq_true hl.1.2) (fun rs s hk D w ow μ v D' w' hp => hp.leave hk (Nat.le_of_ble_eq_true hl.2))

/-- What comes of a function that may panic. -/
def getP (P : Program) (R X : AFrame) (rs : List SV) (st : List BX) : Option (R.ty ⊕ X.ty) := fork rs (someL (R.get P rs st)) (fun s => someR (X.get P [s] st))
theorem meetsP_of {C : Cfg} (hC : CallOk C) {f : FuncId} {fn : Func} {c : Code} (hf : C.P.funcs[f]? = some fn) (hb : fn.body = some c) (hn : fn.ntmps = C.n) (hname : (fn.name == "runtime.NumGoroutine") = false) (hL : ∀ body, body ∈ loopsOf c → LoopOk C body)
    {A R X : AFrame} {F : A.ty → Option (R.ty ⊕ X.ty)} (hF : ∀ x, execF C fn (A.args x) (A.st x) (getP C.P R X) = F x) (hlen : ∀ x, (Nat.ble (A.args x).length C.n && Nat.beq (A.st x).length C.np && Nat.ble (A.st x).length R.bs.length && Nat.ble (A.st x).length X.bs.length) = true) (x : A.ty) :
    (∀ (y : R.ty), F x = some (.inl y) → Meets C.P f (A.args x) (A.st x) (R.args y) (R.st y)) ∧ ∀ (y : X.ty), F x = some (.inr y) → Meets C.P f (A.args x) (A.st x) [.pan ((X.args y).headD .undef)] (X.st y) := by
  have hl := hlen x
  simp only [Bool.and_eq_true] at hl
  refine ⟨fun y h => execF_sound hC hf hb hn hname hL (r := .inl y) ((hF x).trans h) (Nat.le_of_ble_eq_true hl.1.1.1) (Nat.eq_of_beq_eq_true hl.1.1.2) (fun rs s hk D w ow μ v D' w' hp => ?_), fun y h => execF_sound hC hf hb hn hname hL (r := .inr y) ((hF x).trans h) (Nat.le_of_ble_eq_true hl.1.1.1) (Nat.eq_of_beq_eq_true hl.1.1.2) (fun rs s hk D w ow μ v D' w' hp => ?_)⟩
  · unfold getP at hk
    have hk2 := fork_cases hk
    clear hk
    rcases hk2 with ⟨s0, rfl, hk⟩ | ⟨_, hk⟩
    · simp only [someR] at hk; split at hk <;> cases hk
    · simp only [someL] at hk
      split at hk
      · rename_i z hz; cases hk; exact hp.leave hz (Nat.le_of_ble_eq_true hl.1.2)
      · cases hk
  · unfold getP at hk
    have hk2 := fork_cases hk
    clear hk
    rcases hk2 with ⟨s0, rfl, hk⟩ | ⟨_, hk⟩
    · simp only [someR] at hk
      split at hk
      · rename_i z hz; cases hk; exact ⟨hp.leaveP hz (Nat.le_of_ble_eq_true hl.2), rfl⟩
      · cases hk
    · simp only [someL] at hk; split at hk <;> cases hk
end Go.Ab
namespace Go.Ab
open Go
set_option maxRecDepth 100000

/-- A closed computation, made to the end. -/
def isT (o : Option Bool) : Bool := match o with | some true => true | _ => false
theorem isT_spec {o : Option Bool} (h : isT o = true) : o = some true := by
  unfold isT at h
  split at h
  · rfl
  · cases h

/- Recursion: by any depth that is enough. -/
noncomputable def limQ {σ τ : Type} (fuel : Nat) (G : Nat → σ → Option τ) (x : σ) : Option τ :=
  match fuel with
  | 0 => open Classical in if h : ∃ y, ∃ N, ∀ n, N ≤ n → G n x = some y then some (Classical.choose h) else none
  | n + 1 => G (n + 1) x
theorem limQ_spec {σ τ : Type} {fuel : Nat} {G : Nat → σ → Option τ} {x : σ} {y : τ} (h : limQ fuel G x = some y) : ∃ n, G n x = some y := by
  unfold limQ at h
  split at h
  · split at h
    · rename_i hh
      cases h
      obtain ⟨N, hN⟩ := Classical.choose_spec hh
      exact ⟨N, hN N (Nat.le_refl _)⟩
    · cases h
  · exact ⟨_, h⟩
theorem limQ_intro {σ τ : Type} {G : Nat → σ → Option τ} {x : σ} {y : τ} (N : Nat) (h : ∀ n, N ≤ n → G n x = some y) : limQ 0 G x = some y := by
  have hh : ∃ y, ∃ N, ∀ n, N ≤ n → G n x = some y := ⟨y, N, h⟩
  unfold limQ
  simp only [hh, dif_pos]
  obtain ⟨M, hM⟩ := Classical.choose_spec hh
  rw [← hM (max N M) (Nat.le_max_right _ _), h (max N M) (Nat.le_max_left _ _)]
theorem okLim {P : Program} (E : CallE) {fuel : Nat} {G : Nat → E.A.ty → Option E.R.ty} (hF : ∀ x, E.F x = limQ fuel G x) (h : ∀ n, CallE.Ok P ⟨E.f, E.A, E.R, G n, E.dflt⟩) : E.Ok P := by
  intro x y hy
  rw [hF] at hy
  obtain ⟨n, hn⟩ := limQ_spec hy
  exact h n x y hn
theorem okLimP {P : Program} (E : CallP) {fuel : Nat} {G : Nat → E.A.ty → Option (E.R.ty ⊕ E.X.ty)} (hF : ∀ x, E.F x = limQ fuel G x) (h : ∀ n, CallP.Ok P ⟨E.f, E.A, E.R, E.X, G n, E.dflt⟩) : E.Ok P := by
  intro x
  refine ⟨fun y hy => ?_, fun y hy => ?_⟩
  · rw [hF] at hy
    obtain ⟨n, hn⟩ := limQ_spec hy
    exact (h n x).1 y hn
  · rw [hF] at hy
    obtain ⟨n, hn⟩ := limQ_spec hy
    exact (h n x).2 y hn
theorem okNone {P : Program} {f : FuncId} {A R : AFrame} {d : R.ty} : CallE.Ok P ⟨f, A, R, fun _ => none, d⟩ := fun x y h => by cases h
theorem okNoneP {P : Program} {f : FuncId} {A R X : AFrame} {d : R.ty} : CallP.Ok P ⟨f, A, R, X, fun _ => none, d⟩ := by
  intro x
  refine ⟨fun y h => ?_, fun y h => ?_⟩ <;> cases h

theorem okE {P : Program} {E : CallE} {C : Cfg} (fn : Func) (hC : CallOk C) (hL : ∀ b, b ∈ loopsOf (bodyOf fn) → LoopOk C b) (hP : C.P = P := by kernel_rfl) (hf : C.P.funcs[E.f]? = some fn := by kernel_rfl) (hb : fn.body = some (bodyOf fn) := by kernel_rfl)
    (hn : fn.ntmps = C.n := by kernel_rfl) (hname : (fn.name == "runtime.NumGoroutine") = false := by kernel_rfl) (hF : ∀ x, execF C fn (E.A.args x) (E.A.st x) (E.R.get C.P) = E.F x := by intro x; kernel_rfl)
    (hlen : ∀ x, (Nat.ble (E.A.args x).length C.n && Nat.beq (E.A.st x).length C.np && Nat.ble (E.A.st x).length E.R.bs.length) = true := by intro x; kernel_rfl) : E.Ok P := by
  subst hP
  exact fun x y h => meets_of hC hf hb hn hname hL hF hlen x y h
theorem okL {C : Cfg} (hC : CallOk C) {body : Code} (fuel : Nat) (l : LoopE) (hL : ∀ b, b ∈ loopsOf body → LoopOk C b) (hnp : (Nat.ble C.np l.H.bs.length && npX C.np l.X) = true := by kernel_rfl) (hstep : LoopStep C body l := by intro x; kernel_rfl)
    (hlam : ∀ (R : Type) (e : Env) (st : List BX) (K : LEx → Env → List BX → Option R), C.lam R (keyOf body) e st K = (l.H.dec C.P e st).bind fun x => (loopQ fuel l.step x).bind fun y => kX l.X y K := by intro R e st K; kernel_rfl) : LoopOk C body := loopOk_of hC fuel l hL hnp hstep hlam
theorem okI {P : Program} {E : CallE} (fn : Func) (n np fuel : Nat) (calls : List CallE) (h : ∀ c, c ∈ calls → c.Ok P) (hL : ∀ b, b ∈ loopsOf (bodyOf fn) → LoopOk (cfg P n np calls [] fuel) b) (hf : P.funcs[E.f]? = some fn := by kernel_rfl) (hb : fn.body = some (bodyOf fn) := by kernel_rfl)
    (hn : fn.ntmps = n := by kernel_rfl) (hname : (fn.name == "runtime.NumGoroutine") = false := by kernel_rfl) (hF : ∀ x, execF (cfg P n np calls [] fuel) fn (E.A.args x) (E.A.st x) (E.R.get P) = E.F x := by intro x; kernel_rfl)
    (hlen : ∀ x, (Nat.ble (E.A.args x).length n && Nat.beq (E.A.st x).length np && Nat.ble (E.A.st x).length E.R.bs.length) = true := by intro x; kernel_rfl) : E.Ok P := fun x y h2 => meets_of (cfg_callOk h) hf hb hn hname hL hF hlen x y h2
theorem q0 {P : Program} : ∀ c, c ∈ ([] : List CallE) → c.Ok P := callsN
theorem qc {P : Program} {c : CallE} {cs : List CallE} (h : c.Ok P) (hs : ∀ c, c ∈ cs → c.Ok P) : ∀ d, d ∈ c :: cs → d.Ok P := callsC h hs
theorem L0 {C : Cfg} {c : Code} (h : (loopsOf c).length = 0 := by kernel_rfl) : ∀ b, b ∈ loopsOf c → LoopOk C b := loops0 h
theorem L1 {C : Cfg} {c : Code} (a : LoopOk C (lp c 0)) (h : (loopsOf c).length = 1 := by kernel_rfl) : ∀ b, b ∈ loopsOf c → LoopOk C b := loopsN 1 h fun i hi => by
  match i, hi with
  | 0, _ => exact a
theorem L2 {C : Cfg} {c : Code} (a : LoopOk C (lp c 0)) (b : LoopOk C (lp c 1)) (h : (loopsOf c).length = 2 := by kernel_rfl) : ∀ b, b ∈ loopsOf c → LoopOk C b := loopsN 2 h fun i hi => by
  match i, hi with
  | 0, _ => exact a
  | 1, _ => exact b
theorem L3 {C : Cfg} {c : Code} (a : LoopOk C (lp c 0)) (b : LoopOk C (lp c 1)) (d : LoopOk C (lp c 2)) (h : (loopsOf c).length = 3 := by kernel_rfl) : ∀ b, b ∈ loopsOf c → LoopOk C b := loopsN 3 h fun i hi => by
  match i, hi with
  | 0, _ => exact a
  | 1, _ => exact b
  | 2, _ => exact d
theorem L4 {C : Cfg} {c : Code} (a : LoopOk C (lp c 0)) (b : LoopOk C (lp c 1)) (d : LoopOk C (lp c 2)) (e : LoopOk C (lp c 3)) (h : (loopsOf c).length = 4 := by kernel_rfl) : ∀ b, b ∈ loopsOf c → LoopOk C b := loopsN 4 h fun i hi => by
  match i, hi with
  | 0, _ => exact a
  | 1, _ => exact b
  | 2, _ => exact d
  | 3, _ => exact e

theorem p0 {P : Program} : ∀ c, c ∈ ([] : List CallP) → c.Ok P := callpN
theorem pc {P : Program} {c : CallP} {cs : List CallP} (h : c.Ok P) (hs : ∀ c, c ∈ cs → c.Ok P) : ∀ d, d ∈ c :: cs → d.Ok P := callpC h hs
theorem okJ {P : Program} {E : CallE} (fn : Func) (n np fuel : Nat) (calls : List CallE) (ps : List CallP) (own : Bool) (h : ∀ c, c ∈ calls → c.Ok P) (hp : ∀ c, c ∈ ps → c.Ok P) (hL : ∀ b, b ∈ loopsOf (bodyOf fn) → LoopOk (cfg P n np calls [] fuel ps own) b) (hf : P.funcs[E.f]? = some fn := by kernel_rfl) (hb : fn.body = some (bodyOf fn) := by kernel_rfl)
    (hn : fn.ntmps = n := by kernel_rfl) (hname : (fn.name == "runtime.NumGoroutine") = false := by kernel_rfl) (hF : ∀ x, execF (cfg P n np calls [] fuel ps own) fn (E.A.args x) (E.A.st x) (E.R.get P) = E.F x := by intro x; kernel_rfl)
    (hlen : ∀ x, (Nat.ble (E.A.args x).length n && Nat.beq (E.A.st x).length np && Nat.ble (E.A.st x).length E.R.bs.length) = true := by intro x; kernel_rfl) : E.Ok P := fun x y h2 => meets_of (cfg_callOkP h hp) hf hb hn hname hL hF hlen x y h2
theorem okPE {P : Program} {E : CallP} {C : Cfg} (fn : Func) (hC : CallOk C) (hL : ∀ b, b ∈ loopsOf (bodyOf fn) → LoopOk C b) (hP : C.P = P := by kernel_rfl) (hf : C.P.funcs[E.f]? = some fn := by kernel_rfl) (hb : fn.body = some (bodyOf fn) := by kernel_rfl)
    (hn : fn.ntmps = C.n := by kernel_rfl) (hname : (fn.name == "runtime.NumGoroutine") = false := by kernel_rfl) (hF : ∀ x, execF C fn (E.A.args x) (E.A.st x) (getP C.P E.R E.X) = E.F x := by intro x; kernel_rfl)
    (hlen : ∀ x, (Nat.ble (E.A.args x).length C.n && Nat.beq (E.A.st x).length C.np && Nat.ble (E.A.st x).length E.R.bs.length && Nat.ble (E.A.st x).length E.X.bs.length) = true := by intro x; kernel_rfl) : E.Ok P := by
  subst hP
  exact fun x => meetsP_of hC hf hb hn hname hL hF hlen x
theorem okPJ {P : Program} {E : CallP} (fn : Func) (n np fuel : Nat) (calls : List CallE) (ps : List CallP) (own : Bool) (h : ∀ c, c ∈ calls → c.Ok P) (hp : ∀ c, c ∈ ps → c.Ok P) (hL : ∀ b, b ∈ loopsOf (bodyOf fn) → LoopOk (cfg P n np calls [] fuel ps own) b) (hf : P.funcs[E.f]? = some fn := by kernel_rfl) (hb : fn.body = some (bodyOf fn) := by kernel_rfl)
    (hn : fn.ntmps = n := by kernel_rfl) (hname : (fn.name == "runtime.NumGoroutine") = false := by kernel_rfl) (hF : ∀ x, execF (cfg P n np calls [] fuel ps own) fn (E.A.args x) (E.A.st x) (getP P E.R E.X) = E.F x := by intro x; kernel_rfl)
    (hlen : ∀ x, (Nat.ble (E.A.args x).length n && Nat.beq (E.A.st x).length np && Nat.ble (E.A.st x).length E.R.bs.length && Nat.ble (E.A.st x).length E.X.bs.length) = true := by intro x; kernel_rfl) : E.Ok P := fun x => meetsP_of (cfg_callOkP h hp) hf hb hn hname hL hF hlen x
/-- A copy of a slice, where the text asks whether it is nil. -/
theorem meets_split {P : Program} {f : FuncId} {E : TypeId} {xs : List PV} (h0 : xs = [] → Meets P f [.nils] [] [.nils] []) (h1 : Meets P f [.sln E xs] [] [.arr 0 1 E] [.arr E 1 xs]) : Meets P f [.slice E xs] [] [.arr 0 1 E] [.arr E 1 xs] := by
  refine ⟨h1.1, fun D ow μ w vals pre => ?_⟩
  obtain ⟨v, rfl⟩ : ∃ v, vals = #[v] := by
    have := pre.size
    match vals, this with
    | ⟨[a]⟩, _ => exact ⟨a, rfl⟩
  have ha := pre.arg 0 _ v rfl rfl
  have one : ∀ {s : SV}, SRep P D w ow μ [] s v → Pre P D ow μ [] w [s] #[v] := fun {s} h => ⟨rfl, fun i s' v' hs hv => by
    match i, hs, hv with
    | 0, hs, hv => simp at hs hv; subst hs; subst hv; exact h, pre.objs, pre.tabs⟩
  cases ha with
  | slice ha =>
    have hd : v = .slice none 0 0 ∧ xs = [] ∨ ∃ a n c, v = .slice (some a) n c := by
      cases ha with
      | @nil a c hac => cases a with
        | none => have := hac rfl; subst this; exact Or.inl ⟨rfl, rfl⟩
        | some a => exact Or.inr ⟨a, _, _, rfl⟩
      | mk => exact Or.inr ⟨_, _, _, rfl⟩
    rcases hd with ⟨rfl, rfl⟩ | ⟨a, n, c, rfl⟩
    · refine ((h0 rfl).2 D ow μ w _ (one .nils)).mono fun e w' he => ?_
      obtain ⟨v', D', rfl, po⟩ := he
      obtain ⟨ow', μ', re⟩ := po.rest
      refine ⟨v', D', rfl, po.dom, po.new, ⟨ow', μ', ⟨fun k b e => ?_, fun b k o => ?_, re.objs.dlt, fun b k x o e hx q => ?_⟩, ?_, re.own, fun k b e => by simp at e, fun k E g xs ys e => by simp at e⟩, po.os, po.tape, po.output, po.size, po.old, po.keeps⟩
      · match k, e with
        | 0, e => simp at e; subst e; exact Or.inl rfl
      · have := (re.objs.owlt b k o).2; simp at this
      · have := (re.objs.owlt b k o).2; simp at this
      · have hr := re.res
        simp only [ResRep, resSV] at hr ⊢
        cases hr
        exact .arrNil rfl
    · exact h1.2 D ow μ w _ (one (.sln ha))
end Go.Ab
