/- The evaluator is sound: regions, code. -/
import Derived.Test.YthkagpefbelhoaaGreatDoorAbCall
set_option linter.unusedVariables false
set_option linter.unusedSimpArgs false
set_option linter.unnecessarySimpa false
namespace Go.Ab
open Go

section
variable {Γ : Ctx} {D : Dom} {ow : Own} {μ : Nat → Nat} {st : List BX} {w : World}

theorem call_sound (hw : WRel Γ D ow μ st w) {ks : List Nat} (hn : ks.Nodup) {sub : List BX} (hsub : subSt Γ.P st ks = some sub) {args as : List SV} {ts : List TypeId} (has : argsSV Γ.P ks ts args = some as) {vals : Array Value} (hsz : vals.size = args.length)
    (hargs : ∀ (i : Nat) (s : SV) (v : Value), args[i]? = some s → vals[i]? = some v → SRep Γ.P D w ow μ st s v) {f : FuncId} {rs : List SV} {sub' : List BX} (hm : Meets Γ.P f as sub rs sub') :
    Calls Γ.P f vals w fun e w' => ∃ v D' ow2, e = .returned v ∧ WRel Γ D' ow2 μ (backSt ks sub' st) w' ∧ Moves D w ow μ st D' w' ow2 μ (backSt ks sub' st) ∧ SRep Γ.P D' w' ow2 μ (backSt ks sub' st) (resSV rs) v := by
  obtain ⟨hsl, hspec⟩ := subSt_spec ks sub hsub
  obtain ⟨hal, hag⟩ := argsSV_sound hw hsub args ts as has
  -- what is handed over are boxes and builders
  have isobj : ∀ (j k : Nat), ks[j]? = some k → (∃ T s s', st[k]? = some (.box T s) ∧ sub[j]? = some (.box T s') ∧ canon Γ.P (some T) s = some s') ∨ ∃ T bs, st[k]? = some (.bld T bs) ∧ sub[j]? = some (.bld T bs) := by
    intro j k hj
    obtain ⟨b, b', h1, h2, h3⟩ := hspec j k hj
    rcases canonBX_spec h2 with ⟨T, s, s', rfl, rfl, h4⟩ | ⟨T, bs, rfl, rfl⟩
    · exact Or.inl ⟨T, s, s', h1, h3, h4⟩
    · exact Or.inr ⟨T, bs, h1, h3⟩
  have stk : ∀ k, k ∈ ks → ∃ b, st[k]? = some b ∧ (∀ g, b ≠ .acc g) ∧ (∀ K E es, b ≠ .map K E es) ∧ ∀ s p, b ≠ .iter s p := by
    intro k hk
    obtain ⟨j, hj⟩ := List.mem_iff_getElem?.1 hk
    rcases isobj j k hj with ⟨T, s, s', h1, _⟩ | ⟨T, bs, h1, _⟩
    · exact ⟨_, h1, by simp, by simp, by simp⟩
    · exact ⟨_, h1, by simp, by simp, by simp⟩
  have eD : ∀ {j k : Nat}, ks[j]? = some k → ks.getD j 0 = k := fun hj => by simp [List.getD, hj]
  have tabs : Tabs Γ.P (owSub ow ks) w := by
    intro p hp g hg
    obtain ⟨h1, cs, T, fr, h2, h3⟩ := Γ.tabs p hp g hg
    have hlt : g < Γ.B := by rw [Γ.hB]; exact (Array.getElem?_eq_some_iff.1 h2).1
    have hon : ow g = none := by
      cases ho : ow g with
      | none => rfl
      | some k => have := hw.owN g k ho hlt; rw [h1] at this; cases this
    exact ⟨by simp [owSub, hon], cs, T, fr, by rw [hw.old g hlt h1]; exact h2, h3⟩
  have pre : Pre Γ.P D (owSub ow ks) (fun j => μ (ks.getD j 0)) sub w as vals := by
    refine ⟨by rw [hsz, hal], fun i s v hs hv => hag i s v hs (fun s0 h0 => hargs i s0 v h0 hv), fun j b hb => ?_, fun b j hb => ?_, hw.dlt, tabs, fun b j hb o d => ?_⟩
    · have hlt : j < ks.length := by have := (List.getElem?_eq_some_iff.1 hb).1; omega
      have hj : ks[j]? = some ks[j] := List.getElem?_eq_getElem hlt
      have e := eD hj
      rcases isobj j _ hj with ⟨T, s, s', h1, h2, h4⟩ | ⟨T, bs, h1, h2⟩
      · rw [h2] at hb; cases hb
        obtain ⟨cells, T', q1, q2, q3, q4, q5⟩ := hw.box _ T s h1
        refine ⟨cells, T', ?_, q2, ?_, ?_, canon_sound q5 h4 _ _ _⟩
        · show w.heap[μ (ks.getD j 0)]? = _; rw [e]; exact q1
        · show owSub ow ks (μ (ks.getD j 0)) = some j; rw [e]; exact owSub_at hn hj q3
        · show ∀ o, ¬ D (μ (ks.getD j 0)) o; rw [e]; exact q4
      · rw [h2] at hb; cases hb
        obtain ⟨p, v, q1, q2, q3, q4, q5⟩ := hw.obj _ _ h1
        refine ⟨p, v, ?_, ?_, ?_, ?_, ?_⟩
        · show w.heap[μ (ks.getD j 0)]? = _; rw [e]; exact q1
        · show _ ∨ p = .pointer (some ⟨μ (ks.getD j 0), 0, none⟩); rw [e]; exact q2
        · show owSub ow ks (μ (ks.getD j 0)) = some j; rw [e]; exact owSub_at hn hj q3
        · show ∀ o, ¬ D (μ (ks.getD j 0)) o; rw [e]; exact q4
        · rcases q5 with q5 | ⟨g, cap, cur, fz, a1, a2, a4, a5, a6, a7, a8, a9, a10, a11⟩
          · exact Or.inl q5
          · exact Or.inr ⟨g, cap, cur, fz, a1, a2, a4, a5, a6, a7, a8, by show g ≠ μ (ks.getD j 0); rw [e]; exact a9, owSub_at hn hj a10, a11⟩
    · obtain ⟨k, hk, hob⟩ := owSub_some hb
      have := hw.owlt _ _ hob
      exact ⟨this.1, by rw [hsl]; exact (List.getElem?_eq_some_iff.1 hk).1⟩
    · obtain ⟨k, hk, hob⟩ := owSub_some hb
      obtain ⟨x, h1, h2, _⟩ := stk k (List.mem_of_getElem? hk)
      exact hw.lone b k x hob h1 h2 o d
  refine (hm.2 D (owSub ow ks) (fun j => μ (ks.getD j 0)) w vals pre).mono fun e w' ⟨v, D', he, hp⟩ => ?_
  obtain ⟨ow', o1, o2, o3, o4⟩ := hp.own
  refine ⟨v, D', owBack ow ks ow', he, ?_⟩
  have hl' : sub'.length = ks.length := by rw [hp.len, hsl]
  have ksl : ∀ {j k : Nat}, ks[j]? = some k → k < st.length := by
    intro j k hj
    obtain ⟨b, h1, _⟩ := stk k (List.mem_of_getElem? hj)
    exact (List.getElem?_eq_some_iff.1 h1).1
  have bk : ∀ (j k : Nat), ks[j]? = some k → (backSt ks sub' st)[k]? = sub'[j]? := fun j k hj => backSt_at ks sub' st j k hn hl' hj (ksl hj)
  have notin : ∀ b, (∀ k, k ∈ ks → ow b ≠ some k) → b < w.heap.size → w'.heap[b]? = w.heap[b]? := fun b hb hlt => hp.old b hlt (owSub_none hb)
  have keep : ∀ b k, ow b = some k → k ∉ ks → w'.heap[b]? = w.heap[b]? := fun b k ob hk => notin b (fun k' hk' e => by rw [ob] at e; cases e; exact hk hk') (hw.owlt b k ob).1
  have noD : ∀ b k, ow b = some k → ∀ o, D' b o → D b o := fun b k ob o d => (hp.new b o d).resolve_right (fun h => by have := (hw.owlt b k ob).1; omega)
  -- whose blocks are whose
  have ob1 : ∀ b j k, ks[j]? = some k → ow' b = some j → owBack ow ks ow' b = some k := fun b j k hj h => by simp only [owBack, h]; exact hj
  have ob2 : ∀ b k, k ∉ ks → ow b = some k → owBack ow ks ow' b = some k := by
    intro b k hk ob
    have hn' : ow' b = none := by
      cases h : ow' b with
      | none => rfl
      | some j =>
        obtain ⟨k', hj, ob'⟩ := owSub_some (o2 b j h (hw.owlt b k ob).1)
        rw [ob] at ob'; cases ob'
        exact absurd (List.mem_of_getElem? hj) hk
    simp only [owBack, hn', ob, hk, if_false]
  have ob3 : ∀ b k, owBack ow ks ow' b = some k → (k ∉ ks ∧ ow b = some k) ∨ ∃ j, ks[j]? = some k ∧ ow' b = some j := by
    intro b k h
    unfold owBack at h
    split at h
    · rename_i j hj; exact Or.inr ⟨j, h, hj⟩
    · split at h
      · rename_i k' hk'
        split at h
        · cases h
        · rename_i hnk; cases h; exact Or.inl ⟨hnk, hk'⟩
      · cases h
  have kp : Keeps D w w' := Keeps.of_heap fun b o d => notin b (fun k hk e => by
    obtain ⟨j, hj⟩ := List.mem_iff_getElem?.1 hk
    rcases isobj j k hj with ⟨T, s, s', h1, _⟩ | ⟨T, bs, h1, _⟩
    · exact hw.lone b k _ e h1 (by simp) o d
    · exact hw.lone b k _ e h1 (by simp) o d) (hw.dlt b o d)
  have boxk : ∀ (k : Nat) (T : TypeId) (s : SV), st[k]? = some (.box T s) → k ∈ ks → ∃ (s' : SV) (cells : List Value) (T' : TypeId), (backSt ks sub' st)[k]? = some (.box T s') ∧ w'.heap[μ k]? = some (.cells cells.toArray T' (0, 0)) ∧ cells.length = Γ.P.cellsOf T ∧ (∀ o, ¬ D' (μ k) o) ∧ Closed Γ.P D' w' s' (pack Γ.P T cells) ∧ owBack ow ks ow' (μ k) = some k := by
    intro k T s h1 hk
    obtain ⟨j, hj⟩ := List.mem_iff_getElem?.1 hk
    rcases isobj j k hj with ⟨T0, s0, s0', q1, q2, _⟩ | ⟨T0, bs, q1, q2⟩
    · rw [h1] at q1; cases q1
      obtain ⟨s', cells, T', r1, r2, r3, r4, r5⟩ := hp.box j T s0' q2
      have r6 := o3 j T s0' q2
      have e := eD hj
      simp only [e] at r2 r4 r6
      exact ⟨s', cells, T', by rw [bk j k hj]; exact r1, r2, r3, r4, r5, ob1 _ j k hj r6⟩
    · rw [h1] at q1; cases q1
  have bldk : ∀ (k : Nat) (T : TypeId) (bs : List UInt8), st[k]? = some (.bld T bs) → k ∈ ks → ∃ bs', (backSt ks sub' st)[k]? = some (.bld T bs') ∧ BldRep Γ.P D' w' (owBack ow ks ow') μ k T bs' := by
    intro k T bs h1 hk
    obtain ⟨j, hj⟩ := List.mem_iff_getElem?.1 hk
    rcases isobj j k hj with ⟨T0, s0, s0', q1, q2, _⟩ | ⟨T0, bs0, q1, q2⟩
    · rw [h1] at q1; cases q1
    · rw [h1] at q1; cases q1
      obtain ⟨bs', r1, p, vv, r2, r3, r4, r5, r6⟩ := o4 j T bs q2
      have e := eD hj
      simp only [e] at r2 r3 r4 r5 r6
      refine ⟨bs', by rw [bk j k hj]; exact r1, p, vv, r2, r3, ob1 _ j k hj r4, r5, ?_⟩
      rcases r6 with r6 | ⟨g, cap, cur, fz, a1, a2, a4, a5, a6, a7, a8, a9, a10, a11⟩
      · exact Or.inl r6
      · exact Or.inr ⟨g, cap, cur, fz, a1, a2, a4, a5, a6, a7, a8, a9, ob1 _ j k hj a10, a11⟩
  have m : Moves D w ow μ st D' w' (owBack ow ks ow') μ (backSt ks sub' st) := by
    refine ⟨hp.dom, kp, fun k T s e => ⟨rfl, ?_⟩, fun k K E es e => ⟨rfl, ?_⟩, fun k b e hs => ⟨rfl, ?_⟩, fun k g e => ?_⟩
    · by_cases hk : k ∈ ks
      · obtain ⟨s', _, _, r1, _⟩ := boxk k T s e hk; exact ⟨s', r1⟩
      · exact ⟨s, by rw [backSt_other _ _ _ _ hk]; exact e⟩
    · have hk : k ∉ ks := fun hk => by obtain ⟨b, h1, _, h2, _⟩ := stk k hk; rw [e] at h1; cases h1; exact h2 _ _ _ rfl
      exact ⟨es, by rw [backSt_other _ _ _ _ hk]; exact e⟩
    · by_cases hk : k ∈ ks
      · cases b with
        | box T s => exact absurd rfl hs
        | acc g => exact absurd rfl hs
        | map K E es => exact absurd rfl hs
        | iter s p => obtain ⟨b, h1, _, _, h2⟩ := stk k hk; rw [e] at h1; cases h1; exact absurd rfl (h2 _ _)
        | bld T bs => obtain ⟨bs', r1, _⟩ := bldk k T bs e hk; exact ⟨_, r1, rfl⟩
      · exact ⟨b, by rw [backSt_other _ _ _ _ hk]; exact e, rfl⟩
    · have hk : k ∉ ks := fun hk => by obtain ⟨b, h1, h2, _⟩ := stk k hk; rw [e] at h1; cases h1; exact h2 _ rfl
      exact ⟨g, by rw [backSt_other _ _ _ _ hk]; exact e, Nat.le_refl _, fun _ b ob => ⟨keep b k ob hk, ob2 b k hk ob, noD b k ob⟩⟩
  refine ⟨⟨fun k T s e => ?_, fun k K E es e => ?_, fun k b e => ?_, fun b k ob => ?_, hp.dlt, hp.os.trans hw.os, hp.tape.trans hw.tape, hp.output.trans hw.output, Nat.le_trans hw.hs hp.size,
    fun b hb hn0 => ?_, fun b o d => hp.dom b o (hw.dom0 b o d), fun b o d => ?_, fun b k ob hb => ?_, by rw [backSt_length]; exact hw.np, hw.mu0, fun k g b e ob => ?_, fun k hk => ?_, fun b k y ob e hy o d => ?_⟩, m, hp.res _ _ _⟩
  · by_cases hk : k ∈ ks
    · obtain ⟨j, hj⟩ := List.mem_iff_getElem?.1 hk
      rcases isobj j k hj with ⟨T0, s0, s0', q1, _⟩ | ⟨T0, bs, q1, q2⟩
      · obtain ⟨s', cells, T', r1, r2, r3, r4, r5, r6⟩ := boxk k T0 s0 q1 hk
        rw [r1] at e; cases e
        exact ⟨cells, T', r2, r3, r6, r4, r5 _ _ _⟩
      · obtain ⟨bs', r1, _⟩ := bldk k T0 bs q1 hk
        rw [r1] at e; cases e
    · rw [backSt_other _ _ _ _ hk] at e
      obtain ⟨c, T', q1, q2, q3, q4, q5⟩ := hw.box k T s e
      exact BoxRep.mono ⟨c, T', q1, q2, q3, q4, q5⟩ m rfl (keep _ k q3 hk) (ob2 _ k hk q3) (fun o d => q4 o (noD _ _ q3 o d))
  · by_cases hk : k ∈ ks
    · obtain ⟨j, hj⟩ := List.mem_iff_getElem?.1 hk
      rcases isobj j k hj with ⟨T0, s0, s0', q1, _⟩ | ⟨T0, bs, q1, q2⟩
      · obtain ⟨s', cells, T', r1, _⟩ := boxk k T0 s0 q1 hk
        rw [r1] at e; cases e
      · obtain ⟨bs', r1, _⟩ := bldk k T0 bs q1 hk
        rw [r1] at e; cases e
    · rw [backSt_other _ _ _ _ hk] at e
      obtain ⟨ents, clock, kc, vc, q1, q2, q3⟩ := hw.map k K E es e
      exact OMapRep.mono ⟨ents, clock, kc, vc, q1, q2, q3⟩ m.dom m.keeps rfl (keep _ k q2 hk) (ob2 _ k hk q2) (fun o d => q3.1 o (noD _ _ q2 o d))
  · by_cases hk : k ∈ ks
    · obtain ⟨j, hj⟩ := List.mem_iff_getElem?.1 hk
      rcases isobj j k hj with ⟨T0, s0, s0', q1, _⟩ | ⟨T0, bs, q1, q2⟩
      · obtain ⟨s', cells, T', r1, _⟩ := boxk k T0 s0 q1 hk
        rw [r1] at e; cases e; trivial
      · obtain ⟨bs', r1, r2⟩ := bldk k T0 bs q1 hk
        rw [r1] at e; cases e
        exact r2
    · rw [backSt_other _ _ _ _ hk] at e
      exact (hw.obj k b e).mono (fun _ => rfl) (fun c oc => ⟨keep c k oc hk, ob2 c k hk oc, noD c k oc⟩)
  · rw [backSt_length]
    rcases ob3 b k ob with ⟨_, h⟩ | ⟨j, hj, h⟩
    · exact ⟨Nat.lt_of_lt_of_le (hw.owlt b k h).1 hp.size, (hw.owlt b k h).2⟩
    · exact ⟨(o1 b j h).1, ksl hj⟩
  · have hlt : b < w.heap.size := Nat.lt_of_lt_of_le hb hw.hs
    refine (notin b (fun k hk e => ?_) hlt).trans (hw.old b hb hn0)
    have := hw.owN b k e hb
    rw [hn0] at this; cases this
  · rcases hp.new b o d with d | d
    · exact hw.domN b o d
    · exact Or.inr (Nat.le_trans hw.hs d)
  · rcases ob3 b k ob with ⟨_, h⟩ | ⟨j, hj, h⟩
    · exact hw.owN b k h hb
    · obtain ⟨k', hj', h'⟩ := owSub_some (o2 b j h (Nat.lt_of_lt_of_le hb hw.hs))
      rw [hj] at hj'; cases hj'
      exact hw.owN b k h' hb
  · by_cases hk : k ∈ ks
    · obtain ⟨j, hj⟩ := List.mem_iff_getElem?.1 hk
      rcases isobj j k hj with ⟨T0, s0, s0', q1, _⟩ | ⟨T0, bs, q1, q2⟩
      · obtain ⟨s', cells, T', r1, _⟩ := boxk k T0 s0 q1 hk
        rw [r1] at e; cases e
      · obtain ⟨bs', r1, _⟩ := bldk k T0 bs q1 hk
        rw [r1] at e; cases e
    · rw [backSt_other _ _ _ _ hk] at e
      rcases ob3 b k ob with ⟨_, h⟩ | ⟨j, hj, h⟩
      · exact hw.accB k g b e h
      · exact absurd (List.mem_of_getElem? hj) hk
  · obtain ⟨x, hx, p1, p2⟩ := hw.par k hk
    by_cases hks : k ∈ ks
    · cases x with
      | box T s => obtain ⟨s', cells, T', r1, _⟩ := boxk k _ s hx hks; exact ⟨_, r1, p1, p2⟩
      | bld T bs => obtain ⟨bs', r1, _⟩ := bldk k T bs hx hks; exact ⟨_, r1, p1, p2⟩
      | _ => exact absurd rfl p2
    · exact ⟨x, by rw [backSt_other _ _ _ _ hks]; exact hx, p1, p2⟩
  · rcases ob3 b k ob with ⟨hk, h⟩ | ⟨j, hj, h⟩
    · rw [backSt_other _ _ _ _ hk] at e
      exact hw.lone b k y h e hy o (noD b k h o d)
    · exact (o1 b j h).2.2 o d
end

/- The oracle of calls. -/
def CallOk (C : Cfg) : Prop := ∀ (R : Type) (b : Bool) (f : FuncId) (as : List SV) (st : List BX) (K : List SV → List BX → Option R) (r : R), C.call R b f as st K = some r →
  (b = true → ∃ rs st', K rs st' = some r ∧ Meets C.P f as st rs st') ∧ ∃ rs st', K rs st' = some r

/-- Guards of slots are none of these. -/
def GInv (e : Env) (l : List Oper) : Prop := ∀ t u want x, e t = .gd u want x → u ∉ dsts l

section
variable {Γ : Ctx}

theorem wanted_iff {ops : Array Oper} {o : Oper} {j t : Nat} {want : Bool} {tmps : Array Value} (hg : o.guard = some (j, want)) (ht : (ops[j]?).bind (·.dst) = some t) : Region.wanted o (yielded ops tmps) = true ↔ tmps.getD t Go.undef = .bool want := by
  have e : tmps.getD t Go.undef = (tmps[t]?).getD Go.undef := by simp
  simp only [Region.wanted, hg, yielded, ht, Option.bind_some]
  rw [e]
  cases h : tmps[t]? with
  | none => simp [Go.undef]
  | some v => cases v <;> simp

theorem GInv.sub {e : Env} {o : Oper} {l : List Oper} (h : GInv e (o :: l)) : GInv e l := fun t u want x he hm => h t u want x he (by
  unfold dsts at *
  simp only [List.filterMap_cons]
  split
  · exact hm
  · exact List.mem_cons_of_mem _ hm)

theorem GInv.clean {e : Env} {o : Oper} {l : List Oper} (h : GInv e (o :: l)) {d : Nat} (hd : o.dst = some d) : Clean e d := fun t u want x he hu => h t u want x he (by
  unfold dsts
  simp [List.filterMap_cons, hd, hu])

theorem GInv.put {e : Env} {o : Oper} {l : List Oper} (h : GInv e (o :: l)) (s : SV) (hs : ∀ u want x, s = .gd u want x → u ∉ dsts (o :: l)) : GInv (Ab.put e o.dst s) l := by
  intro t u want x he hm
  have hm' : u ∈ dsts (o :: l) := by
    unfold dsts at *
    simp only [List.filterMap_cons]
    split
    · exact hm
    · exact List.mem_cons_of_mem _ hm
  cases hd : o.dst with
  | none => rw [hd] at he; exact h t u want x he hm'
  | some d =>
    rw [hd] at he
    simp only [Ab.put, Env.set] at he
    cases hb : Nat.beq t d with
    | true => rw [hb] at he; exact hs u want x he hm'
    | false => rw [hb] at he; exact h t u want x he hm'

theorem dst_lt {C : Cfg} {o : Oper} (h : dstOk C.n o.dst = true) : ∀ x, o.dst = some x → x < C.n := by
  intro x hx
  rw [hx] at h
  exact Nat.le_of_ble_eq_true h

/-- What follows an operation that ran. -/
theorem upon_of_opRes {D : Dom} {ow : Own} {μ : Nat → Nat} {e : Env} {st st' : List BX} {a : Act} {w : World} {C : Cfg} (hn : Γ.n = C.n) (hs : Slots Γ D ow μ e st a w) {o : Oper} {l : List Oper} (hd : dstOk C.n o.dst = true) (hg : GInv e (o :: l)) {v : SV} {r : Result Next}
    (h : OpRes Γ D ow μ st w r v st') (s : SV) (hslot : ∀ (D' : Dom) (w' : World) (ow' : Own) (μ' : Nat → Nat) (u : Value), SRep Γ.P D' w' ow' μ' st' v u → SlotRep Γ.P D' w' ow' μ' st' a s u) (hsg : ∀ t want x, s = .gd t want x → t ∉ dsts (o :: l))
    (next : Act → World → Prop) (Q : Exit → Act → World → Prop) (hnext : ∀ a' w', Rel Γ (put e o.dst s) st' a' w' → next a' w') : o.upon Γ.P a next Q r := by
  obtain ⟨u, w', D', ow', μ', hr, hw, hm, hv⟩ := h
  have hrel : Rel Γ (put e o.dst s) st' (a.put o.dst u) w' := by
    refine ⟨D', ow', μ', hw, (hs.mono hm).put o.dst s u (fun x hx => ⟨by rw [hn]; exact dst_lt hd x hx, hg.clean hx⟩) (hslot _ _ _ _ _ hv) (fun t want x hh hdt => ?_)⟩
    exact hsg t want x hh (by unfold dsts; simp [List.filterMap_cons, hdt])
  rcases hr with hr | ⟨hr, hu⟩
  · rw [hr, Oper.upon_value]; exact hnext _ _ hrel
  · rw [hr, Oper.upon_skip, ← hu]; exact hnext _ _ hrel

theorem runOp_sound {R : Type} {C : Cfg} (hC : CallOk C) (hP : C.P = Γ.P) (hn : Γ.n = C.n) {ops : Array Oper} {i : Nat} {o : Oper} (ho : ops[i]? = some o) {rest : List Oper} {e : Env} {st : List BX} {K : Env → List BX → Option R} {r : R} (h : runOp C ops o rest e st K = some r)
    {a : Act} {w : World} (hrel : Rel Γ e st a w) (hg : GInv e (o :: rest)) (next : Act → World → Prop) (Q : Exit → Act → World → Prop)
    (hnext : ∀ e' st' a' w', K e' st' = some r → GInv e' rest → Rel Γ e' st' a' w' → next a' w') : wpOp Γ.P ops Q i next a w := by
  obtain ⟨D, ow, μ, hw, hs⟩ := hrel
  unfold runOp at h
  cases hd : dstOk C.n o.dst with
  | false => rw [hd] at h; simp at h
  | true =>
  rw [hd] at h
  simp only [cond_true, hP] at h
  unfold wpOp
  simp only [ho]
  have hη : ∀ f, a.eval (.func f) = .func (.func f) #[] #[] := fun f => rfl
  cases hgd : o.guard with
  | none =>
    have hw1 : Region.wanted o (yielded ops a.tmps) = true := by simp [Region.wanted, hgd]
    simp only [hw1, if_true]
    refine Or.inl ?_
    unfold Oper.wp
    rw [hgd] at h
    simp only at h
    have hρ : ∀ x, SRep Γ.P D w ow μ st (opd e [] x) (a.eval x) := fun x => opd_sound hs [] (fun _ hx => by cases hx) x
    have noGd : ∀ v : SV, (∀ u, SRep Γ.P D w ow μ st v u → True) → True := fun _ _ => trivial
    split at h
    · simp at h
    · rename_i c v hac
      cases c with
      | false => simp at h
      | true =>
        simp only [cond_true] at h
        have hres := ac_val_sound hw hρ o (ρt := match o.op with | .pick (.tmp t) _ _ => opd e [(t, true)] | _ => opd e []) (ρf := match o.op with | .pick (.tmp t) _ _ => opd e [(t, false)] | _ => opd e []) (fun c x y hop => by
          rw [hop]
          refine ⟨fun hc => ?_, fun hc => ?_⟩
          · cases c with
            | tmp t => exact opd_sound hs [(t, true)] (fun z hz => by simp at hz; subst hz; exact hc) x
            | _ => exact hρ x
          · cases c with
            | tmp t => exact opd_sound hs [(t, false)] (fun z hz => by simp at hz; subst hz; exact hc) y
            | _ => exact hρ y) v hac
        have hng : ∀ t want x, v = .gd t want x → t ∉ dsts (o :: rest) := by
          intro t want x hv
          obtain ⟨u, w', D', ow', μ', _, _, _, hv'⟩ := hres
          subst hv; cases hv'
        exact upon_of_opRes hn hs hd hg hres v (fun _ _ _ _ _ h => h.slot) hng next Q (fun a' w' hr => hnext _ _ a' w' h (hg.put v hng) hr)
    · rename_i c v st' hac
      cases c with
      | false => simp at h
      | true =>
        simp only [cond_true] at h
        have hres := ac_upd_sound hw hρ o v st' hac
        have hng : ∀ t want x, v = .gd t want x → t ∉ dsts (o :: rest) := by
          intro t want x hv
          obtain ⟨u, w', D', ow', μ', _, _, _, hv'⟩ := hres
          subst hv; cases hv'
        exact upon_of_opRes hn hs hd hg hres v (fun _ _ _ _ _ h => h.slot) hng next Q (fun a' w' hr => hnext _ _ a' w' h (hg.put v hng) hr)
    · rename_i f args hac
      split at h
      · rename_i as sub has hsub
        obtain ⟨vals, hrun, hsz, hargs⟩ := ac_call_sound hρ hη o f args hac
        obtain ⟨rs, sub', hK, hm⟩ := (hC R true f as sub _ r h).1 rfl
        rw [hP] at hm
        rw [hrun, hm.1 vals w, Oper.upon_enter]
        refine (call_sound hw (dedup_nodup _) hsub has hsz hargs hm).mono fun en w' ⟨v, D', ow2, he, h1, h2, h3⟩ => ?_
        subst he
        have hng : ∀ t want x, resSV rs = .gd t want x → t ∉ dsts (o :: rest) := by
          intro t want x hv; rw [hv] at h3; cases h3
        refine hnext _ _ _ _ hK (hg.put _ hng) ⟨D', ow2, μ, h1, (hs.mono h2).put o.dst _ v (fun x hx => ⟨by rw [hn]; exact dst_lt hd x hx, hg.clean hx⟩) h3.slot (fun t want x hh hdt => ?_)⟩
        exact hng t want x hh (by unfold dsts; simp [List.filterMap_cons, hdt])
      · simp at h
  | some jw =>
    obtain ⟨j, want⟩ := jw
    rw [hgd] at h
    simp only at h
    cases ht : (ops[j]?).bind (·.dst) with
    | none => rw [ht] at h; simp at h
    | some t =>
      rw [ht] at h
      simp only at h
      cases hmem : (dsts (o :: rest)).any (Nat.beq t) with
      | true => rw [hmem] at h; simp at h
      | false =>
        rw [hmem] at h
        simp only [cond_false] at h
        have htn : t ∉ dsts (o :: rest) := fun hm => by
          have : (dsts (o :: rest)).any (Nat.beq t) = true := List.any_eq_true.2 ⟨t, hm, Nat.beq_refl t⟩
          rw [hmem] at this; cases this
        cases hgv : gval e 8 t want with
        | none => rw [hgv] at h; simp at h
        | some b =>
          rw [hgv] at h
          simp only at h
          have hiff := gval_sound hs 8 t want b hgv
          have hwi := wanted_iff (tmps := a.tmps) hgd ht
          have hsgd : ∀ v : SV, ∀ t' want' x, SV.gd t want v = .gd t' want' x → t' ∉ dsts (o :: rest) := fun v t' want' x he => by cases he; exact htn
          -- where it does not run
          have skip : ∀ v : SV, b = false → Rel Γ (put e o.dst (.gd t want v)) st (a.put o.dst Go.undef) w := by
            intro v hb
            have hne : a.tmps.getD t Go.undef ≠ .bool want := fun hh => by have := hiff.1 hh; rw [hb] at this; cases this
            refine ⟨D, ow, μ, hw, hs.put o.dst _ Go.undef (fun x hx => ⟨by rw [hn]; exact dst_lt hd x hx, hg.clean hx⟩) ⟨fun hh => absurd hh hne, fun _ => rfl⟩ (fun t' want' x hh hdt => ?_)⟩
            exact hsgd v t' want' x hh (by unfold dsts; simp [List.filterMap_cons, hdt])
          cases hb : b with
          | false =>
            have hw0 : Region.wanted o (yielded ops a.tmps) = false := by
              cases hc : Region.wanted o (yielded ops a.tmps) with
              | false => rfl
              | true => have := hiff.1 (hwi.1 hc); rw [hb] at this; cases this
            simp only [hw0, Bool.false_eq_true, if_false]
            split at h
            · rename_i c v hac
              have hi : imp b c = true := by rw [hb]; cases c <;> rfl
              rw [hi] at h
              exact hnext _ _ _ _ h (hg.put _ (hsgd v)) (skip v hb)
            · rename_i f args hac
              split at h
              · obtain ⟨rs, sub', hK⟩ := (hC R b f _ [] _ r h).2
                exact hnext _ _ _ _ hK (hg.put _ (hsgd _)) (skip _ hb)
              · simp at h
            · simp at h
          | true =>
            have hgt : a.tmps.getD t Go.undef = .bool want := hiff.2 hb
            have hw1 : Region.wanted o (yielded ops a.tmps) = true := hwi.2 hgt
            simp only [hw1, if_true]
            refine Or.inl ?_
            unfold Oper.wp
            have hρ : ∀ x, SRep Γ.P D w ow μ st (opd e [(t, want)] x) (a.eval x) := fun x => opd_sound hs [(t, want)] (fun z hz => by simp at hz; subst hz; exact hgt) x
            split at h
            · rename_i c v hac
              have hc : c = true := by
                rw [hb] at h
                cases c with
                | true => rfl
                | false => simp [imp] at h
              subst hc
              have hi : imp b true = true := rfl
              rw [hi] at h
              simp only [cond_true] at h
              have hres := ac_val_sound hw hρ o (ρt := match o.op with | .pick (.tmp u) _ _ => opd e [(u, true), (t, want)] | _ => opd e []) (ρf := match o.op with | .pick (.tmp u) _ _ => opd e [(u, false), (t, want)] | _ => opd e []) (fun c x y hop => by
                rw [hop]
                refine ⟨fun hc => ?_, fun hc => ?_⟩
                · cases c with
                  | tmp u => exact opd_sound hs [(u, true), (t, want)] (fun z hz => by simp at hz; rcases hz with rfl | rfl; exact hc; exact hgt) x
                  | _ => exact opd_sound hs [] (fun _ hx => by cases hx) x
                · cases c with
                  | tmp u => exact opd_sound hs [(u, false), (t, want)] (fun z hz => by simp at hz; rcases hz with rfl | rfl; exact hc; exact hgt) y
                  | _ => exact opd_sound hs [] (fun _ hx => by cases hx) y) v hac
              exact upon_of_opRes hn hs hd hg hres (.gd t want v) (fun _ _ _ _ _ h => ⟨fun _ => h, fun hh => absurd hgt hh⟩) (hsgd v) next Q (fun a' w' hr => hnext _ _ a' w' h (hg.put _ (hsgd v)) hr)
            · rename_i f args hac
              split at h
              · rename_i as hks has
                obtain ⟨vals, hrun, hsz, hargs⟩ := ac_call_sound hρ hη o f args hac
                obtain ⟨rs, sub', hK, hm⟩ := (hC R b f as [] _ r h).1 hb
                rw [hP] at hm
                rw [hrun, hm.1 vals w, Oper.upon_enter]
                refine (call_sound hw (ks := []) (by simp) (sub := []) rfl has hsz hargs hm).mono fun en w' ⟨v, D', ow2, he, h1, h2, h3⟩ => ?_
                subst he
                have hbk : backSt [] sub' st = st := by simp [backSt]
                rw [hbk] at h1 h2 h3
                refine hnext _ _ _ _ hK (hg.put _ (hsgd _)) ⟨D', ow2, μ, h1, (hs.mono h2).put o.dst _ v (fun x hx => ⟨by rw [hn]; exact dst_lt hd x hx, hg.clean hx⟩) ⟨fun _ => h3, fun hh => absurd hgt hh⟩ (fun t' want' x hh hdt => ?_)⟩
                exact hsgd _ t' want' x hh (by unfold dsts; simp [List.filterMap_cons, hdt])
              · simp at h
            · simp at h
end
end Go.Ab
