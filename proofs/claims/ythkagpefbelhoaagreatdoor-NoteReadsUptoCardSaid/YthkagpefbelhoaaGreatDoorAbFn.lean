/- A function by its text. -/
import Derived.Test.YthkagpefbelhoaaGreatDoorAbCode
set_option linter.unusedVariables false
set_option linter.unusedSimpArgs false
set_option linter.unnecessarySimpa false
namespace Go.Ab
open Go

section
variable {Γ : Ctx} {D : Dom} {ow : Own} {μ : Nat → Nat} {st : List BX} {w : World}

/-- What is owned, up to here. -/
def owTo (ow : Own) (n : Nat) : Own := fun b => match ow b with | some k => if k < n then some k else none | none => none
theorem owTo_some {n b k : Nat} : owTo ow n b = some k ↔ ow b = some k ∧ k < n := by
  unfold owTo
  cases h : ow b with
  | none => simp
  | some j =>
    by_cases hj : j < n
    · simp only [hj, if_true, Option.some.injEq]
      exact ⟨fun e => by subst e; exact ⟨rfl, hj⟩, fun e => e.1⟩
    · simp only [hj, if_false, Option.some.injEq]
      exact ⟨fun e => by simp at e, fun e => by have := e.1; have := e.2; omega⟩

/-- What is promised, with the maps that are handed back. -/
def withMaps (D : Dom) (μ : Nat → Nat) (st : List BX) : Dom := fun b o => D b o ∨ (o = 0 ∧ ∃ k K E es, st[k]? = some (.map K E es) ∧ μ k = b)

theorem retSV_sound {T : TypeId} {s s' : SV} {v : Value} (hw : WRel Γ D ow μ st w) (h : SRep Γ.P D w ow μ st s v) (hr : retSV Γ.P st T s = some s') : Closed Γ.P (withMaps D μ st) w s' v := by
  have hD : ∀ x o, D x o → withMaps D μ st x o := fun x o d => Or.inl d
  have hm : Moves D w ow μ st (withMaps D μ st) w (fun _ => none) μ (st.map fun b => match b with | .acc g => .acc (g + 1) | b => b) := by
    refine ⟨hD, Keeps.refl _ _, fun k T s e => ⟨rfl, s, by rw [List.getElem?_map, e]; rfl⟩, fun k K E es e => ⟨rfl, es, by rw [List.getElem?_map, e]; rfl⟩, fun k b e hs => ⟨rfl, b, by rw [List.getElem?_map, e]; cases b <;> first | rfl | exact absurd rfl hs, rfl⟩, fun k g e => ⟨g + 1, by rw [List.getElem?_map, e]; rfl, by omega, fun h => by omega⟩⟩
  unfold retSV at hr
  split at hr
  · rename_i k
    split at hr
    · rename_i K E es hk
      simp only [Option.some.injEq] at hr; subst hr
      cases h
      obtain ⟨ents, clock, kc, vc, r1, r2, r3, r4, r5, r6, r7⟩ := hw.map k K E es hk
      intro ow' μ' st'
      exact .map (.mk kc vc r1 (Or.inr ⟨rfl, k, K, E, es, hk, rfl⟩) r4 (fun i x a => (r5 i x a).mono hD (Keeps.refl _ _)) (fun i x a => (r6 i x a).mono hD (Keeps.refl _ _)) r7)
    · simp at hr
  · simp at hr
  · exact canon_sound (h.mono hm) hr

theorem retAll_sound (hw : WRel Γ D ow μ st w) {e : Env} {a : Act} (hs : Slots Γ D ow μ e st a w) : ∀ (rs : List ResultVar) (ts : List TypeId) (out : List SV), retAll Γ.P e st ts rs = some out →
    ∃ vs : List Value, (rs.mapM fun r => (match r with | .tmp t => pure (a.tmps.getD t Go.undef) | .cell x t => do loadVar t (← asAddr (a.tmps.getD x Go.undef)) : Sem Value)).run Γ.P w = .ok vs w ∧ vs.length = out.length ∧
      ∀ (i : Nat) (s : SV) (v : Value), out[i]? = some s → vs[i]? = some v → Closed Γ.P (withMaps D μ st) w s v := by
  intro rs
  induction rs with
  | nil =>
    intro ts out h
    cases ts with
    | nil => simp [retAll] at h; subst h; exact ⟨[], by simp, rfl, fun i s v hi => by simp at hi⟩
    | cons T ts => simp [retAll] at h
  | cons r rr ih =>
    intro ts out h
    cases ts with
    | nil => simp [retAll] at h
    | cons T ts =>
      unfold retAll at h
      split at h
      · rename_i x q hx hq
        simp only [Option.some.injEq] at h; subst h
        obtain ⟨vs, h1, h2, h3⟩ := ih ts q hq
        have hone : ∃ v, (match r with | .tmp t => pure (a.tmps.getD t Go.undef) | .cell x t => do loadVar t (← asAddr (a.tmps.getD x Go.undef)) : Sem Value).run Γ.P w = .ok v w ∧ Closed Γ.P (withMaps D μ st) w x v := by
          unfold retOne at hx
          split at hx
          · rename_i t
            refine ⟨a.tmps.getD t Go.undef, by simp, ?_⟩
            have hst := hs.slot t
            cases he : e t with
            | gd u want y => rw [he] at hx; simp [retSV, canon] at hx
            | _ => rw [he] at hx hst; exact retSV_sound hw hst hx
          · rename_i t T'
            split at hx
            · rename_i k T'' he
              cases hb : (Nat.beq T' T'' && (Γ.P.underlying T').isSome && (isAggB Γ.P T' || Nat.beq (Γ.P.cellsOf T') 1)) with
              | false => rw [hb] at hx; simp at hx
              | true =>
                rw [hb] at hx
                simp only [cond_true] at hx
                simp only [Bool.and_eq_true, Bool.or_eq_true] at hb
                have := Nat.eq_of_beq_eq_true hb.1.1; subst this
                split at hx
                · rename_i TB s hk
                  have hst := hs.slot t
                  rw [he] at hst
                  simp only [SlotRep] at hst
                  generalize hav : a.tmps.getD t Go.undef = av at hst
                  cases hst with
                  | @ref _ _ _ TB' s' off hk' hp =>
                    rw [hk] at hk'; cases hk'
                    simp only [pathOff, Option.some.injEq, Prod.mk.injEq] at hp
                    obtain ⟨rfl, rfl⟩ := hp
                    obtain ⟨cells, T2, q1, q2, q3, q4, q5⟩ := hw.box k _ s hk
                    refine ⟨pack Γ.P TB cells, ?_, retSV_sound hw q5 hx⟩
                    have hl := run_loadVar' hb.1.2 w (μ k) 0 cells (fun j v hj => by simp [World.cell?, q1, hj]) (fun _ => q2) (fun ha => by
                      have h1 : Γ.P.cellsOf TB = 1 := by
                        rcases hb.2 with h | h
                        · rw [ha] at h; cases h
                        · exact Nat.eq_of_beq_eq_true h
                      rw [h1] at q2
                      match cells, q2 with
                      | [u], _ => exact ⟨u, rfl⟩)
                    simp only [hav, asAddr, Sem.run_bind, Sem.run_pure, Result.andThen_ok]
                    exact hl
                · simp at hx
            · simp at hx
        obtain ⟨v, hv1, hv2⟩ := hone
        refine ⟨v :: vs, ?_, by simp [h2], fun i s u hi hu => ?_⟩
        · simp only [List.mapM_cons, Sem.run_bind, hv1, Result.andThen_ok, h1, Sem.run_pure]
        · cases i with
          | zero => simp at hi hu; subst hi; subst hu; exact hv2
          | succ i => exact h3 i s u (by simpa using hi) (by simpa using hu)
      · simp at h
end

theorem execF_sound {C : Cfg} (hC : CallOk C) {f : FuncId} {fn : Func} {c : Code} (hf : C.P.funcs[f]? = some fn) (hb : fn.body = some c) (hn : fn.ntmps = C.n) (hname : (fn.name == "runtime.NumGoroutine") = false) (hL : ∀ body, body ∈ loopsOf c → LoopOk C body)
    {R : Type} {as : List SV} {st : List BX} {K : List SV → List BX → Option R} {r : R} {rs0 : List SV} {st0 : List BX} (h : execF C fn as st K = some r) (has : as.length ≤ C.n) (hnp : st.length = C.np) (hK : ∀ rs s, K rs s = some r → rs = rs0 ∧ s = st0) : Meets C.P f as st rs0 st0 := by
  refine ⟨canEnter_of hf hname (by rw [hb]; rfl), fun D ow μ w vals pre => ?_⟩
  unfold execF at h
  rw [hb] at h
  simp only at h
  refine calls_of_wp hf hb ?_
  -- the activation
  let Γ : Ctx := { P := C.P, n := C.n, B := w.heap.size, w0 := w, D0 := D, ow0 := ow, np := st.length, μ0 := μ, K0 := fun k => match st[k]? with | some b => b.kind | none => 0, hB := rfl, tabs := pre.tabs }
  have hw : WRel Γ D ow μ st w := by
    refine ⟨fun k T s e => pre.box k _ e, fun k K E es e => absurd (pre.box k _ e) (by simp [ObjIn]), fun k b e => ?_, pre.owlt, pre.dlt, rfl, rfl, rfl, Nat.le_refl _, fun _ _ _ => rfl, fun _ _ d => d, fun _ _ d => Or.inl d, fun _ _ h _ => h, Nat.le_refl _, fun _ _ => rfl, fun k g b e _ => absurd (pre.box k _ e) (by simp [ObjIn]), fun k hk => ?_, fun b k x ob _ _ o d => pre.lone b k ob o d⟩
    · have h0 := pre.box k b e
      cases b with
      | bld T bs => exact h0
      | box T s => trivial
      | acc g => trivial
      | _ => exact absurd h0 (by simp [ObjIn])
    · have hb' : st[k]? = some st[k] := List.getElem?_eq_getElem hk
      have h0 := pre.box k _ hb'
      refine ⟨st[k], hb', ?_, ?_⟩
      · show _ = (match st[k]? with | some b => b.kind | none => 0); rw [hb']
      · cases hx : st[k] with
        | box T s => simp [BX.kind]
        | bld T bs => simp [BX.kind]
        | _ => rw [hx] at h0; exact absurd h0 (by simp [ObjIn])
  have hsl : Slots Γ D ow μ (argEnv as) st { tmps := vals ++ Array.replicate (fn.ntmps - vals.size) Go.undef, defers := [] } w := by
    refine ⟨by show (vals ++ _).size = C.n; have := pre.size; simp; omega, rfl, fun t => ?_⟩
    unfold argEnv
    by_cases ht : t < as.length
    · have h1 : as[t]? = some as[t] := List.getElem?_eq_getElem ht
      have ht' : t < vals.size := by rw [pre.size]; exact ht
      have h2 : vals[t]? = some vals[t] := Array.getElem?_eq_getElem ht'
      have e1 : as.getD t .undef = as[t] := by simp [List.getD, h1]
      have e2 : (vals ++ Array.replicate (fn.ntmps - vals.size) Go.undef).getD t Go.undef = vals[t] := by
        have e : ∀ (x : Array Value), x.getD t Go.undef = (x[t]?).getD Go.undef := fun x => by simp
        rw [e, Array.getElem?_append_left ht', h2]; rfl
      show SlotRep _ _ _ _ _ _ _ (as.getD t .undef) ((vals ++ Array.replicate (fn.ntmps - vals.size) Go.undef).getD t Go.undef)
      rw [e1, e2]
      exact (pre.arg t _ _ h1 h2).slot
    · have e1 : as.getD t .undef = .undef := by simp [List.getD, List.getElem?_eq_none (Nat.le_of_not_lt ht)]
      rw [e1]; exact .undef
  have hng : NoGd (argEnv as) := by
    intro t u want x he
    unfold argEnv at he
    by_cases ht : t < as.length
    · have h1 : as[t]? = some as[t] := List.getElem?_eq_getElem ht
      have ht' : t < vals.size := by rw [pre.size]; exact ht
      have := pre.arg t _ _ h1 (Array.getElem?_eq_getElem ht')
      have e1 : as.getD t .undef = as[t] := by simp [List.getD, h1]
      rw [e1] at he; rw [he] at this; cases this
    · have e1 : as.getD t .undef = .undef := by simp [List.getD, List.getElem?_eq_none (Nat.le_of_not_lt ht)]
      rw [e1] at he; cases he
  -- the end
  have fin : ∀ e' st' a' w', (match retAll C.P e' st' fn.resultTypes.toList fn.results.toList with | some rs => (match subSt C.P st' (List.range st.length) with | some s' => K rs s' | none => none) | none => none) = some r → Rel Γ e' st' a' w' →
      a'.defers = [] ∧ ∃ v, (results fn a'.tmps).run C.P w' = .ok v w' ∧ ∃ v_1 D', Ending.returned v = .returned v_1 ∧ Post C.P D w ow μ st rs0 st0 v_1 D' w' := by
    intro e' st' a' w' hk hrel
    obtain ⟨D', ow', μ', hw', hs'⟩ := hrel
    split at hk
    · rename_i rs hrs
      split at hk
      · rename_i s' hss
        obtain ⟨hr1, hr2⟩ := hK rs s' hk
        subst hr1; subst hr2
        obtain ⟨vs, h1, h2, h3⟩ := retAll_sound hw' hs' _ _ rs hrs
        obtain ⟨l1, l2⟩ := subSt_spec _ _ hss
        refine ⟨hs'.defers, if h : vs.toArray.size = 1 then vs.toArray[0] else .tuple vs.toArray, ?_, _, withMaps D' μ' st', rfl, ?_⟩
        · unfold results
          rw [Sem.run_bind, Array.mapM_eq_mapM_toList, Sem.run_map]
          exact congrArg (fun r : Result (List Value) => (r.andThen fun a w' => Result.ok a.toArray w').andThen fun a w' => Sem.run C.P (pure (if h : a.size = 1 then a[0] else Value.tuple a)) w') (h1 : _ = _)
        · have mapB : ∀ b o, withMaps D' μ' st' b o → D' b o ∨ (w.heap.size ≤ b ∧ b < w'.heap.size ∧ ∃ k K E es, st'[k]? = some (.map K E es) ∧ μ' k = b) := by
            intro b o d
            rcases d with d | ⟨_, k, K, E, es, hk, rfl⟩
            · exact Or.inl d
            · obtain ⟨_, _, _, _, _, r2, _⟩ := hw'.map k K E es hk
              refine Or.inr ⟨?_, (hw'.owlt _ _ r2).1, k, K, E, es, hk, rfl⟩
              rcases Nat.lt_or_ge (μ' k) w.heap.size with hlt | hge
              · have h0 := hw'.owN _ _ r2 hlt
                have hk' := (pre.owlt _ _ h0).2
                obtain ⟨x, hx, _, p2⟩ := hw'.par k hk'
                rw [hx] at hk; cases hk; exact absurd rfl p2
              · exact hge
          have notMap : ∀ b k, ow' b = some k → k < st.length → ∀ o, ¬ withMaps D' μ' st' b o := by
            intro b k ob hk o d
            have hp' := hw'.par k hk
            obtain ⟨x, hx, _, p2⟩ := hp'
            rcases d with d | ⟨_, k2, K, E, es, hk2, e2⟩
            · exact hw'.lone b k x ob hx (fun g e => by subst e; exact p2 rfl) o d
            · obtain ⟨_, _, _, _, _, r2, _⟩ := hw'.map k2 K E es hk2
              rw [e2, ob] at r2; cases r2
              rw [hx] at hk2; cases hk2; exact p2 rfl
          have fins : ∀ (k : Nat), k < st.length → ∃ b b', st'[k]? = some b ∧ canonBX C.P b = some b' ∧ s'[k]? = some b' ∧ ∃ b0, st[k]? = some b0 ∧ b.kind = b0.kind := by
            intro k hk
            have hrange : (List.range st.length)[k]? = some k := by simp [hk]
            obtain ⟨b, b', q1, q2, q3⟩ := l2 k k hrange
            obtain ⟨x, hx, p1, _⟩ := hw'.par k hk
            rw [q1] at hx; cases hx
            have hb' : st[k]? = some st[k] := List.getElem?_eq_getElem hk
            refine ⟨b, b', q1, q2, q3, st[k], hb', ?_⟩
            rw [p1]; show (match st[k]? with | some b => b.kind | none => 0) = _; rw [hb']
          refine ⟨fun b o d => Or.inl (hw'.dom0 b o d), fun b o d => ?_, fun b o d => ?_, ?_, by rw [l1]; simp, fun k T s hk => ?_, ⟨owTo ow' st.length, fun b k h => ?_, fun b k h hb => ?_, fun k T s hk => ?_, fun k T bs hk => ?_⟩, hw'.os, hw'.tape, hw'.output, hw'.hs, hw'.old⟩
          · rcases mapB b o d with d | d
            · exact hw'.domN b o d
            · exact Or.inr d.1
          · rcases mapB b o d with d | d
            · exact hw'.dlt b o d
            · exact d.2.1
          · by_cases hone : vs.length = 1
            · match vs, rs, hone, h2, h3 with
              | [v], [s], _, _, h3 => simpa [resSV] using h3 0 s v rfl rfl
            · have hr : resSV rs = .tup rs := by
                match rs, h2 with
                | [], _ => rfl
                | [x], h2 => exact absurd h2 hone
                | x :: y :: r, _ => rfl
              rw [hr, dif_neg (by simpa using hone)]
              intro ow2 μ2 st2
              exact .tup (by simp [h2]) (fun i s v hi hv => h3 i s v hi (by simpa using hv) _ _ _)
          · have hklt := (List.getElem?_eq_some_iff.1 hk).1
            obtain ⟨b, b', q1, q2, q3, b0, q5, q6⟩ := fins k hklt
            rw [hk] at q5; cases q5
            rcases canonBX_spec q2 with ⟨T2, s2, s2', rfl, rfl, q4⟩ | ⟨T2, bs, rfl, rfl⟩
            · have hT : T2 = T := by
                                    have q7 : (2 : Nat) * T2 = 2 * T := by simp only [BX.kind] at q6; omega
                                    exact Nat.eq_of_mul_eq_mul_left (by decide) q7
              subst hT
              obtain ⟨cells, T', r1, r2, r3, r4, r5⟩ := hw'.box k T2 s2 q1
              have hμ : μ' k = μ k := hw'.mu0 k hklt
              have hcl := canon_sound r5 q4
              refine ⟨s2', cells, T', q3, by rw [← hμ]; exact r1, r2, fun o d => notMap _ k (by rw [← hμ]; exact r3) hklt o d, fun ow2 μ2 st2 => ?_⟩
              exact (hcl (fun _ => none) μ2 []).mono ⟨fun _ _ d => Or.inl d, Keeps.refl _ _, fun k _ _ e => by simp at e, fun k _ _ _ e => by simp at e, fun k _ e => by simp at e, fun k _ e => by simp at e⟩
            · simp only [BX.kind] at q6; omega
          · obtain ⟨h1, h2⟩ := owTo_some.1 h
            exact ⟨(hw'.owlt b _ h1).1, h2, notMap b _ h1 h2⟩
          · exact hw'.owN b _ (owTo_some.1 h).1 hb
          · have hklt := (List.getElem?_eq_some_iff.1 hk).1
            obtain ⟨b, b', q1, q2, q3, b0, q5, q6⟩ := fins k hklt
            rw [hk] at q5; cases q5
            rcases canonBX_spec q2 with ⟨T2, s2, s2', rfl, rfl, q4⟩ | ⟨T2, bs, rfl, rfl⟩
            · obtain ⟨cells, T', r1, r2, r3, r4, r5⟩ := hw'.box k T2 s2 q1
              have hμ : μ' k = μ k := hw'.mu0 k hklt
              rw [hμ] at r3
              exact owTo_some.2 ⟨r3, hklt⟩
            · simp only [BX.kind] at q6; omega
          · have hklt := (List.getElem?_eq_some_iff.1 hk).1
            obtain ⟨b, b', q1, q2, q3, b0, q5, q6⟩ := fins k hklt
            rw [hk] at q5; cases q5
            rcases canonBX_spec q2 with ⟨T2, s2, s2', rfl, rfl, q4⟩ | ⟨T2, bs2, rfl, rfl⟩
            · simp only [BX.kind] at q6; omega
            · have hT : T2 = T := by
                                    have q7 : (2 : Nat) * T2 = 2 * T := by simp only [BX.kind] at q6; omega
                                    exact Nat.eq_of_mul_eq_mul_left (by decide) q7
              subst hT
              refine ⟨bs2, q3, ?_⟩
              obtain ⟨p, vv, r1, r2, r3, r4, r5⟩ := hw'.obj k _ q1
              have hμ : μ' k = μ k := hw'.mu0 k hklt
              rw [hμ] at r1 r2 r3
              refine ⟨p, vv, r1, r2, owTo_some.2 ⟨r3, hklt⟩, notMap _ k r3 hklt, ?_⟩
              rcases r5 with r5 | ⟨g, cap, cur, fz, a1, a2, a4, a5, a6, a7, a8, a9, a10, a11⟩
              · exact Or.inl r5
              · exact Or.inr ⟨g, cap, cur, fz, a1, a2, a4, a5, a6, a7, a8, by rw [← hμ]; exact a9, owTo_some.2 ⟨a10, hklt⟩, notMap _ k a10 hklt⟩
      · simp at hk
    · simp at hk
  have hex := exec_sound (Γ := Γ) hC rfl rfl hnp r c hL _ (argEnv as) st h (bodyPost C.P fn (fun e w' => ∃ v D', e = .returned v ∧ Post C.P D w ow μ st rs0 st0 v D' w'))
    (fun e' st' a' w' hk _ hrel => fin e' st' a' w' hk hrel) (fun i e' st' a' w' hk _ _ => by simp at hk) (fun e' st' a' w' hk _ hrel => fin e' st' a' w' hk hrel) _ w ⟨D, ow, μ, hw, hsl⟩ hng
  exact hex
end Go.Ab
