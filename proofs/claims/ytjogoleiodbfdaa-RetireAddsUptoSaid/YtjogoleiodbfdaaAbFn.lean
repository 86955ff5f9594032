/- A function by its text. -/
import Derived.Test.YtjogoleiodbfdaaAbCode
set_option linter.unusedVariables false
set_option linter.unusedSimpArgs false
set_option linter.unnecessarySimpa false
namespace Go.Ab
open Go

section
variable {Γ : Ctx} {D : Dom} {ow : Own} {μ : Nat → Nat} {st : List BX} {w : World}

/-- What is owned, up to here. -/
def owTo (ow : Own) (n : Nat) : Own := fun b => match ow b with | some k => if k < n then some k else none | none => none
theorem owTo_some {n b k : Nat} : owTo ow n b = some k ↔ ow b = some k ∧ k < n := by
  unfold owTo
  cases h : ow b with
  | none => simp
  | some j =>
    by_cases hj : j < n
    · simp only [hj, if_true, Option.some.injEq]
      exact ⟨fun e => by subst e; exact ⟨rfl, hj⟩, fun e => e.1⟩
    · simp only [hj, if_false, Option.some.injEq]
      exact ⟨fun e => by simp at e, fun e => by have := e.1; have := e.2; omega⟩

theorem retSV_sound {own : Bool} {T : TypeId} {s s' : SV} {v : Value} {fz : List Nat} (hw : WRel Γ D ow μ st w) (h : SRep Γ.P D w ow μ st s v) (hr : retSV Γ.P own st T s = some s') (hf : ∀ k, k ∈ frozen own [s] → k ∈ fz) : SRep Γ.P (withFz D ow μ st fz) w ow μ st s' v := by
  have m : Moves D w ow μ st (withFz D ow μ st fz) w ow μ st := withFz_moves fz
  unfold retSV at hr
  split at hr
  · rename_i k
    split at hr
    · rename_i K E es hk
      simp only [Option.some.injEq] at hr; subst hr
      cases h
      obtain ⟨ents, clock, kc, vc, r1, r2, r3, r4, r5, r6, r7, _⟩ := hw.map k K E es hk
      exact .map (.mk kc vc r1 (Or.inr ⟨k, _, hf k (by simp [frozen]), hk, Or.inl ⟨K, E, es, rfl⟩, r2, rfl⟩) r4 (fun i x a => (r5 i x a).mono m.dom m.keeps) (fun i x a => (r6 i x a).mono m.dom m.keeps) r7)
    · simp at hr
  · rename_i k g E
    cases own with
    | true => simp only [cond_true, Option.some.injEq] at hr; subst hr; exact h.mono m
    | false =>
      simp only [cond_false] at hr
      split at hr
      · rename_i xs hat
        simp only [Option.some.injEq] at hr; subst hr
        exact frz_arr hw h hat (hf k (by simp [frozen]))
      · cases hr
  · simp at hr
  · simp only [Option.some.injEq] at hr; subst hr; exact h.mono m
  · simp only [Option.some.injEq] at hr; subst hr; exact h.mono m
  · rename_i T' fs
    cases own with
    | true =>
      simp only [cond_true] at hr
      split at hr
      · rename_i x hx
        simp only [Option.some.injEq] at hr; subst hr
        exact (canon_sound (h.mono m) hx) _ _ _
      · simp only [Option.some.injEq] at hr; subst hr; exact h.mono m
    | false =>
      simp only [cond_false] at hr
      have h2 := frzS_sound (fz := fz) hw h (fun k hk => hf k (by simp only [arrsS] at hk; simp [frozen, hk]))
      split at hr
      · rename_i x hx
        simp only [Option.some.injEq] at hr; subst hr
        exact (canon_sound h2 hx) _ _ _
      · simp only [Option.some.injEq] at hr; subst hr; exact h2
  · cases own with
    | true => simp only [cond_true, Option.some.injEq] at hr; subst hr; exact h.mono m
    | false => simp only [cond_false] at hr; exact (canon_sound (h.mono m) hr) _ _ _
  · exact (canon_sound (h.mono m) hr) _ _ _

theorem retVals_sound {own : Bool} {fz : List Nat} (hw : WRel Γ D ow μ st w) : ∀ (ts : List TypeId) (ss out : List SV), retVals Γ.P own st ts ss = some out → (∀ k, k ∈ frozen own ss → k ∈ fz) → ∀ (vs : List Value), (∀ (i : Nat) (s : SV) (v : Value), ss[i]? = some s → vs[i]? = some v → SRep Γ.P D w ow μ st s v) →
    out.length = ss.length ∧ ∀ (i : Nat) (s : SV) (v : Value), out[i]? = some s → vs[i]? = some v → SRep Γ.P (withFz D ow μ st fz) w ow μ st s v := by
  intro ts
  induction ts with
  | nil =>
    intro ss out h hf vs hvs
    cases ss with
    | nil => simp [retVals] at h; subst h; exact ⟨rfl, fun i s v hi => by simp at hi⟩
    | cons => simp [retVals] at h
  | cons T ts ih =>
    intro ss out h hf vs hvs
    cases ss with
    | nil => simp [retVals] at h
    | cons s ss =>
      simp only [retVals] at h
      split at h
      · rename_i x q hx hq
        simp only [Option.some.injEq] at h; subst h
        have hf1 : ∀ k, k ∈ frozen own [s] → k ∈ fz := fun k hk => hf k (by cases own <;> cases s <;> simp_all [frozen])
        have hf2 : ∀ k, k ∈ frozen own ss → k ∈ fz := fun k hk => hf k (by cases own <;> cases s <;> simp_all [frozen])
        obtain ⟨h1, h2⟩ := ih ss q hq hf2 vs.tail (fun i s v hi hv => hvs (i + 1) s v (by simpa using hi) (by simpa using hv))
        refine ⟨by simp [h1], fun i y v hi hv => ?_⟩
        cases i with
        | zero => simp at hi; subst hi; exact retSV_sound hw (hvs 0 s v (by simp) hv) hx hf1
        | succ i => exact h2 i y v (by simpa using hi) (by simpa using hv)
      · cases h

theorem rawAll_sound (hw : WRel Γ D ow μ st w) {e : Env} {a : Act} (hs : Slots Γ D ow μ e st a w) : ∀ (rs : List ResultVar) (out : List SV), rawAll Γ.P e st rs = some out →
    ∃ vs : List Value, (rs.mapM fun r => (match r with | .tmp t => pure (a.tmps.getD t Go.undef) | .cell x t => do loadVar t (← asAddr (a.tmps.getD x Go.undef)) : Sem Value)).run Γ.P w = .ok vs w ∧ vs.length = out.length ∧
      ∀ (i : Nat) (s : SV) (v : Value), out[i]? = some s → vs[i]? = some v → SRep Γ.P D w ow μ st s v := by
  intro rs
  induction rs with
  | nil => intro out h; simp [rawAll] at h; subst h; exact ⟨[], by simp, rfl, fun i s v hi => by simp at hi⟩
  | cons r rr ih =>
    intro out h
    unfold rawAll at h
    split at h
    · rename_i x q hx hq
      simp only [Option.some.injEq] at h; subst h
      obtain ⟨vs, h1, h2, h3⟩ := ih q hq
      have hone : ∃ v, (match r with | .tmp t => pure (a.tmps.getD t Go.undef) | .cell x t => do loadVar t (← asAddr (a.tmps.getD x Go.undef)) : Sem Value).run Γ.P w = .ok v w ∧ SRep Γ.P D w ow μ st x v := by
        unfold rawOne at hx
        split at hx
        · rename_i t
          refine ⟨a.tmps.getD t Go.undef, by simp, ?_⟩
          have hst := hs.slot t
          split at hx
          · cases hx
          · rename_i hne
            simp only [Option.some.injEq] at hx
            subst hx
            cases he : e t with
            | gd u want y => exact absurd he (hne u want y)
            | _ => rw [he] at hst; exact hst
        · rename_i t T'
          split at hx
          · rename_i k T'' he
            cases hb : (Nat.beq T' T'' && (Γ.P.underlying T').isSome && (isAggB Γ.P T' || Nat.beq (Γ.P.cellsOf T') 1)) with
            | false => rw [hb] at hx; simp at hx
            | true =>
              rw [hb] at hx
              simp only [cond_true] at hx
              simp only [Bool.and_eq_true, Bool.or_eq_true] at hb
              have := Nat.eq_of_beq_eq_true hb.1.1; subst this
              split at hx
              · rename_i TB s hk
                simp only [Option.some.injEq] at hx; subst hx
                have hst := hs.slot t
                rw [he] at hst
                simp only [SlotRep] at hst
                generalize hav : a.tmps.getD t Go.undef = av at hst
                cases hst with
                | @ref _ _ _ TB' s' off hk' hp =>
                  rw [hk] at hk'; cases hk'
                  simp only [pathOff, Option.some.injEq, Prod.mk.injEq] at hp
                  obtain ⟨rfl, rfl⟩ := hp
                  obtain ⟨cells, T2, q1, q2, q3, q4, q5⟩ := hw.box k _ s hk
                  refine ⟨pack Γ.P TB cells, ?_, q5⟩
                  have hl := run_loadVar' hb.1.2 w (μ k) 0 cells (fun j v hj => by simp [World.cell?, q1, hj]) (fun _ => q2) (fun ha => by
                    have h1 : Γ.P.cellsOf TB = 1 := by
                      rcases hb.2 with h | h
                      · rw [ha] at h; cases h
                      · exact Nat.eq_of_beq_eq_true h
                    rw [h1] at q2
                    match cells, q2 with
                    | [u], _ => exact ⟨u, rfl⟩)
                  simp only [hav, asAddr, Sem.run_bind, Sem.run_pure, Result.andThen_ok]
                  exact hl
              · simp at hx
          · simp at hx
      obtain ⟨v, hv1, hv2⟩ := hone
      refine ⟨v :: vs, ?_, by simp [h2], fun i s u hi hu => ?_⟩
      · simp only [List.mapM_cons, Sem.run_bind, hv1, Result.andThen_ok, h1, Sem.run_pure]
      · cases i with
        | zero => simp at hi hu; subst hi; subst hu; exact hv2
        | succ i => exact h3 i s u (by simpa using hi) (by simpa using hu)
    · simp at h

theorem Objs.more {P : Program} {D' : Dom} (h : Objs P D ow μ st w) (hD : ∀ b o, D b o → D' b o) (hN : ∀ b o, D' b o → D b o ∨ (ow b = none ∧ b < w.heap.size)) : Objs P D' ow μ st w := by
  have hno : ∀ b k, ow b = some k → ∀ o, D' b o → D b o := fun b k ob o d => (hN b o d).resolve_right (fun hh => by rw [ob] at hh; cases hh.1)
  have m : Moves D w ow μ st D' w ow μ st := ⟨hD, Keeps.refl _ _, fun k T s e => ⟨rfl, s, e⟩, fun k K E es e => ⟨rfl, es, e⟩, fun k b e _ => ⟨rfl, b, e, rfl⟩, fun k E g xs e => ⟨g, xs, e, Nat.le_refl _, fun _ => ⟨rfl, ArrKeep.refl _ _ _ _ _⟩⟩, fun k g e => ⟨g, e, Nat.le_refl _, fun _ b ob => ⟨rfl, ob, hno b k ob⟩⟩⟩
  refine ⟨fun k b hk => ?_, h.owlt, fun b o d => ?_, fun b k x ob e hx o d => h.lone b k x ob e hx o (hno b k ob o d)⟩
  · have h0 := h.obj k b hk
    cases b with
    | box T s =>
      obtain ⟨c, T', q1, q2, q3, q4, q5⟩ := h0
      exact ⟨c, T', q1, q2, q3, fun o d => q4 o (hno _ k q3 o d), q5.mono m⟩
    | map K E es =>
      obtain ⟨ents, clock, kc, vc, q1, q2, q3⟩ := h0
      exact OMapRep.mono ⟨ents, clock, kc, vc, q1, q2, q3⟩ m.dom m.keeps rfl rfl q2 (fun o d => q3.1 o (hno _ k q2 o d))
    | acc g => trivial
    | hole => trivial
    | iter s p => exact ObjRep.mono (P := P) (b := .iter s p) h0 m.dom m.keeps (fun _ => rfl) (fun c oc => ⟨rfl, oc, hno c k oc⟩)
    | mit K E c es => exact ObjRep.mono (P := P) (b := .mit K E c es) h0 m.dom m.keeps (fun _ => rfl) (fun c oc => ⟨rfl, oc, hno c k oc⟩)
    | bld T bs => exact ObjRep.mono (P := P) (b := .bld T bs) h0 m.dom m.keeps (fun _ => rfl) (fun c oc => ⟨rfl, oc, hno c k oc⟩)
    | arr E g xs => exact ObjRep.mono (P := P) (b := .arr E g xs) h0 m.dom m.keeps (fun _ => rfl) (fun c oc => ⟨rfl, oc, hno c k oc⟩)
  · rcases hN b o d with d | d
    · exact h.dlt b o d
    · exact d.2

/-- The end of a call. -/
theorem exit_sound (hw : WRel Γ D ow μ st w) {e : Env} {a : Act} (hs : Slots Γ D ow μ e st a w) {ts : List TypeId} {rs : List ResultVar} {vs' : List SV} {sub : List BX} {own : Bool} (h : exitAll Γ.P own e st Γ.np ts rs = some (vs', sub)) :
    ∃ vs : List Value, (rs.mapM fun r => (match r with | .tmp t => pure (a.tmps.getD t Go.undef) | .cell x t => do loadVar t (← asAddr (a.tmps.getD x Go.undef)) : Sem Value)).run Γ.P w = .ok vs w ∧
      ∃ (D' : Dom) (ks : List Nat), ks.Nodup ∧ (∃ r, ks = List.range Γ.np ++ r) ∧ subSt st (inRho ks) (exitGam st) ks = some sub ∧ (∀ b o, D b o → D' b o) ∧ (∀ b o, D' b o → D b o ∨ ∃ k, ow b = some k ∧ Γ.np ≤ k) ∧
        Objs Γ.P D' (owSub ow ks) (fun j => μ (ks.getD j 0)) sub w ∧ SRep Γ.P D' w (owSub ow ks) (fun j => μ (ks.getD j 0)) sub (resSV vs') (if h : vs.toArray.size = 1 then vs.toArray[0] else .tuple vs.toArray) := by
  unfold exitAll at h
  split at h
  · cases h
  · rename_i raws hraw
    split at h
    · cases h
    · rename_i vals hvals
      obtain ⟨vs, h1, h2, h3⟩ := rawAll_sound hw hs rs raws hraw
      cases hfz : (frozen own raws).all (fun k => !((exitKs st Γ.np vals).any (Nat.beq k))) with
      | false => rw [hfz] at h; cases h
      | true =>
        rw [hfz] at h
        simp only [cond_true] at h
        split at h
        · rename_i vs1 sub1 hr hsub
          simp only [Option.some.injEq, Prod.mk.injEq] at h
          obtain ⟨rfl, rfl⟩ := h
          have hn := exitKs_nodup st Γ.np vals
          obtain ⟨r, hpre⟩ := exitKs_prefix st Γ.np vals
          generalize exitKs st Γ.np vals = ks at *
          have hnot : ∀ k, k ∈ frozen own raws → k ∉ ks := by
            intro k hk hm
            have := List.all_eq_true.1 hfz k hk
            have h2 : ks.any (Nat.beq k) = true := List.any_eq_true.2 ⟨k, hm, Nat.beq_refl k⟩
            rw [h2] at this; cases this
          obtain ⟨l1, l2⟩ := retVals_sound (fz := frozen own raws) hw ts raws vals hvals (fun k hk => hk) vs h3
          have hfree : ∀ b k, k ∉ ks → ow b = some k → owSub ow ks b = none := fun b k hk ob => owSub_none (fun k' hk' e => by rw [ob] at e; cases e; exact hk hk')
          refine ⟨vs, h1, withFz D ow μ st (frozen own raws), ks, hn, ⟨r, hpre⟩, hsub, fun _ _ d => Or.inl d, fun b o d => ?_, ?_, ?_⟩
          · rcases withFz_own d with d | ⟨k, k1, k2, k3⟩
            · exact Or.inl d
            · refine Or.inr ⟨k, k2, ?_⟩
              rcases Nat.lt_or_ge k Γ.np with hlt | hge
              · exact absurd (by rw [hpre]; simp [hlt]) (hnot k k1)
              · exact hge
          · refine (hw.objs.sub hn hsub).more (fun _ _ d => Or.inl d) (fun b o d => ?_)
            rcases withFz_own d with d | ⟨k, k1, k2, k3⟩
            · exact Or.inl d
            · exact Or.inr ⟨hfree b k (hnot k k1) k2, (hw.owlt b k k2).1⟩
          · refine resSV_ren (Emb.sub hn hsub) ?_ hr
            by_cases hone : vs.length = 1
            · obtain ⟨v, rfl⟩ := List.length_eq_one_iff.1 hone
              obtain ⟨s, rfl⟩ := List.length_eq_one_iff.1 (show vals.length = 1 by omega)
              simpa [resSV] using l2 0 s v rfl rfl
            · have hlv : vals.length ≠ 1 := by omega
              have hr : resSV vals = .tup vals := by
                match vals, hlv with
                | [], _ => rfl
                | [x], h2 => exact absurd rfl h2
                | x :: y :: r, _ => rfl
              rw [hr, dif_neg (by simpa using hone)]
              exact .tup (by simp; omega) (fun i s v hi hv => l2 i s v hi (by simpa using hv))
        · cases h
end

theorem execF_sound {C : Cfg} (hC : CallOk C) {f : FuncId} {fn : Func} {c : Code} (hf : C.P.funcs[f]? = some fn) (hb : fn.body = some c) (hn : fn.ntmps = C.n) (hname : (fn.name == "runtime.NumGoroutine") = false) (hL : ∀ body, body ∈ loopsOf c → LoopOk C body)
    {R : Type} {as : List SV} {st : List BX} {K : List SV → List BX → Option R} {r : R} {rs0 : List SV} {st0 : List BX} (h : execF C fn as st K = some r) (has : as.length ≤ C.n) (hnp : st.length = C.np)
    (hK : ∀ rs s, K rs s = some r → ∀ (D : Dom) (w : World) (ow : Own) (μ : Nat → Nat) (v : Value) (D' : Dom) (w' : World), Post C.P D w ow μ st rs s v D' w' → Post C.P D w ow μ st rs0 st0 v D' w' ∧ endOf rs0 v = endOf rs v) : Meets C.P f as st rs0 st0 := by
  refine ⟨canEnter_of hf hname (by rw [hb]; rfl), fun D ow μ w vals pre => ?_⟩
  unfold execF at h
  rw [hb] at h
  simp only at h
  refine calls_of_wp hf hb ?_
  -- the activation
  let Γ : Ctx := { P := C.P, n := C.n, B := w.heap.size, w0 := w, D0 := D, ow0 := ow, np := st.length, μ0 := μ, K0 := fun k => match st[k]? with | some b => b.kind | none => [], L0 := fun k => match st[k]? with | some (.arr _ _ xs) => xs.length | _ => 0, hB := rfl, tabs := pre.tabs }
  have hw : WRel Γ D ow μ st w := by
    refine ⟨fun k T s e => pre.objs.obj k _ e, fun k K E es e => pre.objs.obj k _ e, fun k b e => ?_, pre.objs.owlt, pre.objs.dlt, rfl, rfl, rfl, Nat.le_refl _, fun _ _ _ => rfl, fun _ _ d => d, fun _ _ d => Or.inl d, fun _ _ h _ => h, Nat.le_refl _, fun _ _ _ => rfl, fun k hk => ?_, pre.objs.lone, Keeps.refl _ _, fun k hk E xs e => ⟨?_, ArrKeep.refl _ _ _ _ _⟩⟩
    · have h0 := pre.objs.obj k b e
      cases b with
      | box T s => trivial
      | map K E es => trivial
      | acc g => trivial
      | hole => trivial
      | _ => exact h0
    · have hb' : st[k]? = some st[k] := List.getElem?_eq_getElem hk
      exact ⟨st[k], hb', by show _ = (match st[k]? with | some b => b.kind | none => []); rw [hb']⟩
    · show _ = (match st[k]? with | some (.arr _ _ xs) => xs.length | _ => 0); rw [e]
  have hsl : Slots Γ D ow μ (argEnv as) st { tmps := vals ++ Array.replicate (fn.ntmps - vals.size) Go.undef, defers := [] } w := by
    refine ⟨by show (vals ++ _).size = C.n; have := pre.size; simp; omega, rfl, fun t => ?_⟩
    unfold argEnv
    by_cases ht : t < as.length
    · have h1 : as[t]? = some as[t] := List.getElem?_eq_getElem ht
      have ht' : t < vals.size := by rw [pre.size]; exact ht
      have h2 : vals[t]? = some vals[t] := Array.getElem?_eq_getElem ht'
      have e1 : as.getD t .undef = as[t] := by simp [List.getD, h1]
      have e2 : (vals ++ Array.replicate (fn.ntmps - vals.size) Go.undef).getD t Go.undef = vals[t] := by
        have e : ∀ (x : Array Value), x.getD t Go.undef = (x[t]?).getD Go.undef := fun x => by simp
        rw [e, Array.getElem?_append_left ht', h2]; rfl
      show SlotRep _ _ _ _ _ _ _ (as.getD t .undef) ((vals ++ Array.replicate (fn.ntmps - vals.size) Go.undef).getD t Go.undef)
      rw [e1, e2]
      exact (pre.arg t _ _ h1 h2).slot
    · have e1 : as.getD t .undef = .undef := by simp [List.getD, List.getElem?_eq_none (Nat.le_of_not_lt ht)]
      rw [e1]; exact .undef
  have hng : NoGd (argEnv as) := by
    intro t u want x he
    unfold argEnv at he
    by_cases ht : t < as.length
    · have h1 : as[t]? = some as[t] := List.getElem?_eq_getElem ht
      have ht' : t < vals.size := by rw [pre.size]; exact ht
      have := pre.arg t _ _ h1 (Array.getElem?_eq_getElem ht')
      have e1 : as.getD t .undef = as[t] := by simp [List.getD, h1]
      rw [e1] at he; rw [he] at this; cases this
    · have e1 : as.getD t .undef = .undef := by simp [List.getD, List.getElem?_eq_none (Nat.le_of_not_lt ht)]
      rw [e1] at he; cases he
  -- what is handed back
  have out : ∀ (rs : List SV) (s' : List BX) (v : Value) (w' : World) (D1 D' : Dom) (ow' : Own) (μ' : Nat → Nat) (st' : List BX) (ks r' : List Nat), K rs s' = some r → WRel Γ D1 ow' μ' st' w' → ks.Nodup → ks = List.range st.length ++ r' → subSt st' (inRho ks) (exitGam st') ks = some s' →
      (∀ b o, D1 b o → D' b o) → (∀ b o, D' b o → D1 b o ∨ ∃ k, ow' b = some k ∧ st.length ≤ k) → Objs C.P D' (owSub ow' ks) (fun j => μ' (ks.getD j 0)) s' w' → ResRep C.P D' w' (owSub ow' ks) (fun j => μ' (ks.getD j 0)) s' rs v →
      Post C.P D w ow μ st rs0 st0 v D' w' ∧ endOf rs0 v = endOf rs v := by
    intro rs s' v w' D1 D' ow' μ' st' ks r' hk hw' hn' hpre hsub hD hN hobjs hres
    have hrange : ∀ k, k < st.length → ks[k]? = some k := by
      intro k hk
      rw [hpre, List.getElem?_append_left (by simpa using hk)]
      simp [hk]
    obtain ⟨l1, l2⟩ := subSt_spec ks s' hsub
    refine hK rs s' hk D w ow μ _ D' w' ⟨fun b o d => hD b o (hw'.dom0 b o d), fun b o d => ?_, ⟨owSub ow' ks, fun j => μ' (ks.getD j 0), hobjs, hres, fun b j hb hlt => ?_, fun k b hk' => ?_, fun k E g xs ys hk' hs' => ?_⟩, hw'.os, hw'.tape, hw'.output, hw'.hs, hw'.old, hw'.keep0⟩
    · rcases hN b o d with d | ⟨k, k1, k2⟩
      · exact hw'.domN b o d
      · rcases Nat.lt_or_ge b w.heap.size with hlt | hge
        · have h0 := hw'.owN b k k1 hlt
          have := (pre.objs.owlt b k h0).2
          omega
        · exact Or.inr (Or.inl hge)
    · obtain ⟨k, hj, hob⟩ := owSub_some hb
      have h0 := hw'.owN b k hob hlt
      have hklt := (pre.objs.owlt b k h0).2
      have := nodup_inj hn' hj (hrange k hklt)
      subst this
      exact h0
    · have hklt := (List.getElem?_eq_some_iff.1 hk').1
      obtain ⟨x, hx, p1⟩ := hw'.par k hklt
      obtain ⟨b1, b2, q1, q2, q3⟩ := l2 k k (hrange k hklt)
      rw [hx] at q1; cases q1
      have hK : Γ.K0 k = b.kind := by show (match st[k]? with | some b => b.kind | none => []) = _; rw [hk']
      refine ⟨b2, q3, (renBX_kind q2).1.trans (p1.trans hK), fun _ harr => ?_⟩
      have e : ks.getD k 0 = k := by simp [List.getD, hrange k hklt]
      show μ' (ks.getD k 0) = μ k
      rw [e]
      refine hw'.mu0 k hklt (fun E hE => ?_)
      rw [hK] at hE
      obtain ⟨g, xs, rfl⟩ := kind_arr hE
      exact harr _ _ _ rfl
    · have hklt := (List.getElem?_eq_some_iff.1 hk').1
      obtain ⟨b1, b2, q1, q2, q3⟩ := l2 k k (hrange k hklt)
      rw [hs'] at q3; cases q3
      obtain ⟨g1, zs, rfl⟩ := kind_arr (renBX_kind q2).1.symm
      have q2' := (renBX_kind q2).2.2 _ _ _ rfl
      have hgam : exitGam st' k = (bif Nat.beq g1 0 then 0 else 1) := by unfold exitGam; rw [q1]
      injection q2' with _ q4 q5
      subst q5
      have hg1 : g1 = 0 := by
        rw [hgam] at q4
        cases hb : Nat.beq g1 0 with
        | true => exact Nat.eq_of_beq_eq_true hb
        | false => rw [hb] at q4; simp at q4
      subst hg1
      obtain ⟨r1, r2⟩ := hw'.arr0 k hklt E ys q1
      have hL : Γ.L0 k = xs.length := by show (match st[k]? with | some (.arr _ _ xs) => xs.length | _ => 0) = _; rw [hk']
      refine ⟨r1.trans hL, fun cur hc ho => ?_⟩
      obtain ⟨t1, t2, cur', t3, t4⟩ := r2 cur hc ho
      have e : ks.getD k 0 = k := by simp [List.getD, hrange k hklt]
      refine ⟨?_, owSub_at hn' (hrange k hklt) t2, cur', t3, t4⟩
      show μ' (ks.getD k 0) = μ k
      rw [e]; exact t1
  -- the end
  have fin : ∀ e' st' a' w', (match exitAll C.P C.own e' st' st.length fn.resultTypes.toList fn.results.toList with | some (rs, s') => K rs s' | none => none) = some r → Rel Γ e' st' a' w' →
      a'.defers = [] ∧ ∃ v, (results fn a'.tmps).run C.P w' = .ok v w' ∧ ∃ v_1 D', Ending.returned v = endOf rs0 v_1 ∧ Post C.P D w ow μ st rs0 st0 v_1 D' w' := by
    intro e' st' a' w' hk hrel
    obtain ⟨D1, ow', μ', hw', hs'⟩ := hrel
    split at hk
    · rename_i rs s' hex
      obtain ⟨vs, h1, D', ks, hn', ⟨r', hpre⟩, hsub, hD, hN, hobjs, hres⟩ := exit_sound hw' hs' hex
      obtain ⟨hres, hend⟩ := resRep_of hres
      obtain ⟨hp, he⟩ := out rs s' _ w' D1 D' ow' μ' st' ks r' hk hw' hn' hpre hsub hD hN hobjs hres
      refine ⟨hs'.defers, if h : vs.toArray.size = 1 then vs.toArray[0] else .tuple vs.toArray, ?_, _, D', (he.trans hend).symm, hp⟩
      unfold results
      rw [Sem.run_bind, Array.mapM_eq_mapM_toList, Sem.run_map]
      exact congrArg (fun r : Result (List Value) => (r.andThen fun a w' => Result.ok a.toArray w').andThen fun a w' => Sem.run C.P (pure (if h : a.size = 1 then a[0] else Value.tuple a)) w') (h1 : _ = _)
    · simp at hk
  have hex := exec_sound (Γ := Γ) hC rfl rfl hnp r c hL _ (argEnv as) st h (bodyPost C.P fn (fun e w' => ∃ v D', e = endOf rs0 v ∧ Post C.P D w ow μ st rs0 st0 v D' w'))
    (fun e' st' a' w' hk _ hrel => fin e' st' a' w' hk hrel) (fun i e' st' a' w' hk _ _ => by simp at hk) (fun e' st' a' w' hk _ hrel => fin e' st' a' w' hk hrel) (fun s st' v a' w' hk hp => ?_) _ w ⟨D, ow, μ, hw, hsl⟩ hng
  · exact hex
  -- a panic
  obtain ⟨hdef, D1, ow', μ', hw', hs'⟩ := hp
  refine ⟨hdef, ?_⟩
  simp only at hk
  split at hk
  · rename_i rs s' hex
    unfold exitPan at hex
    split at hex
    · rename_i T x
      split at hex
      · rename_i x' sub hc hsub
        simp only [Option.some.injEq, Prod.mk.injEq] at hex
        obtain ⟨rfl, rfl⟩ := hex
        have hn' := exitKs_nodup st' st.length []
        obtain ⟨r', hpre⟩ := exitKs_prefix st' st.length []
        have hres : ResRep C.P D1 w' (owSub ow' (exitKs st' st.length [])) (fun j => μ' ((exitKs st' st.length []).getD j 0)) sub [.pan (.ifc T x')] v := by
          cases hs' with
          | ifc hu => exact .ifc (canon_sound hu hc _ _ _)
        obtain ⟨hp, he⟩ := out _ _ v w' D1 D1 ow' μ' st' _ r' hk hw' hn' hpre hsub (fun _ _ d => d) (fun _ _ d => Or.inl d) (hw'.objs.sub hn' hsub) hres
        exact ⟨v, D1, he.symm, hp⟩
      · cases hex
    · cases hex
  · cases hk
end Go.Ab
