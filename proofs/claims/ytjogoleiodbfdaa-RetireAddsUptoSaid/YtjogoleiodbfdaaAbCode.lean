/- The evaluator is sound: code, functions. -/
import Derived.Test.YtjogoleiodbfdaaAbDraw3
set_option linter.unusedVariables false
set_option linter.unusedSimpArgs false
set_option linter.unnecessarySimpa false
namespace Go.Ab
open Go

def NoGd (e : Env) : Prop := ∀ t u want x, e t ≠ .gd u want x
theorem NoGd.inv {e : Env} (h : NoGd e) (l : List Oper) : GInv e l := fun t u want x he => absurd he (h t u want x)
theorem NoGd.sweep (e : Env) : NoGd (sweep e) := by
  intro t u want x h
  unfold Ab.sweep at h
  split at h
  · cases h
  · rename_i v hne
    exact hne u want x h
theorem NoGd.set {e : Env} (h : NoGd e) (t : Nat) {s : SV} (hs : ∀ u want x, s ≠ .gd u want x) : NoGd (e.set t s) := by
  intro t' u want x he
  unfold Env.set at he
  cases hb : Nat.beq t' t with
  | true => rw [hb] at he; exact hs u want x he
  | false => rw [hb] at he; exact h t' u want x he

/-- Less is known of some slots. -/
theorem Rel.less {Γ : Ctx} {e e' : Env} {st : List BX} {a : Act} {w : World} (h : Rel Γ e st a w) (hle : ∀ t, e' t = .undef ∨ e' t = e t) : Rel Γ e' st a w := by
  obtain ⟨D, ow, μ, hw, hs⟩ := h
  refine ⟨D, ow, μ, hw, hs.size, hs.defers, fun t => ?_⟩
  rcases hle t with h | h
  · rw [h]; exact .undef
  · rw [h]; exact hs.slot t

theorem Rel.sweep {Γ : Ctx} {e : Env} {st : List BX} {a : Act} {w : World} (h : Rel Γ e st a w) : Rel Γ (sweep e) st a w :=
  h.less fun t => by unfold Ab.sweep; split <;> simp

theorem runOps_sound {Γ : Ctx} {R : Type} {C : Cfg} (hC : CallOk C) (hP : C.P = Γ.P) (hn : Γ.n = C.n) (hnp : Γ.np = C.np) {ops : Array Oper} {r : R} {K : Env → List BX → Option R} {X : SV → List BX → Option R} {Q : Exit → Act → World → Prop}
    (hK : ∀ e' st' a' w', K e' st' = some r → Rel Γ e' st' a' w' → Q .normal a' w') (hX : ∀ s st' v a' w', X s st' = some r → PRel Γ s st' v a' w' → Q (.panic [{ v, recovered := false }]) a' w') : ∀ (l : List Oper) (i : Nat), ops.toList.drop i = l → ∀ (e : Env) (st : List BX), runOps C ops l e st K X = some r → ∀ (a : Act) (w : World), Rel Γ e st a w → GInv e l → wpOps Γ.P ops Q (List.range' i l.length) a w := by
  intro l
  induction l with
  | nil => intro i hl e st h a w hrel hg; exact hK _ _ _ _ h hrel
  | cons o rest ih =>
    intro i hl e st h a w hrel hg
    have ho : ops[i]? = some o := by
      have : (ops.toList.drop i)[0]? = some o := by rw [hl]; rfl
      simpa using this
    have hl' : ops.toList.drop (i + 1) = rest := by
      have : (ops.toList.drop i).drop 1 = rest := by rw [hl]; rfl
      rwa [List.drop_drop] at this
    simp only [List.length_cons, List.range'_succ]
    rw [wpOps_cons]
    unfold runOps at h
    exact runOp_sound hC hP hn hnp ho h hrel hg _ Q (fun e' st' a' w' h' hg' hrel' => ih (i + 1) hl' e' st' h' a' w' hrel' hg') hX

/-- What holds where a loop is left. -/
def LeftAt (Γ : Ctx) (x : LEx) (e : Env) (st : List BX) (Q : Exit → Act → World → Prop) : Prop :=
  match x with
  | .exit i => ∀ a w, Rel Γ e st a w → Q (.exit i) a w
  | .ret => ∀ a w, Rel Γ e st a w → Q .ret a w
  | .pan => ∀ v a w, PRel Γ (e 0) st v a w → Q (.panic [{ v, recovered := false }]) a w
/-- The state at one way out is that at another. -/
def LeftLe (Γ : Ctx) (x : LEx) (e : Env) (st : List BX) (e' : Env) (st' : List BX) : Prop :=
  match x with
  | .pan => ∀ v a w, PRel Γ (e 0) st v a w → PRel Γ (e' 0) st' v a w
  | _ => ∀ a w, Rel Γ e st a w → Rel Γ e' st' a w

/-- From here a loop comes to there. -/
def LoopGo (C : Cfg) (body : Code) (m : Nat) (e : Env) (st : List BX) (x : LEx) (e' : Env) (st' : List BX) : Prop :=
  ∀ (Γ : Ctx), Γ.P = C.P → Γ.n = C.n → Γ.np = C.np → ∀ (Q : Exit → Act → World → Prop) (a : Act) (w : World), Rel Γ e st a w → NoGd e → LeftAt Γ x e' st' Q → Code.rounds C.P body Q m a w

def LoopOk (C : Cfg) (body : Code) : Prop := ∀ (R : Type) (e : Env) (st : List BX) (K : LEx → Env → List BX → Option R) (r : R), C.lam R (keyOf body) e st K = some r →
  ∃ m, ∀ (Γ : Ctx), Γ.P = C.P → Γ.n = C.n → Γ.np = C.np → ∀ (Q : Exit → Act → World → Prop) (a : Act) (w : World), Rel Γ e st a w → NoGd e →
    (∀ x e' st', K x e' st' = some r → NoGd e' → LeftAt Γ x e' st' Q) → Code.rounds C.P body Q m a w
/-- The same, where there is one way out. -/
theorem LoopOk.one {C : Cfg} {body : Code} (h : ∀ (R : Type) (e : Env) (st : List BX) (K : LEx → Env → List BX → Option R) (r : R), C.lam R (keyOf body) e st K = some r →
    ∃ x e' st' m, K x e' st' = some r ∧ NoGd e' ∧ LoopGo C body m e st x e' st') : LoopOk C body := fun R e st K r hr => by
  obtain ⟨x, e', st', m, hk, hg, hgo⟩ := h R e st K r hr
  exact ⟨m, fun Γ h1 h2 h3 Q a w hrel hn hQ => hgo Γ h1 h2 h3 Q a w hrel hn (hQ x e' st' hk hg)⟩

/-- The loops that lie in no other loop. -/
def loopsOf : Code → List Code
  | .seq a b => loopsOf a ++ loopsOf b
  | .cond _ a b => loopsOf a ++ loopsOf b
  | .block _ c => loopsOf c
  | .loop c => [c]
  | _ => []

theorem exec_sound {Γ : Ctx} {R : Type} {C : Cfg} (hC : CallOk C) (hP : C.P = Γ.P) (hn : Γ.n = C.n) (hnp : Γ.np = C.np) (r : R) : ∀ (c : Code), (∀ body, body ∈ loopsOf c → LoopOk C body) → ∀ (K : Ks R) (e : Env) (st : List BX), exec C c K e st = some r →
    ∀ (Q : Exit → Act → World → Prop), (∀ e' st' a' w', K.norm e' st' = some r → NoGd e' → Rel Γ e' st' a' w' → Q .normal a' w') → (∀ i e' st' a' w', K.exit i e' st' = some r → NoGd e' → Rel Γ e' st' a' w' → Q (.exit i) a' w') →
      (∀ e' st' a' w', K.ret e' st' = some r → NoGd e' → Rel Γ e' st' a' w' → Q .ret a' w') → (∀ s st' v a' w', K.pan s st' = some r → PRel Γ s st' v a' w' → Q (.panic [{ v, recovered := false }]) a' w') → ∀ (a : Act) (w : World), Rel Γ e st a w → NoGd e → c.wp Γ.P Q a w := by
  intro c
  induction c with
  | skip => intro _ K e st h Q h1 h2 h3 h4 a w hrel hg; exact wp_skip (h1 _ _ _ _ h hg hrel)
  | region id ops draw =>
    intro _ K e st h Q h1 h2 h3 h4 a w hrel hg
    unfold exec runR at h
    cases draw with
    | false =>
      simp only [cond_false] at h
      refine wp_region ?_
      have := runOps_sound hC hP hn hnp (ops := ops) (Q := Q) (fun e' st' a' w' hk hrel' => h1 _ _ a' w' hk (NoGd.sweep e') hrel'.sweep) h4 ops.toList 0 (by simp) e st h a w hrel (hg.inv _)
      rwa [← List.range_eq_range', Array.length_toList] at this
    | true =>
      simp only [cond_true] at h
      cases hd : drawOk C.P ops with
      | false => rw [hd] at h; cases h
      | true =>
        rw [hd] at h
        simp only [cond_true] at h
        have hm : Γ.P.follows .mixedOrders = true := by
          rw [hP] at hd
          simp only [drawOk, Bool.and_eq_true] at hd
          exact hd.1.1
        have hrel' : Rel Γ e st a { w with drawn := w.drawn + 1 } := by
          obtain ⟨D, ow, μ, hw, hs⟩ := hrel
          obtain ⟨h1, h2⟩ := hw.drawn (w.drawn + 1)
          exact ⟨D, ow, μ, h1, hs.mono h2⟩
        exact wp_region_any hm (runD_sound hC hP hn (by rw [← hP]; exact hd) h hg (fun e' st' a' w' hk hrel' => h1 _ _ a' w' hk (NoGd.sweep e') hrel'.sweep) h4 a _ hrel')
  | seq x y ihx ihy =>
    intro hL K e st h Q h1 h2 h3 h4 a w hrel hg
    unfold exec at h
    refine wp_seq (ihx (fun b hb => hL b (by simp [loopsOf, hb])) _ e st h (Exit.then (y.wp Γ.P Q) Q) (fun e' st' a' w' hk hg' hrel' => ?_) h2 h3 h4 a w hrel hg)
    exact ihy (fun b hb => hL b (by simp [loopsOf, hb])) K e' st' hk Q h1 h2 h3 h4 a' w' hrel' hg'
  | cond c x y ihx ihy =>
    intro hL K e st h Q h1 h2 h3 h4 a w hrel hg
    unfold exec at h
    have hLx : ∀ body, body ∈ loopsOf x → LoopOk C body := fun b hb => hL b (by simp [loopsOf, hb])
    have hLy : ∀ body, body ∈ loopsOf y → LoopOk C body := fun b hb => hL b (by simp [loopsOf, hb])
    split at h
    · rename_i t
      split at h
      · rename_i b hb
        have ht : a.eval (.tmp t) = .bool b := by
          obtain ⟨D, ow, μ, hw, hs⟩ := hrel
          have := hs.slot t
          rw [hb] at this
          show a.tmps.getD t Go.undef = _
          generalize a.tmps.getD t Go.undef = v at this
          cases this; rfl
        have hset : ∀ b', b' = b → Rel Γ (e.set t (.bool b')) st a w := by
          intro b' hbb
          obtain ⟨D, ow, μ, hw, hs⟩ := hrel
          refine ⟨D, ow, μ, hw, hs.size, hs.defers, fun t' => ?_⟩
          unfold Env.set
          cases hb2 : Nat.beq t' t with
          | true =>
            have := Nat.eq_of_beq_eq_true hb2; subst this
            rw [hbb]
            have := hs.slot t'
            rwa [hb] at this
          | false => exact hs.slot t'
        cases b with
        | true => exact wp_cond_true ht (ihx hLx K _ st h Q h1 h2 h3 h4 a w (hset true rfl) (hg.set t (by simp)))
        | false => exact wp_cond_false ht (ihy hLy K _ st h Q h1 h2 h3 h4 a w (hset false rfl) (hg.set t (by simp)))
      · simp at h
    · rename_i b
      cases b with
      | true => exact wp_cond_true rfl (ihx hLx K e st h Q h1 h2 h3 h4 a w hrel hg)
      | false => exact wp_cond_false rfl (ihy hLy K e st h Q h1 h2 h3 h4 a w hrel hg)
    · simp at h
  | block id body ih =>
    intro hL K e st h Q h1 h2 h3 h4 a w hrel hg
    unfold exec at h
    refine wp_block (ih (fun b hb => hL b (by simpa [loopsOf] using hb)) _ e st h (Exit.inBlock id Q) h1 (fun i e' st' a' w' hk hg' hrel' => ?_) h3 h4 a w hrel hg)
    show Exit.inBlock id Q (.exit i) a' w'
    unfold Exit.inBlock
    by_cases hi : i = id
    · subst hi
      simp only [if_true]
      simp only [Nat.beq_refl, cond_true] at hk
      exact h1 _ _ _ _ hk hg' hrel'
    · simp only [hi, if_false]
      have hb : Nat.beq i id = false := by
        cases hc : Nat.beq i id with
        | false => rfl
        | true => exact absurd (Nat.eq_of_beq_eq_true hc) hi
      simp only [hb, cond_false] at hk
      exact h2 _ _ _ _ _ hk hg' hrel'
  | loop body _ =>
    intro hL K e st h Q h1 h2 h3 h4 a w hrel hg
    unfold exec at h
    obtain ⟨m, hgo⟩ := hL body (by simp [loopsOf]) R e st _ r h
    rw [hP] at hgo
    refine wp_loop_rounds m (hgo Γ rfl hn hnp Q a w hrel hg (fun x e' st' hk hg' => ?_))
    cases x with
    | exit i => exact fun a' w' hrel' => h2 i _ _ _ _ hk hg' hrel'
    | ret => exact fun a' w' hrel' => h3 _ _ _ _ hk hg' hrel'
    | pan => exact fun v a' w' hp => h4 _ _ v _ _ hk hp
  | exit id => intro _ K e st h Q h1 h2 h3 h4 a w hrel hg; exact wp_exit (h2 _ _ _ _ _ h hg hrel)
  | ret => intro _ K e st h Q h1 h2 h3 h4 a w hrel hg; exact wp_ret (h3 _ _ _ _ h hg hrel)
  | rangeFunc => intro _ K e st h; simp [exec] at h
  | scope => intro _ K e st h; simp [exec] at h
  | label => intro _ K e st h; simp [exec] at h
  | goto => intro _ K e st h; simp [exec] at h
  | refuse => intro _ K e st h; simp [exec] at h

/-- A loop, round by round. -/
theorem loop_round {C : Cfg} (hC : CallOk C) {body : Code} (hL : ∀ b, b ∈ loopsOf body → LoopOk C b) {R : Type} {r : R} {K : Ks R} {e : Env} {st : List BX} (h : exec C body K e st = some r) {x : LEx} {e' : Env} {st' : List BX}
    {m : Nat} (hnorm : ∀ e1 st1, K.norm e1 st1 = some r → NoGd e1 → LoopGo C body m e1 st1 x e' st')
    (hexit : ∀ i e1 st1, K.exit i e1 st1 = some r → NoGd e1 → x = .exit i ∧ ∀ (Γ : Ctx) (a : Act) (w : World), Γ.P = C.P → Γ.np = C.np → Rel Γ e1 st1 a w → Rel Γ e' st' a w)
    (hret : ∀ e1 st1, K.ret e1 st1 = some r → NoGd e1 → x = .ret ∧ ∀ (Γ : Ctx) (a : Act) (w : World), Γ.P = C.P → Γ.np = C.np → Rel Γ e1 st1 a w → Rel Γ e' st' a w)
    (hpan : ∀ s st1, K.pan s st1 = some r → x = .pan ∧ ∀ (Γ : Ctx) (v : Value) (a : Act) (w : World), Γ.P = C.P → Γ.np = C.np → PRel Γ s st1 v a w → PRel Γ (e' 0) st' v a w) : LoopGo C body (m + 1) e st x e' st' := by
  intro Γ hΓP hΓn hΓnp Q a w hrel hg hQ
  rw [rounds_succ]
  have hw : body.wp Γ.P (Exit.then (Code.rounds C.P body Q m) Q) a w := by
    refine exec_sound hC hΓP.symm hΓn hΓnp r body hL K e st h (Exit.then (Code.rounds C.P body Q m) Q) (fun e1 st1 a1 w1 hk hg1 hrel1 => ?_) (fun i e1 st1 a1 w1 hk hg1 hrel1 => ?_) (fun e1 st1 a1 w1 hk hg1 hrel1 => ?_) (fun s st1 v a1 w1 hk hp => ?_) a w hrel hg
    · exact hnorm e1 st1 hk hg1 Γ hΓP hΓn hΓnp Q a1 w1 hrel1 hg1 hQ
    · obtain ⟨rfl, hle⟩ := hexit i e1 st1 hk hg1
      exact hQ a1 w1 (hle Γ a1 w1 hΓP hΓnp hrel1)
    · obtain ⟨rfl, hle⟩ := hret e1 st1 hk hg1
      exact hQ a1 w1 (hle Γ a1 w1 hΓP hΓnp hrel1)
    · obtain ⟨rfl, hle⟩ := hpan s st1 hk
      exact hQ v a1 w1 (hle Γ v a1 w1 hΓP hΓnp hp)
  rw [hΓP] at hw
  exact hw
end Go.Ab
