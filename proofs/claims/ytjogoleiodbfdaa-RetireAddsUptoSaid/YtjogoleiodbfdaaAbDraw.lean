/- One operation of a region, whatever its order. -/
import Derived.Test.YtjogoleiodbfdaaAbExec
set_option linter.unusedVariables false
set_option linter.unusedSimpArgs false
set_option linter.unnecessarySimpa false
namespace Go.Ab
open Go

def ρT (e : Env) (gs : List (Nat × Bool)) (op : Op) (w : Bool) : Operand → SV := match op with | .pick (.tmp u) _ _ => opd e ((u, w) :: gs) | _ => opd e []

inductive StepV (C : Cfg) (ops : Array Oper) (o : Oper) (e : Env) (st : List BX) : SV → List BX → Prop
  | val {v : SV} : o.guard = none → ac C.P o.op (opd e []) (ρT e [] o.op true) (ρT e [] o.op false) st = .val true v → StepV C ops o e st v st
  | upd {v : SV} {st' : List BX} : o.guard = none → ac C.P o.op (opd e []) (ρT e [] o.op true) (ρT e [] o.op false) st = .upd true v st' → StepV C ops o e st v st'
  | call {f : FuncId} {args as rs rs' : List SV} {sub sub' bs : List BX} : o.guard = none → ac C.P o.op (opd e []) (ρT e [] o.op true) (ρT e [] o.op false) st = .call f args →
      renL st (inRho (refsAll st args)) (fun _ => 0) args = some as → subSt st (inRho (refsAll st args)) (fun _ => 0) (refsAll st args) = some sub → Meets C.P f as sub rs sub' → backAll st (refsAll st args) rs sub' = some (rs', bs) → (∀ s, rs' ≠ [.pan s]) → StepV C ops o e st (resSV rs') (backSt (refsAll st args) bs st)
  | gval {j t : Nat} {want b c : Bool} {v : SV} : o.guard = some (j, want) → (ops[j]?).bind (·.dst) = some t → gval e 8 t want = some b →
      ac C.P o.op (opd e [(t, want)]) (ρT e [(t, want)] o.op true) (ρT e [(t, want)] o.op false) st = .val c v → imp b c = true → StepV C ops o e st (.gd t want v) st
  | gcall {j t : Nat} {want b : Bool} {f : FuncId} {args as rs' : List SV} : o.guard = some (j, want) → (ops[j]?).bind (·.dst) = some t → gval e 8 t want = some b →
      ac C.P o.op (opd e [(t, want)]) (ρT e [(t, want)] o.op true) (ρT e [(t, want)] o.op false) st = .call f args → refsAll st args = [] → renL st (inRho []) (fun _ => 0) args = some as →
      (b = true → ∃ rs sub', Meets C.P f as [] rs sub' ∧ backNil rs sub' = some rs') → (∀ s, rs' ≠ [.pan s]) → StepV C ops o e st (.gd t want (resSV rs')) st

  | gcallU {j t : Nat} {want : Bool} {f : FuncId} {args as rs rs' : List SV} {sub sub' bs : List BX} : o.guard = some (j, want) → (ops[j]?).bind (·.dst) = some t → gval e 8 t want = some true →
      ac C.P o.op (opd e [(t, want)]) (ρT e [(t, want)] o.op true) (ρT e [(t, want)] o.op false) st = .call f args →
      renL st (inRho (refsAll st args)) (fun _ => 0) args = some as → subSt st (inRho (refsAll st args)) (fun _ => 0) (refsAll st args) = some sub → Meets C.P f as sub rs sub' → backAll st (refsAll st args) rs sub' = some (rs', bs) → (∀ s, rs' ≠ [.pan s]) → StepV C ops o e st (.gd t want (resSV rs')) (backSt (refsAll st args) bs st)
  | gskip {j t : Nat} {want : Bool} {f : FuncId} {args : List SV} {x : SV} : o.guard = some (j, want) → (ops[j]?).bind (·.dst) = some t → gval e 8 t want = some false →
      ac C.P o.op (opd e [(t, want)]) (ρT e [(t, want)] o.op true) (ρT e [(t, want)] o.op false) st = .call f args → StepV C ops o e st (.gd t want x) st

/-- A call that panics. -/
def StepP (C : Cfg) (o : Oper) (e : Env) (st : List BX) (s : SV) (st' : List BX) : Prop :=
  o.guard = none ∧ ∃ f args as rs sub sub' bs, ac C.P o.op (opd e []) (ρT e [] o.op true) (ρT e [] o.op false) st = .call f args ∧ renL st (inRho (refsAll st args)) (fun _ => 0) args = some as ∧ subSt st (inRho (refsAll st args)) (fun _ => 0) (refsAll st args) = some sub ∧
    Meets C.P f as sub rs sub' ∧ backAll st (refsAll st args) rs sub' = some ([.pan s], bs) ∧ st' = backSt (refsAll st args) bs st

theorem opV_step {R : Type} {C : Cfg} (hC : CallOk C) {ops : Array Oper} {o : Oper} {e : Env} {st : List BX} {K X : SV → List BX → Option R} {r : R} (h : opV C ops o e st K X = some r) : (∃ v st', StepV C ops o e st v st' ∧ K v st' = some r) ∨ ∃ s st', StepP C o e st s st' ∧ X s st' = some r := by
  unfold opV at h
  split at h
  · rename_i hg
    split at h
    · cases h
    · rename_i c v hac
      cases c with
      | false => cases h
      | true => exact Or.inl ⟨v, st, .val hg hac, h⟩
    · rename_i c v st' hac
      cases c with
      | false => cases h
      | true => exact Or.inl ⟨v, st', .upd hg hac, h⟩
    · cases h
    · rename_i f args hac
      split at h
      · rename_i as sub has hsub
        obtain ⟨rs, sub', hK, hm⟩ := (hC R true f as sub _ r h).1 rfl
        split at hK
        case h_2 => cases hK
        rename_i rs' bs hback
        rcases fork_cases hK with ⟨s, rfl, hK⟩ | ⟨hne, hK⟩
        · exact Or.inr ⟨s, _, ⟨hg, f, args, as, rs, sub, sub', bs, hac, has, hsub, hm, hback, rfl⟩, hK⟩
        · exact Or.inl ⟨_, _, .call hg hac has hsub hm hback hne, hK⟩
      · cases h
  · rename_i j want hg
    split at h
    · cases h
    · rename_i t ht
      split at h
      · cases h
      · rename_i b hb
        split at h
        · rename_i c v hac
          cases hi : imp b c with
          | false => rw [hi] at h; cases h
          | true => rw [hi] at h; exact Or.inl ⟨_, _, .gval hg ht hb hac hi, h⟩
        · rename_i f args hac
          split at h
          · rename_i as hks has
            obtain ⟨h1, rs0, sub0, hK0⟩ := hC R b f as [] _ r h
            cases b with
            | true =>
              obtain ⟨rs, sub', hK, hm⟩ := h1 rfl
              split at hK
              case h_2 => cases hK
              rename_i rs' hback
              obtain ⟨hne, hK⟩ := fork_none hK
              exact Or.inl ⟨_, _, .gcall hg ht hb hac hks has (fun _ => ⟨rs, sub', hm, hback⟩) hne, hK⟩
            | false =>
              split at hK0
              case h_2 => cases hK0
              obtain ⟨hne, hK0⟩ := fork_none hK0
              exact Or.inl ⟨_, _, .gcall hg ht hb hac hks has (fun hb => by cases hb) hne, hK0⟩
          · cases b with
            | false => exact Or.inl ⟨_, _, .gskip hg ht hb hac, h⟩
            | true =>
              simp only [cond_true] at h
              split at h
              · rename_i as sub has hsub
                obtain ⟨rs, sub', hK, hm⟩ := (hC R true f as sub _ r h).1 rfl
                split at hK
                case h_2 => cases hK
                rename_i rs' bs hback
                obtain ⟨hne, hK⟩ := fork_none hK
                exact Or.inl ⟨_, _, .gcallU hg ht hb hac has hsub hm hback hne, hK⟩
              · cases h
        · cases h

theorem append_val {P : Program} {st : List BX} {T : TypeId} {x y : SV} {c : Bool} {v : SV} : appendAc P st T x y ≠ .val c v := by
  intro h
  unfold appendAc at h
  simp only [cond_eq_ite] at h
  repeat' split at h
  all_goals cases h
theorem append_call {P : Program} {st : List BX} {T : TypeId} {x y : SV} {f : FuncId} {as : List SV} : appendAc P st T x y ≠ .call f as := by
  intro h
  unfold appendAc at h
  simp only [cond_eq_ite] at h
  repeat' split at h
  all_goals cases h
theorem store_val {P : Program} {st : List BX} {T : TypeId} {x y : SV} {c : Bool} {v : SV} : storeAc P T st x y ≠ .val c v := by
  intro h
  unfold storeAc at h
  simp only [cond_eq_ite] at h
  repeat' split at h
  all_goals cases h
theorem storeFz_val {P : Program} {st : List BX} {T : TypeId} {x y : SV} {c : Bool} {v : SV} : storeFz P T st x y ≠ .val c v := by
  intro h
  unfold storeFz at h
  split at h
  · split at h
    · split at h
      · simp only [cond_eq_ite] at h
        split at h
        · cases h
        · exact store_val h
      · cases h
    · exact store_val h
  · exact store_val h
theorem mapEntry_val {P : Program} {st : List BX} {T : TypeId} {x y : SV} {c : Bool} {v : SV} : mapEntryAc P T st x y ≠ .val c v := by
  intro h
  unfold mapEntryAc at h
  simp only [cond_eq_ite] at h
  repeat' split at h
  all_goals cases h
theorem entryStore_val {P : Program} {st : List BX} {T : TypeId} {x y z : SV} {c : Bool} {v : SV} : entryStoreAc P T st x y z ≠ .val c v := by
  intro h
  unfold entryStoreAc at h
  simp only [cond_eq_ite] at h
  repeat' split at h
  all_goals cases h
theorem mapUpdate_val {P : Program} {st : List BX} {T : TypeId} {x y z : SV} {c : Bool} {v : SV} : mapUpdateAc P T st x y z ≠ .val c v := by
  intro h
  unfold mapUpdateAc at h
  split at h
  · rename_i K E _
    cases hb : (keyT P K && isOf P K y && isOf P E z) with
    | false => rw [hb] at h; cases h
    | true =>
      rw [hb] at h
      simp only [cond_true] at h
      split at h
      · split at h
        · rename_i K' E' es _
          cases hb2 : (Nat.beq K K' && Nat.beq E E') <;> rw [hb2] at h <;> cases h
        · cases h
      · cases h
  · cases h
theorem makeMap_val {P : Program} {st : List BX} {T : TypeId} {r : Option Operand} {c : Bool} {v : SV} : makeMapAc P T r st ≠ .val c v := by
  intro h
  unfold makeMapAc at h
  split at h <;> cases h

/-- A step that looks at nothing that is owned beyond the first few. -/
theorem ac_take_val {P : Program} {op : Op} {ρ ρt ρf : Operand → SV} {st : List BX} {m : Nat} {c : Bool} {v : SV} (h : ac P op ρ ρt ρf (st.take m) = .val c v) : ac P op ρ ρt ρf st = .val c v := by
  have hget : ∀ (k : Nat) (b : BX), (st.take m)[k]? = some b → st[k]? = some b := by
    intro k b hk
    rw [List.getElem?_take] at hk
    split at hk
    · exact hk
    · cases hk
  have hat : ∀ (k g : Nat) (E : TypeId) (xs : List PV), arrAt (st.take m) k g E = some xs → arrAt st k g E = some xs := by
    intro k g E xs h
    unfold arrAt at h ⊢
    cases hk : (st.take m)[k]? with
    | some b => rw [hk] at h; rw [hget _ _ hk]; exact h
    | none => rw [hk] at h; cases h
  have his : ∀ (k g : Nat), arrIs (st.take m) k g = true → arrIs st k g = true := by
    intro k g h
    unfold arrIs at h ⊢
    cases hk : (st.take m)[k]? with
    | some b => rw [hk] at h; rw [hget _ _ hk]; exact h
    | none => rw [hk] at h; cases h
  cases op with
  | nilCheck x =>
    simp only [ac] at h ⊢
    generalize ρ x = y at h ⊢
    cases y with
    | aref k g i E p T =>
      simp only at h ⊢
      cases hb : arrIs (st.take m) k g with
      | true => rw [hb] at h; rw [his _ _ hb]; exact h
      | false => rw [hb] at h; cases h
    | _ => exact h
  | fieldAddr S x i =>
    simp only [ac, fieldAddrAc] at h ⊢
    generalize ρ x = y at h ⊢
    cases y with
    | aref k g j E p T =>
      split at h
      · split at h
        · rename_i f hf
          cases h0 : Nat.beq (P.cellsOf f.type) 0 with
          | true => rw [h0] at h; cases h
          | false =>
            rw [h0] at h
            simp only [cond_false] at h ⊢
            cases hb : arrIs (st.take m) k g with
            | true => rw [hb] at h; rw [his _ _ hb]; exact h
            | false => rw [hb, Bool.and_false] at h; cases h
        · cases h
      · cases h
    | _ => exact h
  | indexAddr T x i =>
    simp only [ac, indexAddrAc] at h ⊢
    cases h0 : arrAddr P T (ρ x) (ρ i) with
    | some r => rw [h0] at h; exact h
    | none =>
      rw [h0] at h
      simp only at h ⊢
      cases h1 : rowAddr P T (st.take m) (ρ x) (ρ i) with
      | some r =>
        rw [h1] at h
        have : rowAddr P T st (ρ x) (ρ i) = some r := by
          unfold rowAddr at h1 ⊢
          split at h1
          · split at h1
            · rename_i xs h2; simp only [hat _ _ _ _ h2]; exact h1
            · cases h1
          · cases h1
        rw [this]; exact h
      | none =>
        rw [h1] at h
        simp only at h
        have : rowAddr P T st (ρ x) (ρ i) = none := by
          unfold rowAddr
          split
          · rename_i E k g E' kk n e1 e2 e3
            rw [e2] at h
            simp [listOf] at h
          · rfl
        rw [this]; exact h
  | load T a =>
    simp only [ac, loadAc] at h ⊢
    generalize ρ a = x at h ⊢
    cases x with
    | ref k path T' =>
      simp only at h ⊢
      cases hk : (st.take m)[k]? with
      | some b => rw [hk] at h; rw [hget _ _ hk]; exact h
      | none => rw [hk] at h; cases hb : (Nat.beq T T' && (P.underlying T).isSome) <;> rw [hb] at h <;> cases h
    | eref k i E =>
      simp only at h ⊢
      cases hk : (st.take m)[k]? with
      | some b => rw [hk] at h; rw [hget _ _ hk]; exact h
      | none => rw [hk] at h; cases hb : (Nat.beq T E && elemLay P E) <;> rw [hb] at h <;> cases h
    | aref k g i E path T' =>
      simp only at h ⊢
      cases hk : arrAt (st.take m) k g E with
      | some xs => rw [hk] at h; rw [hat _ _ _ _ hk]; exact h
      | none => rw [hk] at h; cases hb : (Nat.beq T T' && elemLay P E && elemLay P T) <;> rw [hb] at h <;> cases h
    | _ => exact h
  | convert s d x =>
    simp only [ac] at h ⊢
    unfold convStAc at h ⊢
    generalize ρ x = y at h ⊢
    cases y with
    | asl k lo n E =>
      simp only at h ⊢
      cases hk : (st.take m)[k]? with
      | some b => rw [hk] at h; rw [hget _ _ hk]; exact h
      | none =>
        rw [hk] at h
        split at h
        · rename_i h1 h2; cases h2
        · cases h
    | _ => exact h
  | lookup T x k ok =>
    simp only [ac] at h ⊢
    unfold lookupAc at h ⊢
    cases hT : P.underlying T with
    | none => rw [hT] at h; cases h
    | some d =>
      cases d with
      | map K E =>
        rw [hT] at h
        simp only at h ⊢
        generalize ρ x = y at h ⊢
        cases y with
        | mref j =>
          simp only at h ⊢
          cases hk : (st.take m)[j]? with
          | some b => rw [hk] at h; rw [hget _ _ hk]; exact h
          | none => rw [hk] at h; cases hb : (keyT P K && isOf P K (ρ k) && zeroOk P E && isOf P E (zeroSV P 12 E)) <;> rw [hb] at h <;> cases h
        | _ => exact h
      | _ => rw [hT] at h; cases h
  | call cl =>
    simp only [ac] at h ⊢
    unfold callAc at h ⊢
    split at h
    · cases h
    · split at h <;> cases h
    · split at h
      · rename_i x T hx hT
        unfold lenAc at h ⊢
        generalize ρ x = y at h ⊢
        generalize P.underlying T = u at h ⊢
        cases u with
        | none => cases h
        | some d =>
          cases d with
          | map K E =>
            cases y with
            | mref j =>
              simp only at h ⊢
              cases hk : (st.take m)[j]? with
              | some b => rw [hk] at h; rw [hget _ _ hk]; exact h
              | none => rw [hk] at h; cases h
            | _ => exact h
          | slice E0 =>
            cases y with
            | arr k g E =>
              simp only at h ⊢
              cases hk : arrAt (st.take m) k g E with
              | some xs => rw [hk] at h; rw [hat _ _ _ _ hk]; exact h
              | none => rw [hk] at h; cases h
            | _ => exact h
          | _ => cases y <;> exact h
      · cases h
    · split at h
      · rename_i x y T T' _ _
        cases hb : Nat.beq T T' with
        | true => rw [hb] at h; exact absurd h append_val
        | false => rw [hb] at h; cases h
      · cases h
    · exact h
    · exact h
    · cases h
  | store T a x => exact absurd h storeFz_val
  | insert T a k x => exact absurd h mapUpdate_val
  | mapUpdate T a k x => exact absurd h mapUpdate_val
  | mapEntry T a k => exact absurd h mapEntry_val
  | entryStore T a k x => exact absurd h entryStore_val
  | makeMap T r => exact absurd h makeMap_val
  | range T x => simp only [ac] at h; unfold rangeAc at h; split at h <;> first | (cases h; done) | (simp only [cond_eq_ite] at h; split at h <;> cases h)
  | next x b =>
    simp only [ac] at h; unfold nextAc at h; repeat' split at h
    all_goals cases h
  | entry x =>
    simp only [ac] at h ⊢
    unfold entryAc at h ⊢
    generalize ρ x = y at h ⊢
    cases y with
    | mitr k =>
      simp only at h ⊢
      cases hk : (st.take m)[k]? with
      | some b => rw [hk] at h; rw [hget _ _ hk]; exact h
      | none => rw [hk] at h; cases h
    | _ => exact h
  | alloc T => simp only [ac, allocAc] at h; cases hb : isBldT P T <;> cases hb2 : zeroOk P T <;> simp only [hb, hb2, cond_true, cond_false] at h <;> cases h
  | box T x => simp only [ac, boxAc, cond_eq_ite] at h; repeat' split at h
               all_goals cases h
  | makeSlice T n c => simp only [ac, makeSliceAc, makeRowAc, cond_eq_ite] at h; repeat' split at h
                       all_goals cases h
  | _ => exact h
theorem callAc_call {cl : Call} {ρ : Operand → SV} {P : Program} {st st' : List BX} {f : FuncId} {args : List SV} (h : callAc cl ρ P st = .call f args) : callAc cl ρ P st' = .call f args := by
  unfold callAc at h ⊢
  split at h
  · exact h
  · exact h
  · exfalso
    split at h
    · unfold lenAc at h
      split at h <;> first | (cases h; done) | (split at h <;> cases h)
    · cases h
  · exfalso
    split at h
    · rename_i x y T T' _ _
      cases hb : Nat.beq T T' with
      | false => rw [hb] at h; cases h
      | true =>
        rw [hb] at h
        simp only [cond_true] at h
        exact absurd h append_call
    · cases h
  · exact h
  · exact h
  · cases h

theorem opW_step {R : Type} {C : Cfg} (hC : CallOk C) {ops : Array Oper} {o : Oper} {e : Env} {s0 : List BX} {K : SV → Option R} {r : R} (h : opW C ops o e s0 K = some r) : ∃ v, (∀ (st : List BX) (m : Nat), st.take m = s0 → StepV C ops o e st v st) ∧ K v = some r := by
  have hcl : ∀ {ρ ρt ρf : Operand → SV} {f : FuncId} {args : List SV}, isCall o.op = true → ac C.P o.op ρ ρt ρf s0 = .call f args → ∀ st, ac C.P o.op ρ ρt ρf st = .call f args := by
    intro ρ ρt ρf f args hi ha st
    unfold isCall at hi
    split at hi
    · rename_i cl hop
      rw [hop] at ha ⊢
      exact callAc_call ha
    · cases hi
  unfold opW at h
  split at h
  · rename_i hg
    split at h
    · rename_i c v hac
      cases c with
      | false => cases h
      | true => exact ⟨v, fun st m hs => by subst hs; exact .val hg (ac_take_val hac), h⟩
    · rename_i f args hac
      cases hi : isCall o.op with
      | false => rw [hi] at h; cases h
      | true =>
        rw [hi] at h
        simp only [cond_true] at h
        split at h
        · rename_i as hks has
          obtain ⟨rs, sub', hK, hm⟩ := (hC R true f as [] _ r h).1 rfl
          split at hK
          case h_2 => cases hK
          rename_i rs' hback
          obtain ⟨hne, hK⟩ := fork_none hK
          refine ⟨_, fun st m _ => ?_, hK⟩
          have hks' := refsAll_free (st' := st) hks
          have := StepV.call (ops := ops) (e := e) (st := st) (sub := []) hg (hcl hi hac st) (by rw [hks']; rw [renL_free st s0]; exact has) (by rw [hks']; rfl) hm (by rw [hks']; exact backNil_spec hback st) hne
          rw [hks'] at this
          have e0 : backSt [] [] st = st := by simp [backSt]
          rw [e0] at this
          exact this
        · cases h
    · cases h
  · rename_i j want hg
    split at h
    · cases h
    · rename_i t ht
      split at h
      · cases h
      · rename_i b hb
        split at h
        · rename_i c v hac
          cases hi' : imp b c with
          | false => rw [hi'] at h; cases h
          | true => rw [hi'] at h; exact ⟨_, fun st m hst => by subst hst; exact .gval hg ht hb (ac_take_val hac) hi', h⟩
        · rename_i f args hac
          cases hi : isCall o.op with
          | false => rw [hi] at h; cases h
          | true =>
            rw [hi] at h
            simp only [cond_true] at h
            split at h
            · rename_i as hks has
              obtain ⟨h1, rs0, sub0, hK0⟩ := hC R b f as [] _ r h
              cases b with
              | true =>
                obtain ⟨rs, sub', hK, hm⟩ := h1 rfl
                split at hK
                case h_2 => cases hK
                rename_i rs' hback
                obtain ⟨hne, hK⟩ := fork_none hK
                exact ⟨_, fun st m _ => .gcall hg ht hb (hcl hi hac st) (refsAll_free hks) (by rw [renL_free st s0]; exact has) (fun _ => ⟨rs, sub', hm, hback⟩) hne, hK⟩
              | false =>
                split at hK0
                case h_2 => cases hK0
                obtain ⟨hne, hK0⟩ := fork_none hK0
                exact ⟨_, fun st m _ => .gcall hg ht hb (hcl hi hac st) (refsAll_free hks) (by rw [renL_free st s0]; exact has) (fun hb => by cases hb) hne, hK0⟩
            · cases h
        · cases h

section
variable {Γ : Ctx}

theorem upon_put {D : Dom} {ow : Own} {μ : Nat → Nat} {e : Env} {st st' : List BX} {a : Act} {w : World} {C : Cfg} (hn : Γ.n = C.n) (hs : Slots Γ D ow μ e st a w) {o : Oper} (hd : dstOk C.n o.dst = true) (hc : ∀ d, o.dst = some d → Clean e d) {v : SV} {r : Result Next}
    (h : OpRes Γ D ow μ st w r v st') (s : SV) (hslot : ∀ (D' : Dom) (w' : World) (ow' : Own) (μ' : Nat → Nat) (u : Value), SRep Γ.P D' w' ow' μ' st' v u → SlotRep Γ.P D' w' ow' μ' st' a s u) (hsg : ∀ t want x, s = .gd t want x → o.dst ≠ some t)
    (next : Act → World → Prop) (Q : Exit → Act → World → Prop) (hnext : ∀ a' w', Rel Γ (put e o.dst s) st' a' w' → next a' w') : o.upon Γ.P a next Q r := by
  obtain ⟨u, w', D', ow', μ', hr, hw, hm, hv⟩ := h
  have hrel : Rel Γ (put e o.dst s) st' (a.put o.dst u) w' := by
    refine ⟨D', ow', μ', hw, (hs.mono hm).put o.dst s u (fun x hx => ⟨by rw [hn]; exact dst_lt hd x hx, hc x hx⟩) (hslot _ _ _ _ _ hv) hsg⟩
  rcases hr with hr | ⟨hr, hu⟩
  · rw [hr, Oper.upon_value]; exact hnext _ _ hrel
  · rw [hr, Oper.upon_skip, ← hu]; exact hnext _ _ hrel

/-- A step, read in a part of what is known. -/
theorem step_sound {C : Cfg} (hP : C.P = Γ.P) (hn : Γ.n = C.n) {ops : Array Oper} {i : Nat} {o : Oper} (ho : ops[i]? = some o) {e eF : Env} {st st' : List BX} {v : SV} (h : StepV C ops o e st v st') (hd : dstOk C.n o.dst = true)
    (hle : ∀ t, e t = .undef ∨ e t = eF t) {a : Act} {w : World} (hrel : Rel Γ eF st a w) (hc : ∀ d, o.dst = some d → Clean eF d) (hgo : ∀ j want t, o.guard = some (j, want) → (ops[j]?).bind (·.dst) = some t → o.dst ≠ some t)
    (next : Act → World → Prop) (Q : Exit → Act → World → Prop) (hnext : (∀ u want x, v = .gd u want x → ∃ j, o.guard = some (j, want) ∧ (ops[j]?).bind (·.dst) = some u) → ∀ a' w', Rel Γ (put eF o.dst v) st' a' w' → next a' w') : wpOp Γ.P ops Q i next a w := by
  obtain ⟨D, ow, μ, hw, hs⟩ := hrel
  have hse : Slots Γ D ow μ e st a w := ⟨hs.size, hs.defers, fun t => by
    rcases hle t with h | h
    · rw [h]; exact .undef
    · rw [h]; exact hs.slot t⟩
  unfold wpOp
  simp only [ho]
  have hη : ∀ f, a.eval (.func f) = .func (.func f) #[] #[] := fun f => rfl
  have hρ : ∀ x, SRep Γ.P D w ow μ st (opd e [] x) (a.eval x) := fun x => opd_sound hse [] (fun _ hx => by cases hx) x
  have hpick : ∀ (gs : List (Nat × Bool)), (∀ z, z ∈ gs → a.tmps.getD z.1 Go.undef = .bool z.2) → ∀ c x y, o.op = .pick c x y → (a.eval c = .bool true → SRep Γ.P D w ow μ st (ρT e gs o.op true x) (a.eval x)) ∧ (a.eval c = .bool false → SRep Γ.P D w ow μ st (ρT e gs o.op false y) (a.eval y)) := by
    intro gs hgs c x y hop
    rw [hop]
    refine ⟨fun hc => ?_, fun hc => ?_⟩
    · cases c with
      | tmp t => exact opd_sound hse ((t, true) :: gs) (fun z hz => by
          rcases List.mem_cons.1 hz with rfl | hz
          · exact hc
          · exact hgs z hz) x
      | _ => exact hρ x
    · cases c with
      | tmp t => exact opd_sound hse ((t, false) :: gs) (fun z hz => by
          rcases List.mem_cons.1 hz with rfl | hz
          · exact hc
          · exact hgs z hz) y
      | _ => exact hρ y
  have plain : ∀ {r : Result Next}, OpRes Γ D ow μ st w r v st' → o.upon Γ.P a next Q r := by
    intro r hres
    have hng : ∀ t want x, v ≠ .gd t want x := by
      intro t want x hv
      obtain ⟨u, w', D', ow', μ', _, _, _, hv'⟩ := hres
      subst hv; cases hv'
    exact upon_put hn hs hd hc hres v (fun _ _ _ _ _ h => h.slot) (fun t want x hv => absurd hv (hng t want x)) next Q (hnext fun u want x hv => absurd hv (hng u want x))
  cases h with
  | val hg hac =>
    have hw1 : Region.wanted o (yielded ops a.tmps) = true := by simp [Region.wanted, hg]
    simp only [hw1, if_true]
    refine Or.inl ?_
    unfold Oper.wp
    rw [hP] at hac
    exact plain (ac_val_sound hw hρ o (hpick [] (fun _ hx => by cases hx)) v hac)
  | upd hg hac =>
    have hw1 : Region.wanted o (yielded ops a.tmps) = true := by simp [Region.wanted, hg]
    simp only [hw1, if_true]
    refine Or.inl ?_
    unfold Oper.wp
    rw [hP] at hac
    exact plain (ac_upd_sound hw hρ o v st' hac)
  | @call f args as rs rs' sub sub' bs hg hac has hsub hm hback hne =>
    have hw1 : Region.wanted o (yielded ops a.tmps) = true := by simp [Region.wanted, hg]
    simp only [hw1, if_true]
    refine Or.inl ?_
    unfold Oper.wp
    rw [hP] at hac hm
    obtain ⟨vals, hrun, hsz, hargs⟩ := ac_call_sound hρ hη o f args hac
    rw [hrun, hm.1 vals w, Oper.upon_enter]
    refine (call_sound hw (refsAll_nodup _ _) hsub has hsz hargs hm hback).mono fun en w' ⟨v, D', ow2, μ2, he, h1, h2, h3⟩ => ?_
    rcases resRep_cases h3 with ⟨s, e, _⟩ | ⟨_, h3, hend⟩
    · exact absurd e (hne s)
    rw [hend] at he
    subst he
    have hng : ∀ t want x, resSV rs' ≠ .gd t want x := by intro t want x hv; rw [hv] at h3; cases h3
    exact hnext (fun u want x hv => absurd hv (hng u want x)) _ _ ⟨D', ow2, μ2, h1, (hs.mono h2).put o.dst _ v (fun x hx => ⟨by rw [hn]; exact dst_lt hd x hx, hc x hx⟩) h3.slot (fun t want x hh => absurd hh (hng t want x))⟩
  | @gval j t want b c v hg ht hb hac hi =>
    have hiff := gval_sound hse 8 t want b hb
    have hwi := wanted_iff (tmps := a.tmps) hg ht
    have hdt := hgo j want t hg ht
    have hgd : ∀ u want' x, SV.gd t want v = .gd u want' x → ∃ j, o.guard = some (j, want') ∧ (ops[j]?).bind (·.dst) = some u := by
      intro u want' x he; cases he; exact ⟨j, hg, ht⟩
    cases b with
    | false =>
      have hne : a.tmps.getD t Go.undef ≠ .bool want := fun hh => by have := hiff.1 hh; cases this
      have hw0 : Region.wanted o (yielded ops a.tmps) = false := by
        cases hc : Region.wanted o (yielded ops a.tmps) with
        | false => rfl
        | true => exact absurd (hwi.1 hc) hne
      simp only [hw0, Bool.false_eq_true, if_false]
      exact hnext hgd _ _ ⟨D, ow, μ, hw, hs.put o.dst _ Go.undef (fun x hx => ⟨by rw [hn]; exact dst_lt hd x hx, hc x hx⟩) ⟨fun hh => absurd hh hne, fun _ => rfl⟩ (fun u want' x hh hdt' => by cases hh; exact hdt hdt')⟩
    | true =>
      have hgt : a.tmps.getD t Go.undef = .bool want := hiff.2 rfl
      have hw1 : Region.wanted o (yielded ops a.tmps) = true := hwi.2 hgt
      simp only [hw1, if_true]
      refine Or.inl ?_
      unfold Oper.wp
      have hc1 : c = true := by cases c with | true => rfl | false => simp [imp] at hi
      subst hc1
      rw [hP] at hac
      have hρ' : ∀ x, SRep Γ.P D w ow μ st (opd e [(t, want)] x) (a.eval x) := fun x => opd_sound hse [(t, want)] (fun z hz => by simp at hz; subst hz; exact hgt) x
      have hres := ac_val_sound hw hρ' o (hpick [(t, want)] (fun z hz => by simp at hz; subst hz; exact hgt)) v hac
      exact upon_put hn hs hd hc hres (.gd t want v) (fun _ _ _ _ _ h => ⟨fun _ => h, fun hh => absurd hgt hh⟩) (fun u want' x hh hdt' => by cases hh; exact hdt hdt') next Q (hnext hgd)
  | @gcall j t want b f args as rs' hg ht hb hac hks has hm hne =>
    have hiff := gval_sound hse 8 t want b hb
    have hwi := wanted_iff (tmps := a.tmps) hg ht
    have hdt := hgo j want t hg ht
    have hgd : ∀ u want' x, SV.gd t want (resSV rs') = .gd u want' x → ∃ j, o.guard = some (j, want') ∧ (ops[j]?).bind (·.dst) = some u := by
      intro u want' x he; cases he; exact ⟨j, hg, ht⟩
    cases b with
    | false =>
      have hne : a.tmps.getD t Go.undef ≠ .bool want := fun hh => by have := hiff.1 hh; cases this
      have hw0 : Region.wanted o (yielded ops a.tmps) = false := by
        cases hc : Region.wanted o (yielded ops a.tmps) with
        | false => rfl
        | true => exact absurd (hwi.1 hc) hne
      simp only [hw0, Bool.false_eq_true, if_false]
      exact hnext hgd _ _ ⟨D, ow, μ, hw, hs.put o.dst _ Go.undef (fun x hx => ⟨by rw [hn]; exact dst_lt hd x hx, hc x hx⟩) ⟨fun hh => absurd hh hne, fun _ => rfl⟩ (fun u want' x hh hdt' => by cases hh; exact hdt hdt')⟩
    | true =>
      have hgt : a.tmps.getD t Go.undef = .bool want := hiff.2 rfl
      have hw1 : Region.wanted o (yielded ops a.tmps) = true := hwi.2 hgt
      simp only [hw1, if_true]
      refine Or.inl ?_
      unfold Oper.wp
      obtain ⟨rs, sub', hm, hback⟩ := hm rfl
      rw [hP] at hac hm
      have hρ' : ∀ x, SRep Γ.P D w ow μ st (opd e [(t, want)] x) (a.eval x) := fun x => opd_sound hse [(t, want)] (fun z hz => by simp at hz; subst hz; exact hgt) x
      obtain ⟨vals, hrun, hsz, hargs⟩ := ac_call_sound hρ' hη o f args hac
      rw [hrun, hm.1 vals w, Oper.upon_enter]
      refine (call_sound hw (ks := []) (by simp) (sub := []) rfl has hsz hargs hm (backNil_spec hback st)).mono fun en w' ⟨v, D', ow2, μ2, he, h1, h2, h3⟩ => ?_
      rcases resRep_cases h3 with ⟨s, e, _⟩ | ⟨_, h3, hend⟩
      · exact absurd e (hne s)
      rw [hend] at he
      subst he
      have hbk : backSt [] [] st = st := by simp [backSt]
      rw [hbk] at h1 h2 h3
      exact hnext hgd _ _ ⟨D', ow2, μ2, h1, (hs.mono h2).put o.dst _ v (fun x hx => ⟨by rw [hn]; exact dst_lt hd x hx, hc x hx⟩) ⟨fun _ => h3, fun hh => absurd hgt hh⟩ (fun u want' x hh hdt' => by cases hh; exact hdt hdt')⟩

  | @gcallU j t want f args as rs rs' sub sub' bs hg ht hb hac has hsub hm hback hne =>
    have hiff := gval_sound hse 8 t want true hb
    have hwi := wanted_iff (tmps := a.tmps) hg ht
    have hdt := hgo j want t hg ht
    have hgd : ∀ u want' x, SV.gd t want (resSV rs') = .gd u want' x → ∃ j, o.guard = some (j, want') ∧ (ops[j]?).bind (·.dst) = some u := by
      intro u want' x he; cases he; exact ⟨j, hg, ht⟩
    have hgt : a.tmps.getD t Go.undef = .bool want := hiff.2 rfl
    have hw1 : Region.wanted o (yielded ops a.tmps) = true := hwi.2 hgt
    simp only [hw1, if_true]
    refine Or.inl ?_
    unfold Oper.wp
    rw [hP] at hac hm
    have hρ' : ∀ x, SRep Γ.P D w ow μ st (opd e [(t, want)] x) (a.eval x) := fun x => opd_sound hse [(t, want)] (fun z hz => by simp at hz; subst hz; exact hgt) x
    obtain ⟨vals, hrun, hsz, hargs⟩ := ac_call_sound hρ' hη o f args hac
    rw [hrun, hm.1 vals w, Oper.upon_enter]
    refine (call_sound hw (refsAll_nodup _ _) hsub has hsz hargs hm hback).mono fun en w' ⟨v, D', ow2, μ2, he, h1, h2, h3⟩ => ?_
    rcases resRep_cases h3 with ⟨s, e, _⟩ | ⟨_, h3, hend⟩
    · exact absurd e (hne s)
    rw [hend] at he
    subst he
    exact hnext hgd _ _ ⟨D', ow2, μ2, h1, (hs.mono h2).put o.dst _ v (fun x hx => ⟨by rw [hn]; exact dst_lt hd x hx, hc x hx⟩) ⟨fun _ => h3, fun hh => absurd hgt hh⟩ (fun u want' x hh hdt' => by cases hh; exact hdt hdt')⟩
  | @gskip j t want f args x hg ht hb hac =>
    have hiff := gval_sound hse 8 t want false hb
    have hwi := wanted_iff (tmps := a.tmps) hg ht
    have hdt := hgo j want t hg ht
    have hgd : ∀ u want' y, SV.gd t want x = .gd u want' y → ∃ j, o.guard = some (j, want') ∧ (ops[j]?).bind (·.dst) = some u := by
      intro u want' y he; cases he; exact ⟨j, hg, ht⟩
    have hne : a.tmps.getD t Go.undef ≠ .bool want := fun hh => by have := hiff.1 hh; cases this
    have hw0 : Region.wanted o (yielded ops a.tmps) = false := by
      cases hc : Region.wanted o (yielded ops a.tmps) with
      | false => rfl
      | true => exact absurd (hwi.1 hc) hne
    simp only [hw0, Bool.false_eq_true, if_false]
    exact hnext hgd _ _ ⟨D, ow, μ, hw, hs.put o.dst _ Go.undef (fun x hx => ⟨by rw [hn]; exact dst_lt hd x hx, hc x hx⟩) ⟨fun hh => absurd hh hne, fun _ => rfl⟩ (fun u want' x hh hdt' => by cases hh; exact hdt hdt')⟩

theorem stepP_sound {C : Cfg} (hP : C.P = Γ.P) {ops : Array Oper} {i : Nat} {o : Oper} (ho : ops[i]? = some o) {e eF : Env} {st st' : List BX} {s : SV} (h : StepP C o e st s st')
    (hle : ∀ t, e t = .undef ∨ e t = eF t) {a : Act} {w : World} (hrel : Rel Γ eF st a w) (next : Act → World → Prop) (Q : Exit → Act → World → Prop)
    (hX : ∀ v a' w', PRel Γ s st' v a' w' → Q (.panic [{ v, recovered := false }]) a' w') : wpOp Γ.P ops Q i next a w := by
  obtain ⟨D, ow, μ, hw, hs⟩ := hrel
  obtain ⟨hg, f, args, as, rs, sub, sub', bs, hac, has, hsub, hm, hback, rfl⟩ := h
  have hse : Slots Γ D ow μ e st a w := ⟨hs.size, hs.defers, fun t => by
    rcases hle t with h | h
    · rw [h]; exact .undef
    · rw [h]; exact hs.slot t⟩
  have hρ : ∀ x, SRep Γ.P D w ow μ st (opd e [] x) (a.eval x) := fun x => opd_sound hse [] (fun _ hx => by cases hx) x
  have hη : ∀ f, a.eval (.func f) = .func (.func f) #[] #[] := fun f => rfl
  unfold wpOp
  simp only [ho]
  have hw1 : Region.wanted o (yielded ops a.tmps) = true := by simp [Region.wanted, hg]
  simp only [hw1, if_true]
  refine Or.inl ?_
  unfold Oper.wp
  rw [hP] at hac hm
  obtain ⟨vals, hrun, hsz, hargs⟩ := ac_call_sound hρ hη o f args hac
  rw [hrun, hm.1 vals w, Oper.upon_enter]
  refine (call_sound hw (refsAll_nodup _ _) hsub has hsz hargs hm hback).mono fun en w' ⟨v, D', ow2, μ2, he, h1, h2, h3⟩ => ?_
  subst he
  exact hX v a w' ⟨hs.defers, D', ow2, μ2, h1, h3⟩
end
end Go.Ab
