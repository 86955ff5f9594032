/- Enums, services, files: the same text in the program and the specification. -/
import Derived.Test.YtjfdnmkfjikjnaaGreatDoorPMsgL
set_option linter.unusedVariables false
set_option linter.unusedSimpArgs false
set_option linter.unnecessarySimpa false
namespace Go.Ab
open Go
set_option maxRecDepth 100000
theorem fold_app (g : PV → List UInt8) : ∀ (l : List PV) (b : List UInt8), l.foldl (fun b x => b ++ g x) b = b ++ l.flatMap g := by
  intro l
  induction l with
  | nil => intro b; simp
  | cons x r ih => intro b; rw [List.foldl_cons, ih]; simp
theorem flat_len (g : PV → List UInt8) (B : Nat) : ∀ l : List PV, (∀ x, x ∈ l → (g x).length ≤ B) → (l.flatMap g).length ≤ B * l.length := by
  intro l
  induction l with
  | nil => intro _; simp
  | cons x r ih =>
    intro h
    have h1 := h x (by simp)
    have h2 := ih fun y hy => h y (by simp [hy])
    simp only [List.flatMap_cons, List.length_append, List.length_cons, Nat.mul_add]
    omega
/- Enums. -/
structure EnumOk (m : PV) : Prop where
  ok : OkEnum m
  items : (m.fld 2).asList.length ≤ 64
  num : ∀ x, x ∈ (m.fld 2).asList → 0 ≤ (x.fld 1).asInt ∧ (x.fld 1).asInt ≤ 2147483647
  ifew : ∀ x, x ∈ (m.fld 2).asList → (x.fld 2).asList.length ≤ 40
  spans : (m.fld 3).asList.length ≤ 16
  span : ∀ x, x ∈ (m.fld 3).asList → spanP 2147483647 x = true
  few : (m.fld 4).asList.length ≤ 40
noncomputable def itemT (x : PV) : List UInt8 := [32, 32] ++ ((x.fld 0).asStr ++ ([32, 61, 32] ++ (numT (x.fld 1).asInt ++ (notesT (x.fld 2).asList ++ [59, 10]))))
theorem itemT_len (x : PV) (h : OkItem x) (hf : (x.fld 2).asList.length ≤ 40) : (itemT x).length ≤ 202000000 := by
  have h1 := notesT_len _ hf h.note
  have h2 := numT_len (x.fld 1).asInt
  have h3 := h.name
  simp only [itemT, List.length_append, List.length_cons, List.length_nil]; omega
noncomputable def enumT (m : PV) : List UInt8 :=
  (bif (m.fld 1).asBool then [111, 112, 101, 110, 32] else []) ++ ([101, 110, 117, 109, 32] ++ ((m.fld 0).asStr ++ (notesT (m.fld 4).asList ++ ([32, 123, 10] ++ ((m.fld 2).asList.flatMap itemT ++ (resT spT (m.fld 3).asList ++ [125, 10]))))))
theorem enum_bounds (m : PV) (h : EnumOk m) : (notesT (m.fld 4).asList).length ≤ 200000201 ∧ ((m.fld 2).asList.flatMap itemT).length ≤ 12928000000 ∧ (resT spT (m.fld 3).asList).length ≤ 1000 := by
  have h1 := notesT_len _ h.few h.ok.note
  have h2 := flat_len itemT 202000000 (m.fld 2).asList fun x hx => itemT_len x (h.ok.item x hx) (h.ifew x hx)
  have h3 := resT_len spT 43 (m.fld 3).asList fun x _ => spT_len x
  have h5 : 202000000 * (m.fld 2).asList.length ≤ 202000000 * 64 := Nat.mul_le_mul (by omega) h.items
  have h6 : (43 + 2) * (m.fld 3).asList.length ≤ 45 * 16 := Nat.mul_le_mul (by omega) h.spans
  exact ⟨h1, by omega, by omega⟩
theorem enumT_len (m : PV) (h : EnumOk m) : (enumT m).length ≤ 20000000000 := by
  obtain ⟨h1, h2, h3⟩ := enum_bounds m h
  have h5 := h.ok.name
  unfold enumT
  cases (m.fld 1).asBool <;> simp only [cond_true, cond_false, List.length_append, List.length_cons, List.length_nil] <;> omega
theorem items_loop (m : PV) (h : EnumOk m) (b : List UInt8) (hb : b.length ≤ 20000000000000) :
    loopW (S106_7step 0) ((), (), (m.fld 2).asList, ((m.fld 2).asList.length : Int), (0 : Int), b, m) = some ((), (), b ++ (m.fld 2).asList.flatMap itemT, m) := by
  have hl := h.items
  have q := loopW_foldl (step := S106_7step 0) (fun k (b : List UInt8) => ((), (), (m.fld 2).asList, ((m.fld 2).asList.length : Int), (k : Int), b, m)) (fun b => ((), (), b, m)) (m.fld 2).asList .bad (fun b x => b ++ itemT x) (fun k b => b.length ≤ 20000000000000 + 202000000 * k) (fun k b hk hI => by
    have hm := getD_mem hk .bad
    have hx := h.ok.item _ hm
    have hf := h.ifew _ hm
    have hn := h.num _ hm
    have h1 := itemT_len _ hx hf
    have h2 := hx.name
    have h3 := notesT_len _ hf hx.note
    have h4 := numT_len (((m.fld 2).asList.getD k .bad).fld 1).asInt
    have h5 := behind_eq _ hf hx.note
    have h6 : 202000000 * k ≤ 202000000 * 64 := Nat.mul_le_mul (by omega) (by omega)
    refine ⟨?_, by simp only [List.length_append, Nat.mul_add]; omega⟩
    simp only [S106_7step, S106_7, declt, inRange_nat, hk, decide_true, cond_true, Int.toNat_natCast, h5, itoa_num hn.1 hn.2, Option.bind_some, wadd' (i := k) (by omega)]
    simp (disch := (first | omega | (simp only [List.length_append, List.length_cons, List.length_nil]; omega))) only [strOk, line1, Option.bind_some]
    simp only [itemT, List.append_assoc, List.cons_append, List.nil_append]) (fun b _ => by
    simp only [S106_7step, S106_7, declt, Nat.lt_irrefl, decide_false, cond_false]) (m.fld 2).asList.length 0 b (by omega) (by omega)
  rw [List.drop_zero, fold_app] at q
  exact q.1
theorem enum_eq (m : PV) (h : EnumOk m) (bs : List UInt8) (hb : bs.length ≤ 10000000000000) : F106 0 () m bs = some (bs ++ enumT m) := by
  obtain ⟨h1, h2, h3⟩ := enum_bounds m h
  have h5 := h.ok.name
  have b1 := behind_eq _ h.few h.ok.note
  have b2 : ∀ c : List UInt8, c.length ≤ 20000000000000 → _ := fun c hc => items_loop m h c hc
  have b3 : ∀ c : List UInt8, c.length ≤ 50000000000000 → _ := fun c hc => ranges_eq _ h.spans h.span c hc
  unfold F106 enumT
  simp only [b1, Option.bind_some, loopQ0]
  cases (m.fld 1).asBool <;> simp (disch := (first | omega | (simp only [List.length_append, List.length_cons, List.length_nil]; omega))) only [cond_true, cond_false, strOk, line0, b2, b3, Option.bind_some, List.append_assoc, List.nil_append, List.cons_append]
/- Services. -/
structure SvcOk (m : PV) : Prop where
  ok : OkSvc m
  meths : (m.fld 1).asList.length ≤ 64
  mfew : ∀ x, x ∈ (m.fld 1).asList → (x.fld 4).asList.length ≤ 40
  few : (m.fld 2).asList.length ≤ 40
def sideT (b : Bool) (s : List UInt8) : List UInt8 := bif b then [115, 116, 114, 101, 97, 109, 32] ++ s else s
noncomputable def methT (x : PV) : List UInt8 :=
  [32, 32, 114, 112, 99, 32] ++ ((x.fld 0).asStr ++ ([40] ++ (sideT (((x.fld 3).asInt == 3) || ((x.fld 3).asInt == 4)) (x.fld 1).asStr ++ ([41, 32, 114, 101, 116, 117, 114, 110, 115, 32, 40] ++ (sideT (((x.fld 3).asInt == 2) || ((x.fld 3).asInt == 4)) (x.fld 2).asStr ++ ([41] ++ (notesT (x.fld 4).asList ++ [59, 10])))))))
theorem methT_len (x : PV) (h : OkMeth x) (hf : (x.fld 4).asList.length ≤ 40) : (methT x).length ≤ 205000000 := by
  have h1 := notesT_len _ hf h.note
  have h2 := h.inn
  have h3 := h.out
  have h4 := h.name
  unfold methT sideT
  cases (((x.fld 3).asInt == 3) || ((x.fld 3).asInt == 4)) <;> cases (((x.fld 3).asInt == 2) || ((x.fld 3).asInt == 4)) <;> simp only [cond_true, cond_false, List.length_append, List.length_cons, List.length_nil] <;> omega
noncomputable def svcT (m : PV) : List UInt8 :=
  [115, 101, 114, 118, 105, 99, 101, 32] ++ ((m.fld 0).asStr ++ (notesT (m.fld 2).asList ++ ([32, 123, 10] ++ ((m.fld 1).asList.flatMap methT ++ [125, 10]))))
theorem svc_bounds (m : PV) (h : SvcOk m) : (notesT (m.fld 2).asList).length ≤ 200000201 ∧ ((m.fld 1).asList.flatMap methT).length ≤ 13120000000 := by
  have h1 := notesT_len _ h.few h.ok.note
  have h2 := flat_len methT 205000000 (m.fld 1).asList fun x hx => methT_len x (h.ok.meth x hx) (h.mfew x hx)
  have h5 : 205000000 * (m.fld 1).asList.length ≤ 205000000 * 64 := Nat.mul_le_mul (by omega) h.meths
  exact ⟨h1, by omega⟩
theorem svcT_len (m : PV) (h : SvcOk m) : (svcT m).length ≤ 20000000000 := by
  obtain ⟨h1, h2⟩ := svc_bounds m h
  have h5 := h.ok.name
  simp only [svcT, List.length_append, List.length_cons, List.length_nil]; omega
theorem meths_loop (m : PV) (h : SvcOk m) (b : List UInt8) (hb : b.length ≤ 20000000000000) :
    loopW (S108_4step 0) ((), (m.fld 1).asList, ((m.fld 1).asList.length : Int), (0 : Int), b, m) = some ((), b ++ (m.fld 1).asList.flatMap methT, m) := by
  have hl := h.meths
  have q := loopW_foldl (step := S108_4step 0) (fun k (b : List UInt8) => ((), (m.fld 1).asList, ((m.fld 1).asList.length : Int), (k : Int), b, m)) (fun b => ((), b, m)) (m.fld 1).asList .bad (fun b x => b ++ methT x) (fun k b => b.length ≤ 20000000000000 + 205000000 * k) (fun k b hk hI => by
    have hm := getD_mem hk .bad
    have hx := h.ok.meth _ hm
    have hf := h.mfew _ hm
    have h1 := methT_len _ hx hf
    have h2 := hx.name
    have h3 := notesT_len _ hf hx.note
    have h4 := hx.inn
    have h7 := hx.out
    have h5 := behind_eq _ hf hx.note
    have h6 : 205000000 * k ≤ 205000000 * 64 := Nat.mul_le_mul (by omega) (by omega)
    refine ⟨?_, by simp only [List.length_append, Nat.mul_add]; omega⟩
    simp only [S108_4step, S108_4, declt, inRange_nat, hk, decide_true, cond_true, Int.toNat_natCast, h5, Option.bind_some, wadd' (i := k) (by omega), condOr]
    unfold methT sideT
    cases (((((m.fld 1).asList.getD k .bad).fld 3).asInt == (3 : Int)) || ((((m.fld 1).asList.getD k .bad).fld 3).asInt == (4 : Int))) <;> cases (((((m.fld 1).asList.getD k .bad).fld 3).asInt == (2 : Int)) || ((((m.fld 1).asList.getD k .bad).fld 3).asInt == (4 : Int))) <;> simp (disch := (first | omega | (simp only [List.length_append, List.length_cons, List.length_nil]; omega))) only [cond_true, cond_false, strOk, line1, Option.bind_some, List.append_assoc, List.cons_append, List.nil_append]) (fun b _ => by
    simp only [S108_4step, S108_4, declt, Nat.lt_irrefl, decide_false, cond_false]) (m.fld 1).asList.length 0 b (by omega) (by omega)
  rw [List.drop_zero, fold_app] at q
  exact q.1
theorem svc_eq (m : PV) (h : SvcOk m) (bs : List UInt8) (hb : bs.length ≤ 10000000000000) : F108 0 () m bs = some (bs ++ svcT m) := by
  obtain ⟨h1, h2⟩ := svc_bounds m h
  have h5 := h.ok.name
  have b1 := behind_eq _ h.few h.ok.note
  have b2 : ∀ c : List UInt8, c.length ≤ 20000000000000 → _ := fun c hc => meths_loop m h c hc
  unfold F108 svcT
  simp only [b1, Option.bind_some, loopQ0]
  simp (disch := (first | omega | (simp only [List.length_append, List.length_cons, List.length_nil]; omega))) only [strOk, line0, b2, Option.bind_some, List.append_assoc, List.nil_append, List.cons_append]
/- Definitions one behind the other. -/
def defG (g : PV → List UInt8) (b : List UInt8) (x : PV) : List UInt8 := (bif b == [] then b else b ++ [10]) ++ g x
theorem defG_len (g : PV → List UInt8) : ∀ (l : List PV) (b : List UInt8), (∀ x, x ∈ l → (g x).length ≤ 20000000000) → (l.foldl (defG g) b).length ≤ b.length + 20000000001 * l.length := by
  intro l
  induction l with
  | nil => intro b _; simp
  | cons x r ih =>
    intro b h
    have h1 := h x (by simp)
    have h2 := ih (defG g b x) fun y hy => h y (by simp [hy])
    have h3 : (defG g b x).length ≤ b.length + 20000000001 := by
      unfold defG
      cases (b == ([] : List UInt8)) <;> simp only [cond_true, cond_false, List.length_append, List.length_cons, List.length_nil] <;> omega
    rw [List.foldl_cons]
    simp only [List.length_cons, Nat.mul_add]
    omega
theorem lenB (b : List UInt8) : decide ((b.length : Int) > (0 : Int)) = !(b == ([] : List UInt8)) := by
  cases b with
  | nil => rfl
  | cons x r => exact decide_eq_true (by simp only [List.length_cons]; omega)
theorem defs_msg (l : List PV) (hl : l.length ≤ 64) (h : ∀ x, x ∈ l → MsgOk x) (b : List UInt8) (hb : b.length ≤ 3000000000000) : F103 0 () l () b = some (l.foldl (defG msgT) b) := by
  have q := loopW_foldl (step := S103_2step 0) (fun k (b : List UInt8) => ((), (), l, (l.length : Int), (k : Int), b)) (fun b => b) l .bad (defG msgT) (fun k b => b.length ≤ 3000000000000 + 20000000001 * k) (fun k b hk hI => by
    have hx := h _ (getD_mem hk .bad)
    have h1 := msgT_len _ hx
    have h2 : ∀ c : List UInt8, c.length ≤ 10000000000000 → _ := fun c hc => msg_eq _ hx c hc
    have h6 : 20000000001 * k ≤ 20000000001 * 64 := Nat.mul_le_mul (by omega) (by omega)
    refine ⟨?_, ?_⟩
    · simp only [S103_2step, S103_2, declt, inRange_nat, hk, decide_true, cond_true, Int.toNat_natCast, LlenB, Option.bind_some, wadd' (i := k) (by omega), lenB]
      unfold defG
      cases hq : (b == ([] : List UInt8)) <;> simp (disch := (first | omega | (simp only [List.length_append, List.length_cons, List.length_nil]; omega))) only [Bool.not_true, Bool.not_false, cond_true, cond_false, wrOk, h2, Option.bind_some]
    · unfold defG
      cases (b == ([] : List UInt8)) <;> simp only [cond_true, cond_false, List.length_append, List.length_cons, List.length_nil, Nat.mul_add] <;> omega) (fun b _ => by
    simp only [S103_2step, S103_2, declt, Nat.lt_irrefl, decide_false, cond_false]) l.length 0 b (by omega) (by omega)
  rw [List.drop_zero] at q
  unfold F103
  rw [loopQ0, show (0 : Int) = ((0 : Nat) : Int) from rfl, q.1]
  rfl
theorem defs_enum (l : List PV) (hl : l.length ≤ 64) (h : ∀ x, x ∈ l → EnumOk x) (b : List UInt8) (hb : b.length ≤ 3000000000000) : F105 0 () l () b = some (l.foldl (defG enumT) b) := by
  have q := loopW_foldl (step := S105_2step 0) (fun k (b : List UInt8) => ((), (), l, (l.length : Int), (k : Int), b)) (fun b => b) l .bad (defG enumT) (fun k b => b.length ≤ 3000000000000 + 20000000001 * k) (fun k b hk hI => by
    have hx := h _ (getD_mem hk .bad)
    have h1 := enumT_len _ hx
    have h2 : ∀ c : List UInt8, c.length ≤ 10000000000000 → _ := fun c hc => enum_eq _ hx c hc
    have h6 : 20000000001 * k ≤ 20000000001 * 64 := Nat.mul_le_mul (by omega) (by omega)
    refine ⟨?_, ?_⟩
    · simp only [S105_2step, S105_2, declt, inRange_nat, hk, decide_true, cond_true, Int.toNat_natCast, LlenB, Option.bind_some, wadd' (i := k) (by omega), lenB]
      unfold defG
      cases hq : (b == ([] : List UInt8)) <;> simp (disch := (first | omega | (simp only [List.length_append, List.length_cons, List.length_nil]; omega))) only [Bool.not_true, Bool.not_false, cond_true, cond_false, wrOk, h2, Option.bind_some]
    · unfold defG
      cases (b == ([] : List UInt8)) <;> simp only [cond_true, cond_false, List.length_append, List.length_cons, List.length_nil, Nat.mul_add] <;> omega) (fun b _ => by
    simp only [S105_2step, S105_2, declt, Nat.lt_irrefl, decide_false, cond_false]) l.length 0 b (by omega) (by omega)
  rw [List.drop_zero] at q
  unfold F105
  rw [loopQ0, show (0 : Int) = ((0 : Nat) : Int) from rfl, q.1]
  rfl
theorem defs_svc (l : List PV) (hl : l.length ≤ 64) (h : ∀ x, x ∈ l → SvcOk x) (b : List UInt8) (hb : b.length ≤ 3000000000000) : F107 0 () l () b = some (l.foldl (defG svcT) b) := by
  have q := loopW_foldl (step := S107_2step 0) (fun k (b : List UInt8) => ((), (), l, (l.length : Int), (k : Int), b)) (fun b => b) l .bad (defG svcT) (fun k b => b.length ≤ 3000000000000 + 20000000001 * k) (fun k b hk hI => by
    have hx := h _ (getD_mem hk .bad)
    have h1 := svcT_len _ hx
    have h2 : ∀ c : List UInt8, c.length ≤ 10000000000000 → _ := fun c hc => svc_eq _ hx c hc
    have h6 : 20000000001 * k ≤ 20000000001 * 64 := Nat.mul_le_mul (by omega) (by omega)
    refine ⟨?_, ?_⟩
    · simp only [S107_2step, S107_2, declt, inRange_nat, hk, decide_true, cond_true, Int.toNat_natCast, LlenB, Option.bind_some, wadd' (i := k) (by omega), lenB]
      unfold defG
      cases hq : (b == ([] : List UInt8)) <;> simp (disch := (first | omega | (simp only [List.length_append, List.length_cons, List.length_nil]; omega))) only [Bool.not_true, Bool.not_false, cond_true, cond_false, wrOk, h2, Option.bind_some]
    · unfold defG
      cases (b == ([] : List UInt8)) <;> simp only [cond_true, cond_false, List.length_append, List.length_cons, List.length_nil, Nat.mul_add] <;> omega) (fun b _ => by
    simp only [S107_2step, S107_2, declt, Nat.lt_irrefl, decide_false, cond_false]) l.length 0 b (by omega) (by omega)
  rw [List.drop_zero] at q
  unfold F107
  rw [loopQ0, show (0 : Int) = ((0 : Nat) : Int) from rfl, q.1]
  rfl
/- Files. -/
structure FileOk (f : PV) : Prop where
  ok : OkFile f
  imports : (f.fld 2).asList.length ≤ 16
  msgs : (f.fld 3).asList.length ≤ 64
  msg : ∀ x, x ∈ (f.fld 3).asList → MsgOk x
  enums : (f.fld 4).asList.length ≤ 64
  enum : ∀ x, x ∈ (f.fld 4).asList → EnumOk x
  svcs : (f.fld 5).asList.length ≤ 64
  svc : ∀ x, x ∈ (f.fld 5).asList → SvcOk x
def impT (x : PV) : List UInt8 := [105, 109, 112, 111, 114, 116, 32] ++ (quote x.asStr ++ [59, 10])
theorem impT_len (x : PV) (h : x.asStr.length ≤ 1048576) : (impT x).length ≤ 4194400 := by
  have := quote_len x.asStr
  simp only [impT, List.length_append, List.length_cons, List.length_nil]; omega
theorem imports_loop (f : PV) (h : FileOk f) (b : List UInt8) (hb : b.length ≤ 10000000) :
    loopW (S34_6step 0) ((), (), (f.fld 2).asList, ((f.fld 2).asList.length : Int), (0 : Int), f, b) = some ((), (), f, b ++ (f.fld 2).asList.flatMap impT) := by
  have hl := h.imports
  have q := loopW_foldl (step := S34_6step 0) (fun k (b : List UInt8) => ((), (), (f.fld 2).asList, ((f.fld 2).asList.length : Int), (k : Int), f, b)) (fun b => ((), (), f, b)) (f.fld 2).asList .bad (fun b x => b ++ impT x) (fun k b => b.length ≤ 10000000 + 4194400 * k) (fun k b hk hI => by
    have hx := h.ok.importS _ (getD_mem hk .bad)
    have h1 := impT_len _ hx
    have h2 := quote_len ((f.fld 2).asList.getD k .bad).asStr
    have h6 : 4194400 * k ≤ 4194400 * 16 := Nat.mul_le_mul (by omega) (by omega)
    refine ⟨?_, by simp only [List.length_append, Nat.mul_add]; omega⟩
    simp only [S34_6step, S34_6, declt, inRange_nat, hk, decide_true, cond_true, Int.toNat_natCast, quote_eq _ hx, Option.bind_some, wadd' (i := k) (by omega)]
    simp (disch := (first | omega | (simp only [List.length_append, List.length_cons, List.length_nil]; omega))) only [strOk, line0, Option.bind_some]
    simp only [impT, List.append_assoc, List.cons_append, List.nil_append]) (fun b _ => by
    simp only [S34_6step, S34_6, declt, Nat.lt_irrefl, decide_false, cond_false]) (f.fld 2).asList.length 0 b (by omega) (by omega)
  rw [List.drop_zero, fold_app] at q
  exact q.1
def topT (f : PV) : List UInt8 := (bif (f.fld 1).asStr == [] then [] else [115, 112, 97, 99, 101, 32] ++ ((f.fld 1).asStr ++ [59, 10])) ++ (f.fld 2).asList.flatMap impT
theorem topT_len (f : PV) (h : FileOk f) : (topT f).length ≤ 100000000 := by
  have h1 := flat_len impT 4194400 (f.fld 2).asList fun x hx => impT_len x (h.ok.importS x hx)
  have h2 := h.ok.space
  have h6 : 4194400 * (f.fld 2).asList.length ≤ 4194400 * 16 := Nat.mul_le_mul (by omega) h.imports
  unfold topT
  cases ((f.fld 1).asStr == ([] : List UInt8)) <;> simp only [cond_true, cond_false, List.length_append, List.length_cons, List.length_nil] <;> omega
noncomputable def fileT (f : PV) : List UInt8 := (f.fld 5).asList.foldl (defG svcT) ((f.fld 4).asList.foldl (defG enumT) ((f.fld 3).asList.foldl (defG msgT) (topT f)))
theorem file_bounds (f : PV) (h : FileOk f) : (topT f).length ≤ 100000000 ∧ ((f.fld 3).asList.foldl (defG msgT) (topT f)).length ≤ 1300000000000 ∧ ((f.fld 4).asList.foldl (defG enumT) ((f.fld 3).asList.foldl (defG msgT) (topT f))).length ≤ 2600000000000 := by
  have h1 := topT_len f h
  have h2 := defG_len msgT (f.fld 3).asList (topT f) fun x hx => msgT_len x (h.msg x hx)
  have h3 := defG_len enumT (f.fld 4).asList ((f.fld 3).asList.foldl (defG msgT) (topT f)) fun x hx => enumT_len x (h.enum x hx)
  have h4 : 20000000001 * (f.fld 3).asList.length ≤ 20000000001 * 64 := Nat.mul_le_mul (by omega) h.msgs
  have h5 : 20000000001 * (f.fld 4).asList.length ≤ 20000000001 * 64 := Nat.mul_le_mul (by omega) h.enums
  exact ⟨h1, by omega, by omega⟩
theorem text_eq' (f : PV) (h : FileOk f) : F34 0 f = some (fileT f) := by
  obtain ⟨h1, h2, h3⟩ := file_bounds f h
  have h5 := h.ok.space
  have b1 : ∀ c : List UInt8, c.length ≤ 10000000 → _ := fun c hc => imports_loop f h c hc
  have b2 : F103 0 () (f.fld 3).asList () (topT f) = _ := defs_msg _ h.msgs h.msg (topT f) (by omega)
  have b3 := defs_enum _ h.enums h.enum ((f.fld 3).asList.foldl (defG msgT) (topT f)) (by omega)
  have b4 := defs_svc _ h.svcs h.svc ((f.fld 4).asList.foldl (defG enumT) ((f.fld 3).asList.foldl (defG msgT) (topT f))) (by omega)
  have et : topT f = (bif (f.fld 1).asStr == [] then [] else [115, 112, 97, 99, 101, 32] ++ ((f.fld 1).asStr ++ [59, 10])) ++ (f.fld 2).asList.flatMap impT := rfl
  unfold F34 fileT
  cases hq : ((f.fld 1).asStr == ([] : List UInt8)) with
  | true =>
    rw [hq] at et
    simp only [cond_true, List.nil_append] at et
    simp (disch := (first | omega | (simp only [List.length_append, List.length_cons, List.length_nil]; omega))) only [Bool.not_true, cond_false, loopQ0, b1, List.nil_append, Option.bind_some, ← et, b2, b3, b4, Lstring]
  | false =>
    rw [hq] at et
    simp only [cond_false, List.append_assoc, List.cons_append, List.nil_append] at et
    simp (disch := (first | omega | (simp only [List.length_append, List.length_cons, List.length_nil]; omega))) only [Bool.not_false, cond_true, strOk, line0, loopQ0, b1, Option.bind_some, List.append_assoc, List.cons_append, List.nil_append, ← et, b2, b3, b4, Lstring]
end Go.Ab
