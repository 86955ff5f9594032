/- The text of a file, definition by definition: the same in the program and the specification. -/
import Derived.Test.YtjfdnmkfjikjnaaGreatDoorPRowL
set_option linter.unusedVariables false
set_option linter.unusedSimpArgs false
set_option linter.unnecessarySimpa false
namespace Go.Ab
open Go
set_option maxRecDepth 100000
/- Lists with commas. -/
def restG (g : PV → List UInt8) : List PV → List UInt8
  | [] => []
  | x :: r => [44, 32] ++ (g x ++ restG g r)
def listG (g : PV → List UInt8) : List PV → List UInt8
  | [] => []
  | x :: r => g x ++ restG g r
theorem listG_eq (g : PV → List UInt8) (l : List PV) : ([44, 32] : List UInt8).intercalate (l.map g) = listG g l := by
  cases l with
  | nil => rfl
  | cons x r =>
    induction r generalizing x with
    | nil => simp [List.intercalate, listG, restG]
    | cons y r ih =>
      have := ih y
      rw [listG, restG]
      rw [listG, List.map_cons] at this
      rw [List.map_cons, List.map_cons]
      simp only [List.intercalate, List.intersperse_cons_cons, List.flatten_cons] at this ⊢
      rw [this]
theorem restG_len (g : PV → List UInt8) (B : Nat) : ∀ l : List PV, (∀ x, x ∈ l → (g x).length ≤ B) → (restG g l).length ≤ (B + 2) * l.length := by
  intro l
  induction l with
  | nil => intro _; simp [restG]
  | cons x r ih =>
    intro h
    have h1 := h x (by simp)
    have h2 := ih fun y hy => h y (by simp [hy])
    simp only [restG, List.length_append, List.length_cons, List.length_nil, Nat.mul_add]
    omega
theorem listG_len (g : PV → List UInt8) (B : Nat) (l : List PV) (h : ∀ x, x ∈ l → (g x).length ≤ B) : (listG g l).length ≤ (B + 2) * l.length := by
  cases l with
  | nil => simp [listG]
  | cons x r =>
    have h1 := h x (by simp)
    have h2 := restG_len g B r fun y hy => h y (by simp [hy])
    simp only [listG, List.length_append, List.length_cons, Nat.mul_add]
    omega
/-- The line of what is reserved. -/
def resT (g : PV → List UInt8) (l : List PV) : List UInt8 := bif (l.length : Int) == 0 then [] else [32, 32, 114, 101, 115, 101, 114, 118, 101, 100, 32] ++ (listG g l ++ [59, 10])
theorem resT_len (g : PV → List UInt8) (B : Nat) (l : List PV) (h : ∀ x, x ∈ l → (g x).length ≤ B) : (resT g l).length ≤ (B + 2) * l.length + 20 := by
  have := listG_len g B l h
  unfold resT
  cases ((l.length : Int) == 0) with
  | true => simp
  | false => simp only [cond_false, List.length_append, List.length_cons, List.length_nil]; omega
theorem gt0 (l : List PV) : decide ((l.length : Int) > (0 : Int)) = !((l.length : Int) == 0) := by
  cases l with
  | nil => rfl
  | cons x r =>
    have e : (((x :: r).length : Int) == (0 : Int)) = false := by rw [beq_eq_false_iff_ne]; simp only [List.length_cons]; omega
    rw [e]
    exact decide_eq_true (by simp only [List.length_cons]; omega)
theorem ljoin_eq (g : PV → List UInt8) (B : Nat) (l : List PV) (hB : B ≤ 10000000) (hl : l.length ≤ 100) (h : ∀ x, x ∈ l → (g x).length ≤ B) : Ljoin 0 (l.map fun x => PV.str (g x)) ([44, 32] : List UInt8) = some (listG g l) := by
  have hlen := listG_len g B l h
  have hm : (l.map fun x => PV.str (g x)).map PV.asStr = l.map g := by rw [List.map_map]; rfl
  have h2 : (B + 2) * l.length ≤ 10000002 * 100 := Nat.mul_le_mul (by omega) hl
  unfold Ljoin
  rw [hm, listG_eq]
  rw [show Nat.ble (l.map fun x => PV.str (g x)).length 140737488355328 = true by rw [Nat.ble_eq, List.length_map]; omega]
  rw [show Nat.ble (listG g l).length 140737488355328 = true by rw [Nat.ble_eq]; omega]
  rfl
/- Reserved ranges. -/
def spT (x : PV) : List UInt8 := numT (x.fld 0).asInt ++ (bif (x.fld 0).asInt == (x.fld 1).asInt then [] else [32, 45, 32] ++ numT (x.fld 1).asInt)
theorem decF_ne : ∀ f u, decF (f + 1) u ≠ [] := by
  intro f u
  unfold decF
  cases Nat.ble u 9 <;> simp
theorem spT_len (x : PV) : (spT x).length ≤ 43 := by
  have h1 := numT_len (x.fld 0).asInt
  have h2 := numT_len (x.fld 1).asInt
  unfold spT
  cases ((x.fld 0).asInt == (x.fld 1).asInt) <;> simp only [cond_true, cond_false, List.length_append, List.length_cons, List.length_nil] <;> omega
theorem ranges_eq (l : List PV) (hl : l.length ≤ 16) (hs : ∀ x, x ∈ l → spanP 2147483647 x = true) (bs : List UInt8) (hb : bs.length ≤ 50000000000000) : F207 0 () l bs = some (bs ++ resT spT l) := by
  have q := loopW_foldl (step := S207_3step 0) (fun k (acc : List PV) => ((), acc, l, (l.length : Int), (k : Int), bs)) (fun acc => ((), acc, bs)) l .bad (fun acc x => acc ++ [PV.str (spT x)]) (fun k acc => acc.length + (l.length - k) ≤ 10000000) (fun k acc hk hI => by
    have hx := hs _ (getD_mem hk .bad)
    unfold spanP at hx
    simp only [decide_eq_true_eq] at hx
    obtain ⟨h1, h2, h3, h4⟩ := hx
    have h5 := numT_len ((l.getD k .bad).fld 0).asInt
    have h6 := numT_len ((l.getD k .bad).fld 1).asInt
    refine ⟨?_, by simp; omega⟩
    simp only [S207_3step, S207_3, declt, inRange_nat, hk, decide_true, cond_true, Int.toNat_natCast, itoa_num h1 h2, itoa_num h3 h4, Option.bind_some, wadd' (i := k) (by omega), bne]
    unfold spT
    cases (((l.getD k .bad).fld 0).asInt == ((l.getD k .bad).fld 1).asInt) <;> simp (disch := (first | omega | (simp only [List.length_append, List.length_cons, List.length_nil]; omega))) only [cond_true, cond_false, Bool.not_true, Bool.not_false, strOk, accOk2, List.append_nil]) (fun acc _ => by
    simp only [S207_3step, S207_3, declt, Nat.lt_irrefl, decide_false, cond_false]) l.length 0 [] (by omega) (by simp; omega)
  rw [List.drop_zero, foldl_one, List.nil_append] at q
  have hlen := listG_len spT 43 l fun x _ => spT_len x
  have h2 : (43 + 2) * l.length ≤ 45 * 16 := Nat.mul_le_mul (by omega) hl
  unfold F207 resT
  rw [loopQ0, show (0 : Int) = ((0 : Nat) : Int) from rfl, q.1, Option.bind_some]
  have e : ((l.map fun x => PV.str (spT x)).length : Int) = (l.length : Int) := by rw [List.length_map]
  simp (disch := (first | omega | (simp only [List.length_append, List.length_cons, List.length_nil]; omega))) only [e, gt0, ljoin_eq spT 43 l (by omega) (by omega) fun x _ => spT_len x, Option.bind_some, strOk, line1]
  rw [show ((0 : Nat) : Int) = (0 : Int) from rfl, gt0]
  cases ((l.length : Int) == (0 : Int)) <;> simp only [Bool.not_true, Bool.not_false, cond_true, cond_false, List.append_assoc, List.append_nil, List.cons_append, List.nil_append]
/- Reserved names. -/
def goT (x : PV) : List UInt8 := quote x.asStr
theorem goT_len (x : PV) (h : x.asStr.length ≤ 1048576) : (goT x).length ≤ 4194306 := by
  have := quote_len x.asStr
  unfold goT; omega
theorem gone_loop (m : PV) (l : List PV) (hl : l.length ≤ 16) (hs : ∀ x, x ∈ l → x.asStr.length ≤ 1048576) (bs : List UInt8) : loopW (S104_21step 0) ((), [], l, (l.length : Int), (0 : Int), bs, m) = some ((), l.map (fun x => PV.str (goT x)), bs, m) := by
  have q := loopW_foldl (step := S104_21step 0) (fun k (acc : List PV) => ((), acc, l, (l.length : Int), (k : Int), bs, m)) (fun acc => ((), acc, bs, m)) l .bad (fun acc x => acc ++ [PV.str (goT x)]) (fun k acc => acc.length + (l.length - k) ≤ 10000000) (fun k acc hk hI => by
    have hx := hs _ (getD_mem hk .bad)
    have h8 : F52 0 (l.getD k .bad).asStr = some (goT (l.getD k .bad)) := quote_eq _ hx
    refine ⟨?_, by simp; omega⟩
    simp (disch := (first | omega | (simp only [List.length_append, List.length_cons, List.length_nil]; omega))) only [S104_21step, S104_21, declt, inRange_nat, hk, decide_true, cond_true, Int.toNat_natCast, h8, Option.bind_some, accOk2]
    rw [wadd' (i := k) (by omega)]) (fun acc _ => by
    simp only [S104_21step, S104_21, declt, Nat.lt_irrefl, decide_false, cond_false]) l.length 0 [] (by omega) (by simp; omega)
  rw [List.drop_zero, foldl_one, List.nil_append] at q
  exact q.1
/- Messages. -/
structure MsgOk (m : PV) : Prop where
  ok : OkMsg m
  rows : ∀ x, x ∈ (m.fld 1).asList → RowOk x
  fields : (m.fld 1).asList.length ≤ 64
  spans : (m.fld 2).asList.length ≤ 16
  span : ∀ x, x ∈ (m.fld 2).asList → spanP 2147483647 x = true
  gone : (m.fld 3).asList.length ≤ 16
  few : (m.fld 4).asList.length ≤ 40
def uT (x : PV) : List UInt8 := (x.fld 5).asStr
/-- What stands ahead of a field: the end of a union, the beginning of one, the margin. -/
def openT (u v : List UInt8) : List UInt8 :=
  (bif !(u == []) && !(v == u) then [32, 32, 125, 10] else []) ++ ((bif !(v == []) && !(v == u) then [32, 32, 117, 110, 105, 111, 110, 32] ++ (v ++ [32, 123, 10]) else []) ++ (bif v == [] then [32, 32] else [32, 32, 32, 32]))
noncomputable def stepT (u : List UInt8) (x : PV) : List UInt8 := openT u (uT x) ++ (rowT x ++ [10])
theorem stepT_len (u : List UInt8) (x : PV) (h : RowOk x) : (stepT u x).length ≤ 302000000 := by
  have h1 := rowT_len x h
  have h2 : (uT x).length ≤ 1048576 := h.ok.union
  unfold stepT openT
  cases !(u == []) && !(uT x == u) <;> cases !(uT x == []) && !(uT x == u) <;> cases uT x == [] <;> simp only [cond_true, cond_false, List.length_append, List.length_cons, List.length_nil] <;> omega
noncomputable def fieldsT : List UInt8 → List PV → List UInt8
  | _, [] => []
  | u, x :: r => stepT u x ++ fieldsT (uT x) r
def lastU : List UInt8 → List PV → List UInt8
  | u, [] => u
  | _, x :: r => lastU (uT x) r
theorem fieldsT_fold : ∀ (l : List PV) (b u : List UInt8), l.foldl (fun (p : List UInt8 × List UInt8) x => (p.1 ++ stepT p.2 x, uT x)) (b, u) = (b ++ fieldsT u l, lastU u l) := by
  intro l
  induction l with
  | nil => intro b u; simp [fieldsT, lastU]
  | cons x r ih => intro b u; rw [List.foldl_cons, ih]; simp [fieldsT, lastU]
theorem fieldsT_len : ∀ (l : List PV) (u : List UInt8), (∀ x, x ∈ l → RowOk x) → (fieldsT u l).length ≤ 302000000 * l.length := by
  intro l
  induction l with
  | nil => intro u _; simp [fieldsT]
  | cons x r ih =>
    intro u h
    have h1 := stepT_len u x (h x (by simp))
    have h2 := ih (uT x) fun y hy => h y (by simp [hy])
    simp only [fieldsT, List.length_append, List.length_cons, Nat.mul_add]
    omega
theorem fields_loop (m : PV) (l : List PV) (hl : l.length ≤ 64) (hr : ∀ x, x ∈ l → RowOk x) (b : List UInt8) (hb : b.length ≤ 20000000000000) :
    loopW (S104_5step 0) ((), (), ([] : List UInt8), l, (l.length : Int), (0 : Int), b, m) = some ((), (), lastU [] l, b ++ fieldsT [] l, m) := by
  have q := loopW_foldl (step := S104_5step 0) (fun k (p : List UInt8 × List UInt8) => ((), (), p.2, l, (l.length : Int), (k : Int), p.1, m)) (fun p => ((), (), p.2, p.1, m)) l .bad (fun (p : List UInt8 × List UInt8) x => (p.1 ++ stepT p.2 x, uT x)) (fun k p => p.1.length ≤ 20000000000000 + 302000000 * k) (fun k p hk hI => by
    have hx := hr _ (getD_mem hk .bad)
    have h1 := rowT_len _ hx
    have h2 : (uT (l.getD k .bad)).length ≤ 1048576 := hx.ok.union
    have h3 := stepT_len p.2 _ hx
    have h4 : ((l.getD k .bad).fld 5).asStr = uT (l.getD k .bad) := rfl
    have h5 := row_eq _ hx
    have h6 : 302000000 * k ≤ 302000000 * 64 := Nat.mul_le_mul (by omega) (by omega)
    refine ⟨?_, by simp only [List.length_append, Nat.mul_add]; omega⟩
    simp only [S104_5step, S104_5, declt, inRange_nat, hk, decide_true, cond_true, Int.toNat_natCast, h4, h5, Option.bind_some, wadd' (i := k) (by omega)]
    unfold stepT openT
    generalize rowT (l.getD k .bad) = t at *
    generalize uT (l.getD k .bad) = v at *
    generalize p.2 = u at *
    generalize p.1 = c at *
    cases (u == ([] : List UInt8)) <;> cases (v == u) <;> cases (v == ([] : List UInt8)) <;> simp (disch := (first | omega | (simp only [List.length_append, List.length_cons, List.length_nil]; omega))) only [Bool.not_true, Bool.not_false, Bool.and_true, Bool.and_false, Bool.true_and, Bool.false_and, cond_true, cond_false, strOk, line1, line2, Option.bind_some, List.append_assoc, List.nil_append, List.cons_append]) (fun p _ => by
    simp only [S104_5step, S104_5, declt, Nat.lt_irrefl, decide_false, cond_false]) l.length 0 (b, []) (by omega) (by simp; omega)
  rw [List.drop_zero, fieldsT_fold] at q
  exact q.1
noncomputable def msgT (m : PV) : List UInt8 :=
  [109, 101, 115, 115, 97, 103, 101, 32] ++ ((m.fld 0).asStr ++ (notesT (m.fld 4).asList ++ ([32, 123, 10] ++ (fieldsT [] (m.fld 1).asList ++ ((bif lastU [] (m.fld 1).asList == [] then [] else [32, 32, 125, 10]) ++ (resT spT (m.fld 2).asList ++ (resT goT (m.fld 3).asList ++ [125, 10])))))))
theorem msg_bounds (m : PV) (h : MsgOk m) : (notesT (m.fld 4).asList).length ≤ 200000201 ∧ (fieldsT [] (m.fld 1).asList).length ≤ 19328000000 ∧ (resT spT (m.fld 2).asList).length ≤ 1000 ∧ (resT goT (m.fld 3).asList).length ≤ 70000000 := by
  have h1 := notesT_len _ h.few h.ok.note
  have h2 := fieldsT_len _ [] h.rows
  have h3 := resT_len spT 43 (m.fld 2).asList fun x _ => spT_len x
  have h4 := resT_len goT 4194306 (m.fld 3).asList fun x hx => goT_len x (h.ok.goneS x hx)
  have h5 : 302000000 * (m.fld 1).asList.length ≤ 302000000 * 64 := Nat.mul_le_mul (by omega) h.fields
  have h6 : (43 + 2) * (m.fld 2).asList.length ≤ 45 * 16 := Nat.mul_le_mul (by omega) h.spans
  have h7 : (4194306 + 2) * (m.fld 3).asList.length ≤ 4194308 * 16 := Nat.mul_le_mul (by omega) h.gone
  refine ⟨h1, by omega, by omega, by omega⟩
theorem msgT_len (m : PV) (h : MsgOk m) : (msgT m).length ≤ 20000000000 := by
  obtain ⟨h1, h2, h3, h4⟩ := msg_bounds m h
  have h5 := h.ok.name
  unfold msgT
  cases lastU [] (m.fld 1).asList == [] <;> simp only [cond_true, cond_false, List.length_append, List.length_cons, List.length_nil] <;> omega
theorem msg_eq (m : PV) (h : MsgOk m) (bs : List UInt8) (hb : bs.length ≤ 10000000000000) : F104 0 () m bs = some (bs ++ msgT m) := by
  obtain ⟨h1, h2, h3, h4⟩ := msg_bounds m h
  have h5 := h.ok.name
  have b1 := behind_eq _ h.few h.ok.note
  have b2 : ∀ c : List UInt8, c.length ≤ 20000000000000 → _ := fun c hc => fields_loop m _ h.fields h.rows c hc
  have b3 : ∀ c : List UInt8, c.length ≤ 50000000000000 → _ := fun c hc => ranges_eq _ h.spans h.span c hc
  have b4 := gone_loop m _ h.gone h.ok.goneS
  have b5 := ljoin_eq goT 4194306 (m.fld 3).asList (by omega) (by have := h.gone; omega) fun x hx => goT_len x (h.ok.goneS x hx)
  have b6 := listG_len goT 4194306 (m.fld 3).asList fun x hx => goT_len x (h.ok.goneS x hx)
  have b7 : (4194306 + 2) * (m.fld 3).asList.length ≤ 4194308 * 16 := Nat.mul_le_mul (by omega) h.gone
  have e : (((m.fld 3).asList.map fun x => PV.str (goT x)).length : Int) = ((m.fld 3).asList.length : Int) := by rw [List.length_map]
  have eg : resT goT (m.fld 3).asList = bif ((m.fld 3).asList.length : Int) == 0 then [] else [32, 32, 114, 101, 115, 101, 114, 118, 101, 100, 32] ++ (listG goT (m.fld 3).asList ++ [59, 10]) := rfl
  unfold F104 msgT
  simp (disch := (first | omega | (simp only [List.length_append, List.length_cons, List.length_nil]; omega))) only [b1, strOk, Option.bind_some, line0, loopQ0, b2]
  cases lastU [] (m.fld 1).asList == ([] : List UInt8) with
  | true =>
    simp (disch := (first | omega | (simp only [List.length_append, List.length_cons, List.length_nil]; omega))) only [Bool.not_true, cond_false, cond_true, b3, b4, Option.bind_some, loopQ0, e, gt0]
    rw [eg]
    cases (((m.fld 3).asList.length : Int) == (0 : Int)) <;> simp (disch := (first | omega | (simp only [List.length_append, List.length_cons, List.length_nil]; omega))) only [Bool.not_true, Bool.not_false, cond_false, cond_true, b5, strOk, line0, line1, Option.bind_some, List.append_assoc, List.nil_append, List.cons_append]
  | false =>
    simp (disch := (first | omega | (simp only [List.length_append, List.length_cons, List.length_nil]; omega))) only [Bool.not_false, cond_false, cond_true, line1, b3, b4, Option.bind_some, loopQ0, e, gt0]
    rw [eg]
    cases (((m.fld 3).asList.length : Int) == (0 : Int)) <;> simp (disch := (first | omega | (simp only [List.length_append, List.length_cons, List.length_nil]; omega))) only [Bool.not_true, Bool.not_false, cond_false, cond_true, b5, strOk, line0, line1, Option.bind_some, List.append_assoc, List.nil_append, List.cons_append]
end Go.Ab
