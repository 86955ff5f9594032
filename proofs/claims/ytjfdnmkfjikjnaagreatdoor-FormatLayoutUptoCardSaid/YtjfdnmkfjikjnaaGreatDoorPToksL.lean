/- What is printed is written token by token. -/
import Derived.Test.YtjfdnmkfjikjnaaGreatDoorPScanL
import Derived.Test.YtjfdnmkfjikjnaaGreatDoorPReadL
set_option linter.unusedVariables false
set_option linter.unusedSimpArgs false
set_option linter.unnecessarySimpa false
namespace Go.Ab
open Go
set_option maxRecDepth 100000
/- Beginnings and ends. -/
theorem tk_sp {s : List UInt8} (h : Toks s) : Toks (32 :: s) := .sp (Or.inl rfl) h
theorem tk_nl {s : List UInt8} (h : Toks s) : Toks (10 :: s) := .sp (Or.inr rfl) h
theorem tk_sign (c : UInt8) (hc : signC c = true) {s : List UInt8} (h : Toks s) : Toks (c :: s) := .tok (t := [c]) (.sign hc) h
theorem endN_cons {c : UInt8} {r : List UInt8} (h : alnB c = false) (h2 : c ≠ 46) : endN (c :: r) := fun d q e => by cases e; exact ⟨h, h2⟩
theorem endI_cons {c : UInt8} {r : List UInt8} (h : alnB c = false) : endI (c :: r) := fun d q e => by cases e; exact h
theorem partP_full {s : List UInt8} (h : partP s = true) : fullP s = true := by
  have hs : splitP 46 s = [s] := by
    have key : ∀ t : List UInt8, (∀ c, c ∈ t → alnB c = true) → splitP 46 t = [t] := by
      intro t
      induction t with
      | nil => intro _; rfl
      | cons b r ih =>
        intro ht
        have hb : (b == 46) = false := by
          rw [beq_eq_false_iff_ne]
          rintro rfl
          exact absurd (ht 46 (by simp)) (by decide)
        simp only [splitP, hb, cond_false, ih fun c hc => ht c (by simp [hc])]
    exact key s (part_chars h)
  have hl : s.length ≤ 120 := by
    unfold partP at h
    cases s with
    | nil => simp
    | cons c r =>
      simp only [Bool.and_eq_true, decide_eq_true_eq] at h
      simp only [List.length_cons]
      have := h.1.1
      omega
  unfold fullP
  rw [hs]
  simp [hl, h]
theorem full_type {s : List UInt8} (h : fullP s = true) : typeP s = true := by
  obtain ⟨c, r, rfl, hc⟩ := full_first h
  have h46 : (c == 46) = false := by
    rw [beq_eq_false_iff_ne]
    rintro rfl
    exact absurd hc (by decide)
  show (bif c == 46 then fullP r else fullP (c :: r)) = true
  rw [h46]
  exact h
theorem simp_type {s : List UInt8} (h : simpP s = true) : typeP s = true := by
  unfold simpP at h
  simp only [Bool.and_eq_true] at h
  exact full_type (partP_full h.1)
theorem def_type {s : List UInt8} (h : defP s = true) : typeP s = true := by
  unfold defP at h
  simp only [Bool.and_eq_true] at h
  exact full_type h.1
theorem tk_name {t s : List UInt8} (h : typeP t = true) (he : endN s) (hs : Toks s) : Toks (t ++ s) := .tok (.name h he) hs
theorem tk_num {n : Int} (h0 : 0 ≤ n) (h1 : n ≤ 2147483647) {s : List UInt8} (he : endI s) (hs : Toks s) : Toks (numT n ++ s) := .tok (.int (u := n.toNat) (by omega) he) hs
theorem tk_quote {t s : List UInt8} (h : t.length ≤ 1048576) (hs : Toks s) : Toks (quote t ++ s) := .tok (.text h) hs
/- Values. -/
theorem itoa_toks {n : Int} (h0 : -9223372036854775808 ≤ n) (h1 : n ≤ 9223372036854775807) {s : List UInt8} (he : endI s) (hs : Toks s) : Toks (itoaB n ++ s) := by
  unfold itoaB
  by_cases h : n < 0
  · rw [decide_eq_true h]
    exact tk_sign 45 (by decide) (.tok (.int (u := n.natAbs) (by omega) he) hs)
  · rw [decide_eq_false h]
    exact .tok (.int (u := n.toNat) (by omega) he) hs
theorem kw_type : ∀ {k : Int}, plainK k = true → typeP (kw k) = true := by
  intro k h
  unfold plainK at h
  simp only [Bool.and_eq_true, decide_eq_true_eq] at h
  rcases kind8 h.1 h.2 with rfl | rfl | rfl | rfl | rfl | rfl | rfl | rfl <;> (unfold kw; kernel_rfl)
theorem type_type {t : PV} (h : TyOk t) : typeP (typeT t) = true := by
  rcases typeT_form h with ⟨h1, _, h3⟩ | ⟨_, h2, _, h3⟩
  · rw [h3]; exact kw_type h1
  · rw [h3]; exact h2
theorem endN_I {s : List UInt8} (h : endN s) : endI s := fun c r e => (h c r e).1
theorem textV_toks {k : Int} (hk : k = 1 ∨ k = 2 ∨ k = 3 ∨ k = 4 ∨ k = 5 ∨ k = 7) {v : PV} (sv : smallV v) (hv : fitsV k v = true) {s : List UInt8} (he : endN s) (hs : Toks s) : Toks (textV v ++ s) := by
  rw [textV_of hv]
  obtain ⟨_, hl, b0, b1⟩ := sv
  have wr : -9223372036854775808 ≤ IntKind.wrap .i64 (vBits v) ∧ IntKind.wrap .i64 (vBits v) ≤ 9223372036854775807 := by rw [IntKind.wrap_i64]; omega
  rcases hk with rfl | rfl | rfl | rfl | rfl | rfl
  · show Toks ((bif vBits v == 1 then [116, 114, 117, 101] else [102, 97, 108, 115, 101]) ++ s)
    cases (vBits v == 1) with
    | true => exact tk_name (t := [116, 114, 117, 101]) (by decide) he hs
    | false => exact tk_name (t := [102, 97, 108, 115, 101]) (by decide) he hs
  · exact itoa_toks wr.1 wr.2 (endN_I he) hs
  · exact itoa_toks wr.1 wr.2 (endN_I he) hs
  · exact .tok (.int (u := (vBits v).toNat) (by omega) (endN_I he)) hs
  · exact .tok (.int (u := (vBits v).toNat) (by omega) (endN_I he)) hs
  · exact tk_quote hl hs
theorem lit_toks {k : Int} (hk1 : 1 ≤ k) (hk8 : k ≤ 8) {v : PV} (sv : smallV v) (hv : fitsV k v = true) {s : List UInt8} (he : endN s) (hs : Toks s) : Toks (litT v ++ s) := by
  rw [litT_of hv (by omega)]
  by_cases h68 : k = 6 ∨ k = 8
  · have e : ((k == 6) || (k == 8)) = true := by rcases h68 with rfl | rfl <;> rfl
    rw [e]
    have hk := (fits_facts hv).1
    refine tk_quote ?_ hs
    have := textW68 sv (by rw [hk]; exact hv) (by rw [hk]; exact e)
    omega
  · have e : ((k == 6) || (k == 8)) = false := by
      rw [beqI (show k ≠ 6 by omega), beqI (show k ≠ 8 by omega)]; rfl
    rw [e, textW_of hv, beqI (show k ≠ 6 by omega), beqI (show k ≠ 8 by omega)]
    exact textV_toks (by omega) sv hv he hs
/- Annotations. -/
theorem known_types : (knownNames.all typeP) = true := by kernel_rfl
theorem note_toks {n : PV} (hn : rightN n = true) (sn : smallN n) {s : List UInt8} (he : endN s) (hs : Toks s) : Toks (textN n ++ s) := by
  obtain ⟨n1, n2⟩ := right_known hn
  have hk := List.all_eq_true.1 known_kinds _ n1
  simp only [Bool.or_eq_true, beq_iff_eq] at hk
  unfold textN
  simp only [List.append_assoc, List.cons_append, List.nil_append]
  exact tk_name (List.all_eq_true.1 known_types _ n1) (endN_cons (by decide) (by decide)) (tk_sp (tk_sign 61 (by decide) (tk_sp (textV_toks (by omega) sn.1 n2 he hs))))
theorem rest_toks : ∀ l : List PV, l.all rightN = true → (∀ n, n ∈ l → smallN n) → ∀ {s : List UInt8}, Toks s → Toks (restT l ++ 93 :: s) := by
  intro l
  induction l with
  | nil => intro _ _ s hs; exact tk_sign 93 (by decide) hs
  | cons a l ih =>
    intro hl sl s hs
    simp only [List.all_cons, Bool.and_eq_true] at hl
    simp only [restT, List.append_assoc, List.cons_append, List.nil_append]
    have he : endN (restT l ++ 93 :: s) := by
      cases l with
      | nil => exact endN_cons (by decide) (by decide)
      | cons y q => exact endN_cons (by decide) (by decide)
    exact tk_sign 44 (by decide) (tk_sp (note_toks hl.1 (sl a (by simp)) he (ih hl.2 (fun n hn => sl n (by simp [hn])) hs)))
theorem notes_toks {l : List PV} (hl : l.all rightN = true) (sl : ∀ n, n ∈ l → smallN n) {s : List UInt8} (hs : Toks s) : Toks (notesT l ++ s) := by
  cases l with
  | nil => exact hs
  | cons a l =>
    have h0 : (((a :: l).length : Int) == (0 : Int)) = false := by rw [beq_eq_false_iff_ne]; simp only [List.length_cons]; omega
    have e : notesT (a :: l) ++ s = 32 :: 91 :: (textN a ++ (restT l ++ 93 :: s)) := by
      unfold notesT
      rw [h0, show textL (a :: l) = bif (a :: l).all rightN then [91] ++ (textN a ++ restT l) ++ [93] else [] from rfl, hl]
      simp
    simp only [List.all_cons, Bool.and_eq_true] at hl
    have he : endN (restT l ++ 93 :: s) := by
      cases l with
      | nil => exact endN_cons (by decide) (by decide)
      | cons y q => exact endN_cons (by decide) (by decide)
    rw [e]
    exact tk_sp (tk_sign 91 (by decide) (note_toks hl.1 (sl a (by simp)) he (rest_toks l hl.2 (fun n hn => sl n (by simp [hn])) hs)))
theorem notes_endN (l : List PV) {c : UInt8} (hc : alnB c = false) (h46 : c ≠ 46) (s : List UInt8) : endN (notesT l ++ c :: s) := by
  unfold notesT
  cases ((l.length : Int) == 0) with
  | true => exact endN_cons hc h46
  | false => exact endN_cons (by decide) (by decide)
/- Rows. -/
theorem tk_word (w : List UInt8) (hw : typeP w = true) {s : List UInt8} (hs : Toks s) : Toks (w ++ 32 :: s) := tk_name hw (endN_cons (by decide) (by decide)) (tk_sp hs)
theorem card_toks (c : Int) {s : List UInt8} (hs : Toks s) : Toks (cardT c ++ s) := by
  unfold cardT
  cases (c == 1) <;> cases (c == 2) <;> cases (c == 3) <;> simp only [cond_true, cond_false]
  all_goals first
    | exact tk_word [114, 101, 113, 117, 105, 114, 101, 100] (by decide) hs
    | exact tk_word [111, 112, 116, 105, 111, 110, 97, 108] (by decide) hs
    | exact tk_word [112, 108, 97, 105, 110] (by decide) hs
    | exact tk_word [108, 105, 115, 116] (by decide) hs
theorem head_toks {x : PV} (g : RowGood x) {s : List UInt8} (hs : Toks s) : Toks (headT x ++ 32 :: s) := by
  have ht := type_type g.type
  have hty : Toks (typeT (x.fld 4) ++ 32 :: s) := tk_word _ ht hs
  unfold headT
  by_cases h5 : (x.fld 2).asInt = 5
  · have hk := key5 (by have := g.key; rw [h5] at this; exact this)
    rw [h5]
    show Toks (([109, 97, 112, 60] ++ (kw (x.fld 3).asInt ++ ([44, 32] ++ (typeT (x.fld 4) ++ [62])))) ++ 32 :: s)
    simp only [List.append_assoc, List.cons_append, List.nil_append]
    exact tk_name (t := [109, 97, 112]) (by decide) (endN_cons (by decide) (by decide)) (tk_sign 60 (by decide) (tk_name (kw_type hk) (endN_cons (by decide) (by decide)) (tk_sign 44 (by decide) (tk_sp (tk_name ht (endN_cons (by decide) (by decide)) (tk_sign 62 (by decide) (tk_sp hs)))))))
  · rw [beqI h5]
    cases ((x.fld 5).asStr == ([] : List UInt8)) with
    | true => simp only [cond_false, cond_true, List.append_assoc]; exact card_toks _ hty
    | false => simp only [cond_false]; exact hty
theorem dflt_toks {x : PV} (g : RowGood x) (h6 : (x.fld 6).asBool = true) {s : List UInt8} (he : endN s) (hs : Toks s) : Toks (litT (x.fld 7) ++ s) := by
  have hr := g.right
  unfold rightF at hr
  rw [h6] at hr
  simp only [Bool.not_true, cond_false] at hr
  cases h5 : ((x.fld 2).asInt == 5) with
  | true => rw [h5] at hr; cases hr
  | false =>
    rw [h5] at hr
    simp only [cond_false] at hr
    cases h0 : (((x.fld 4).fld 0).asInt == 0) with
    | true =>
      rw [h0] at hr
      have hr : itemV (x.fld 7) = true := hr
      have e : litT (x.fld 7) = vText (x.fld 7) := by unfold litT; rw [hr]; rfl
      unfold itemV at hr
      simp only [Bool.and_eq_true] at hr
      rw [e]
      exact tk_name (simp_type hr.1.1.2) he hs
    | false =>
      rw [h0] at hr
      simp only [cond_false, Bool.and_eq_true] at hr
      have hk := g.type
      have kne : ((x.fld 4).fld 0).asInt ≠ 0 := by intro q; rw [q] at h0; cases h0
      exact lit_toks (by have := hk.2.1; omega) hk.2.2 g.ok.ok.dflt hr.1 he hs
theorem row_toks {x : PV} (g : RowGood x) {s : List UInt8} (hs : Toks s) : Toks (rowT x ++ s) := by
  have ok := g.ok
  have hn : Toks (notesT (x.fld 8).asList ++ 59 :: s) := notes_toks g.nt ok.ok.note (tk_sign 59 (by decide) hs)
  have he : endN (notesT (x.fld 8).asList ++ 59 :: s) := notes_endN _ (by decide) (by decide) _
  have hd : Toks ((bif (x.fld 6).asBool then [32, 100, 101, 102, 97, 117, 108, 116, 32] ++ litT (x.fld 7) else []) ++ (notesT (x.fld 8).asList ++ 59 :: s)) := by
    cases h6 : (x.fld 6).asBool with
    | true =>
      simp only [cond_true, List.append_assoc, List.cons_append, List.nil_append]
      exact tk_sp (tk_word [100, 101, 102, 97, 117, 108, 116] (by decide) (dflt_toks g h6 he hn))
    | false => exact hn
  have hi : endI ((bif (x.fld 6).asBool then [32, 100, 101, 102, 97, 117, 108, 116, 32] ++ litT (x.fld 7) else []) ++ (notesT (x.fld 8).asList ++ 59 :: s)) := by
    cases (x.fld 6).asBool with
    | true => exact endI_cons (by decide)
    | false => exact endN_I he
  unfold rowT
  simp only [List.append_assoc, List.cons_append, List.nil_append]
  exact head_toks g (tk_name (simp_type g.name) (endN_cons (by decide) (by decide)) (tk_sp (tk_sign 61 (by decide) (tk_sp (tk_num ok.num0 (by have := ok.num1; omega) hi hd)))))
theorem step_toks (u : List UInt8) {x : PV} (g : RowGood x) {s : List UInt8} (hs : Toks s) : Toks (stepT u x ++ s) := by
  have hr : Toks (rowT x ++ (10 :: s)) := row_toks g (tk_nl hs)
  have h0 : Toks (stepT [] x ++ s) := by
    rw [step_0]
    cases hu : (uT x == ([] : List UInt8)) with
    | true =>
      simp only [cond_true, List.append_assoc, List.cons_append, List.nil_append]
      exact tk_sp (tk_sp hr)
    | false =>
      have nu : uT x ≠ [] := by simpa using hu
      simp only [cond_false, List.append_assoc, List.cons_append, List.nil_append]
      exact tk_sp (tk_sp (tk_word [117, 110, 105, 111, 110] (by decide) (tk_word _ (simp_type (g.union nu)) (tk_sign 123 (by decide) (tk_nl (tk_sp (tk_sp (tk_sp (tk_sp hr)))))))))
  by_cases hu : u = []
  · subst hu; exact h0
  · by_cases hx : uT x = u
    · rw [step_same hu hx]
      simp only [List.append_assoc, List.cons_append, List.nil_append]
      exact tk_sp (tk_sp (tk_sp (tk_sp hr)))
    · rw [step_new hu hx]
      simp only [List.append_assoc, List.cons_append, List.nil_append]
      exact tk_sp (tk_sp (tk_sign 125 (by decide) (tk_nl h0)))
theorem fields_toks : ∀ (l : List PV) (u : List UInt8), (∀ x, x ∈ l → RowGood x) → ∀ {s : List UInt8}, Toks s → Toks (fieldsT u l ++ s) := by
  intro l
  induction l with
  | nil => intro u _ s hs; exact hs
  | cons x l ih =>
    intro u hl s hs
    simp only [fieldsT, List.append_assoc]
    exact step_toks u (hl x (by simp)) (ih _ (fun z hz => hl z (by simp [hz])) hs)
theorem clo_toks (u : List UInt8) {s : List UInt8} (hs : Toks s) : Toks (clo u ++ s) := by
  unfold clo
  cases (u == ([] : List UInt8)) with
  | true => exact hs
  | false => exact tk_sp (tk_sp (tk_sign 125 (by decide) (tk_nl hs)))
/- Lists with commas. -/
theorem restG_toks {g : PV → List UInt8} {P : PV → Prop} (hg : ∀ x, P x → ∀ {s : List UInt8}, endN s → Toks s → Toks (g x ++ s)) : ∀ l : List PV, (∀ x, x ∈ l → P x) → ∀ {s : List UInt8}, Toks s → Toks (restG g l ++ 59 :: s) := by
  intro l
  induction l with
  | nil => intro _ s hs; exact tk_sign 59 (by decide) hs
  | cons x l ih =>
    intro hl s hs
    simp only [restG, List.append_assoc, List.cons_append, List.nil_append]
    have he : endN (restG g l ++ 59 :: s) := by
      cases l with
      | nil => exact endN_cons (by decide) (by decide)
      | cons y q => exact endN_cons (by decide) (by decide)
    exact tk_sign 44 (by decide) (tk_sp (hg x (hl x (by simp)) he (ih (fun z hz => hl z (by simp [hz])) hs)))
theorem res_toks {g : PV → List UInt8} {P : PV → Prop} (hg : ∀ x, P x → ∀ {s : List UInt8}, endN s → Toks s → Toks (g x ++ s)) (l : List PV) (hl : ∀ x, x ∈ l → P x) {s : List UInt8} (hs : Toks s) : Toks (resT g l ++ s) := by
  cases l with
  | nil => exact hs
  | cons x l =>
    rw [resT_cons]
    have he : endN (restG g l ++ 59 :: 10 :: s) := by
      cases l with
      | nil => exact endN_cons (by decide) (by decide)
      | cons y q => exact endN_cons (by decide) (by decide)
    exact tk_sp (tk_sp (tk_word resN (by decide) (hg x (hl x (by simp)) he (restG_toks hg l (fun z hz => hl z (by simp [hz])) (tk_nl hs)))))
theorem sp_toks (x : PV) (hx : SpP x) {s : List UInt8} (he : endN s) (hs : Toks s) : Toks (spT x ++ s) := by
  obtain ⟨x0, x1, x2, x3⟩ := hx.nums
  unfold spT
  rw [List.append_assoc]
  cases ((x.fld 0).asInt == (x.fld 1).asInt) with
  | true => exact tk_num x0 x1 (endN_I he) hs
  | false =>
    simp only [cond_false, List.append_assoc, List.cons_append, List.nil_append]
    exact tk_num x0 x1 (endI_cons (by decide)) (tk_sp (tk_sign 45 (by decide) (tk_sp (tk_num x2 x3 (endN_I he) hs))))
/- Definitions. -/
theorem open_toks {nm : List UInt8} (hn : typeP nm = true) {l : List PV} (hl : l.all rightN = true) (sl : ∀ n, n ∈ l → smallN n) {s : List UInt8} (hs : Toks s) : Toks (nm ++ (notesT l ++ 32 :: 123 :: 10 :: s)) :=
  tk_name hn (notes_endN l (by decide) (by decide) _) (notes_toks hl sl (tk_sp (tk_sign 123 (by decide) (tk_nl hs))))
theorem close_toks {s : List UInt8} (hs : Toks s) : Toks (125 :: 10 :: s) := tk_sign 125 (by decide) (tk_nl hs)
theorem msg_toks {m : PV} (g : MsgGood m) {s : List UInt8} (hs : Toks s) : Toks (msgT m ++ s) := by
  rw [msgT_form]
  exact tk_word [109, 101, 115, 115, 97, 103, 101] (by decide) (open_toks (def_type g.nm) g.nt g.ok.ok.note (fields_toks _ _ g.rows (clo_toks _ (res_toks sp_toks _ g.ok.span (res_toks (P := fun x => x.asStr.length ≤ 1048576) (fun x hx _ _ hs => tk_quote hx hs) _ g.ok.ok.goneS (close_toks hs))))))
theorem flat_toks {g : PV → List UInt8} {P : PV → Prop} (hg : ∀ x, P x → ∀ {s : List UInt8}, Toks s → Toks (g x ++ s)) : ∀ l : List PV, (∀ x, x ∈ l → P x) → ∀ {s : List UInt8}, Toks s → Toks (l.flatMap g ++ s) := by
  intro l
  induction l with
  | nil => intro _ s hs; exact hs
  | cons x l ih =>
    intro hl s hs
    rw [List.flatMap_cons, List.append_assoc]
    exact hg x (hl x (by simp)) (ih (fun z hz => hl z (by simp [hz])) hs)
theorem item_toks (x : PV) (g : ItemGood x) {s : List UInt8} (hs : Toks s) : Toks (itemT x ++ s) := by
  rw [itemT_form]
  exact tk_sp (tk_sp (tk_name (simp_type g.nm) (endN_cons (by decide) (by decide)) (tk_sp (tk_sign 61 (by decide) (tk_sp (tk_num g.num0 g.num1 (endN_I (notes_endN _ (by decide) (by decide) _)) (notes_toks g.nt g.ok.note (tk_sign 59 (by decide) (tk_nl hs)))))))))
theorem enum_toks {m : PV} (g : EnumGood m) {s : List UInt8} (hs : Toks s) : Toks (enumT m ++ s) := by
  rw [enumT_form]
  have h : Toks ([101, 110, 117, 109, 32] ++ ((m.fld 0).asStr ++ (notesT (m.fld 4).asList ++ 32 :: 123 :: 10 :: ((m.fld 2).asList.flatMap itemT ++ (resT spT (m.fld 3).asList ++ 125 :: 10 :: s))))) :=
    tk_word [101, 110, 117, 109] (by decide) (open_toks (def_type g.nm) g.nt g.ok.ok.note (flat_toks item_toks _ g.items (res_toks sp_toks _ g.ok.span (close_toks hs))))
  cases (m.fld 1).asBool with
  | true => exact tk_word [111, 112, 101, 110] (by decide) h
  | false => exact h
theorem side_toks (b : Bool) {t : List UInt8} (ht : typeP t = true) {s : List UInt8} (hs : Toks s) : Toks (sideT b t ++ 41 :: s) := by
  have h : Toks (t ++ 41 :: s) := tk_name ht (endN_cons (by decide) (by decide)) (tk_sign 41 (by decide) hs)
  unfold sideT
  cases b with
  | true => exact tk_word [115, 116, 114, 101, 97, 109] (by decide) h
  | false => exact h
theorem meth_toks (x : PV) (g : MethGood x) {s : List UInt8} (hs : Toks s) : Toks (methT x ++ s) := by
  obtain ⟨h0, h1, h2, _, _⟩ := g.parts
  rw [methT_form]
  simp only [List.cons_append, List.nil_append]
  exact tk_sp (tk_sp (tk_word [114, 112, 99] (by decide) (tk_name (simp_type h0) (endN_cons (by decide) (by decide)) (tk_sign 40 (by decide) (side_toks _ h1 (tk_sp (tk_word [114, 101, 116, 117, 114, 110, 115] (by decide) (tk_sign 40 (by decide) (side_toks _ h2 (notes_toks g.nt g.ok.note (tk_sign 59 (by decide) (tk_nl hs))))))))))))
theorem svc_toks {m : PV} (g : SvcGood m) {s : List UInt8} (hs : Toks s) : Toks (svcT m ++ s) := by
  rw [svcT_form]
  exact tk_word [115, 101, 114, 118, 105, 99, 101] (by decide) (open_toks (def_type g.nm) g.nt g.ok.ok.note (flat_toks meth_toks _ g.meths (close_toks hs)))
/- Files. -/
theorem tail_toks {f : PV} (g : FileGood f) : Toks (tailT f) := by
  unfold tailT
  rw [← List.append_nil ((f.fld 5).asList.flatMap (nl svcT))]
  exact flat_toks (g := nl msgT) (P := MsgGood) (fun x hx _ hs => tk_nl (msg_toks hx hs)) _ g.msg (flat_toks (g := nl enumT) (P := EnumGood) (fun x hx _ hs => tk_nl (enum_toks hx hs)) _ g.enum (flat_toks (g := nl svcT) (P := SvcGood) (fun x hx _ hs => tk_nl (svc_toks hx hs)) _ g.svc .nil))
theorem top_toks {f : PV} (g : FileGood f) {s : List UInt8} (hs : Toks s) : Toks (topT f ++ s) := by
  have hi : Toks ((f.fld 2).asList.flatMap impT ++ s) := flat_toks (g := impT) (P := fun x => x.asStr.length ≤ 1048576) (fun x hx s hs => by
    unfold impT
    simp only [List.append_assoc, List.cons_append, List.nil_append]
    exact tk_word [105, 109, 112, 111, 114, 116] (by decide) (tk_quote hx (tk_sign 59 (by decide) (tk_nl hs)))) _ g.ok.ok.importS hs
  unfold topT
  rw [List.append_assoc]
  cases h : ((f.fld 1).asStr == ([] : List UInt8)) with
  | true => exact hi
  | false =>
    have hn : (f.fld 1).asStr ≠ [] := by simpa using h
    simp only [cond_false, List.append_assoc, List.cons_append, List.nil_append]
    exact tk_word [115, 112, 97, 99, 101] (by decide) (tk_name (def_type (g.nm.resolve_left hn)) (endN_cons (by decide) (by decide)) (tk_sign 59 (by decide) (tk_nl hi)))
theorem toks_tail {s : List UInt8} (h : Toks (10 :: s)) : Toks s := by
  generalize e : 10 :: s = t at h
  cases h with
  | nil => cases e
  | sp hc hs => simp only [List.cons.injEq] at e; rw [e.2]; exact hs
  | @tok t r ht hr =>
    exfalso
    cases ht with
    | name h1 h2 =>
      rcases type_parts h1 with ⟨c, q, rfl, hc, _⟩ | ⟨d, q, rfl, hd, _⟩
      · simp only [List.cons_append, List.cons.injEq] at e; rw [← e.1] at hc; exact absurd hc (by decide)
      · simp only [List.cons_append, List.cons.injEq] at e; exact absurd e.1 (by decide)
    | int h1 h2 =>
      obtain ⟨c, q, e2, hc, _⟩ := decB_first h1
      rw [e2] at e
      simp only [List.cons_append, List.cons.injEq] at e
      rw [← e.1] at hc
      exact absurd hc (by decide)
    | text h1 =>
      unfold quote at e
      simp at e
    | sign h1 =>
      simp only [List.cons_append, List.nil_append, List.cons.injEq] at e
      rw [← e.1] at h1
      exact absurd h1 (by decide)
theorem file_toks {f : PV} (g : FileGood f) : Toks (fileT f) := by
  rcases file_form f with ⟨_, h⟩ | ⟨_, ⟨h, _⟩ | ⟨_, h⟩⟩
  · rw [h]; exact top_toks g (tail_toks g)
  · rw [h]; exact .nil
  · exact toks_tail (by rw [h]; exact tail_toks g)
end Go.Ab
namespace Go.Ab
open Go
set_option maxRecDepth 100000
/- No line feed. -/
def N10 (s : List UInt8) : Prop := ∀ c, c ∈ s → c ≠ 10
theorem n_nil : N10 [] := fun c h => by cases h
theorem n_cons {c : UInt8} {s : List UInt8} (hc : c ≠ 10) (hs : N10 s) : N10 (c :: s) := fun d h => by
  rcases List.mem_cons.1 h with rfl | h
  · exact hc
  · exact hs d h
theorem n_app {s t : List UInt8} (hs : N10 s) (ht : N10 t) : N10 (s ++ t) := fun c h => by
  rcases List.mem_append.1 h with h | h
  · exact hs c h
  · exact ht c h
theorem n_all {s : List UInt8} (h : (s.all fun c => !(c == 10)) = true) : N10 s := fun c hc => by
  have := List.all_eq_true.1 h c hc
  simpa using this
theorem n_bif {b : Bool} {s t : List UInt8} (hs : N10 s) (ht : N10 t) : N10 (bif b then s else t) := by cases b <;> assumption
theorem n_nm {s : List UInt8} (h : ∀ c, c ∈ s → nmC c = true) : N10 s := fun c hc => by
  rintro rfl
  exact absurd (h 10 hc) (by decide)
theorem n_type {s : List UInt8} (h : typeP s = true) : N10 s := n_nm (type_chars h)
theorem n_dec {u : Nat} (hu : u < 100000000000000000000) : N10 (decB u) := fun c hc => by
  rintro rfl
  exact absurd (decB_dig hu 10 hc) (by decide)
theorem n_num {n : Int} (h0 : 0 ≤ n) (h1 : n ≤ 2147483647) : N10 (numT n) := n_dec (u := n.toNat) (by omega)
theorem n_itoa {n : Int} (h0 : -9223372036854775808 ≤ n) (h1 : n ≤ 9223372036854775807) : N10 (itoaB n) := by
  unfold itoaB
  by_cases h : n < 0
  · rw [decide_eq_true h]; exact n_cons (by decide) (n_dec (u := n.natAbs) (by omega))
  · rw [decide_eq_false h]; exact n_dec (u := n.toNat) (by omega)
theorem hex_n10 : ((List.range 256).all fun b => (hex2 b).all fun c => !(c == 10)) = true := by kernel_rfl
theorem quoteFrom_n10 (s : List UInt8) : ∀ (m i : Nat), s.length - i ≤ m → N10 (quoteFrom s i) := by
  intro m
  induction m with
  | zero =>
    intro i hm
    rw [quoteFrom, if_neg (by omega)]
    exact n_nil
  | succ m ih =>
    intro i hm
    by_cases hi : i < s.length
    · have hp := stepLen_pos s i
      have hr := ih (i + stepLen s i) (by omega)
      rw [quoteFrom, if_pos hi]
      refine n_app ?_ hr
      unfold partAt
      by_cases c1 : byteAt s i = 34
      · rw [if_pos c1]; exact n_all (by decide)
      rw [if_neg c1]
      by_cases c2 : byteAt s i = 92
      · rw [if_pos c2]; exact n_all (by decide)
      rw [if_neg c2]
      by_cases c3 : byteAt s i = 10
      · rw [if_pos c3]; exact n_all (by decide)
      rw [if_neg c3]
      by_cases c4 : byteAt s i = 9
      · rw [if_pos c4]; exact n_all (by decide)
      rw [if_neg c4]
      by_cases c5 : byteAt s i = 13
      · rw [if_pos c5]; exact n_all (by decide)
      rw [if_neg c5]
      by_cases c6 : byteAt s i < 32 ∨ byteAt s i = 127 ∨ sizeAt s i = 0
      · rw [if_pos c6]
        exact n_cons (by decide) (n_cons (by decide) (n_all (List.all_eq_true.1 hex_n10 _ (List.mem_range.2 (byteAt_lt s i)))))
      · rw [if_neg c6]
        have h0 : sizeAt s i ≠ 0 := by omega
        intro b hb
        obtain ⟨j, hj, rfl⟩ := List.mem_iff_getElem.1 hb
        have hjs : j < sizeAt s i := by rw [List.length_take] at hj; omega
        have hjl : i + j < s.length := by rw [List.length_take, List.length_drop] at hj; omega
        have ej : ((s.drop i).take (sizeAt s i))[j] = s.getD (i + j) 0 := by
          rw [List.getElem_take, List.getElem_drop, getD_of_lt hjl]
        rw [ej]
        have big : byteAt s (i + j) ≠ 10 := by
          have q0 : byteAt s (i + 0) = byteAt s i := rfl
          rcases sizeN_cases (s.length - i) (byteAt s i) (byteAt s (i + 1)) (byteAt s (i + 2)) (byteAt s (i + 3)) (by omega) with h | ⟨h, c⟩ | ⟨h, c⟩ | ⟨h, c⟩ | ⟨h, c⟩
          · exact absurd h h0
          · have h : sizeAt s i = 1 := h
            have : j = 0 := by omega
            subst this; omega
          · have h : sizeAt s i = 2 := h
            have : j = 0 ∨ j = 1 := by omega
            rcases this with rfl | rfl <;> omega
          · have h : sizeAt s i = 3 := h
            have : j = 0 ∨ j = 1 ∨ j = 2 := by omega
            rcases this with rfl | rfl | rfl <;> omega
          · have h : sizeAt s i = 4 := h
            have : j = 0 ∨ j = 1 ∨ j = 2 ∨ j = 3 := by omega
            rcases this with rfl | rfl | rfl | rfl <;> omega
        exact byte_ne big
    · rw [quoteFrom, if_neg hi]
      exact n_nil
theorem n_quote (s : List UInt8) : N10 (quote s) := by
  have hq : quote s = 34 :: (quoteFrom s 0 ++ [34]) := by unfold quote; rfl
  rw [hq]
  exact n_cons (by decide) (n_app (quoteFrom_n10 s s.length 0 (by omega)) (n_all (by decide)))
theorem n_textV {k : Int} (hk : k = 1 ∨ k = 2 ∨ k = 3 ∨ k = 4 ∨ k = 5 ∨ k = 7) {v : PV} (sv : smallV v) (hv : fitsV k v = true) : N10 (textV v) := by
  rw [textV_of hv]
  obtain ⟨_, _, b0, b1⟩ := sv
  have wr : -9223372036854775808 ≤ IntKind.wrap .i64 (vBits v) ∧ IntKind.wrap .i64 (vBits v) ≤ 9223372036854775807 := by rw [IntKind.wrap_i64]; omega
  rcases hk with rfl | rfl | rfl | rfl | rfl | rfl
  · exact n_bif (b := vBits v == 1) (n_all (by decide)) (n_all (by decide))
  · exact n_itoa wr.1 wr.2
  · exact n_itoa wr.1 wr.2
  · exact n_dec (u := (vBits v).toNat) (by omega)
  · exact n_dec (u := (vBits v).toNat) (by omega)
  · exact n_quote _
theorem n_lit {k : Int} (hk1 : 1 ≤ k) (hk8 : k ≤ 8) {v : PV} (sv : smallV v) (hv : fitsV k v = true) : N10 (litT v) := by
  rw [litT_of hv (by omega)]
  by_cases h68 : k = 6 ∨ k = 8
  · have e : ((k == 6) || (k == 8)) = true := by rcases h68 with rfl | rfl <;> rfl
    rw [e]
    exact n_quote _
  · have e : ((k == 6) || (k == 8)) = false := by
      rw [beqI (show k ≠ 6 by omega), beqI (show k ≠ 8 by omega)]; rfl
    rw [e, textW_of hv, beqI (show k ≠ 6 by omega), beqI (show k ≠ 8 by omega)]
    exact n_textV (by omega) sv hv
theorem n_note {n : PV} (hn : rightN n = true) (sn : smallN n) : N10 (textN n) := by
  obtain ⟨n1, n2⟩ := right_known hn
  have hk := List.all_eq_true.1 known_kinds _ n1
  simp only [Bool.or_eq_true, beq_iff_eq] at hk
  unfold textN
  exact n_app (n_app (n_type (List.all_eq_true.1 known_types _ n1)) (n_all (by decide))) (n_textV (by omega) sn.1 n2)
theorem n_rest : ∀ l : List PV, l.all rightN = true → (∀ n, n ∈ l → smallN n) → N10 (restT l) := by
  intro l
  induction l with
  | nil => intro _ _; exact n_nil
  | cons a l ih =>
    intro hl sl
    simp only [List.all_cons, Bool.and_eq_true] at hl
    unfold restT
    exact n_app (n_app (n_all (by decide)) (n_note hl.1 (sl a (by simp)))) (ih hl.2 fun n hn => sl n (by simp [hn]))
theorem n_notes {l : List PV} (hl : l.all rightN = true) (sl : ∀ n, n ∈ l → smallN n) : N10 (notesT l) := by
  cases l with
  | nil => exact n_nil
  | cons a l =>
    have h0 : (((a :: l).length : Int) == (0 : Int)) = false := by rw [beq_eq_false_iff_ne]; simp only [List.length_cons]; omega
    unfold notesT
    rw [h0, show textL (a :: l) = bif (a :: l).all rightN then [91] ++ (textN a ++ restT l) ++ [93] else [] from rfl, hl]
    simp only [List.all_cons, Bool.and_eq_true] at hl
    exact n_app (n_all (by decide)) (n_app (n_app (n_all (by decide)) (n_app (n_note hl.1 (sl a (by simp))) (n_rest l hl.2 fun n hn => sl n (by simp [hn])))) (n_all (by decide)))
theorem n_head {x : PV} (g : RowGood x) : N10 (headT x) := by
  have ht := n_type (type_type g.type)
  unfold headT
  by_cases h5 : (x.fld 2).asInt = 5
  · have hk := key5 (by have := g.key; rw [h5] at this; exact this)
    rw [h5]
    exact n_app (n_all (by decide)) (n_app (n_type (kw_type hk)) (n_app (n_all (by decide)) (n_app ht (n_all (by decide)))))
  · rw [beqI h5]
    refine n_bif (b := (x.fld 5).asStr == []) (n_app ?_ ht) ht
    unfold cardT
    exact n_bif (n_all (by decide)) (n_bif (n_all (by decide)) (n_bif (n_all (by decide)) (n_all (by decide))))
theorem n_dflt {x : PV} (g : RowGood x) (h6 : (x.fld 6).asBool = true) : N10 (litT (x.fld 7)) := by
  have hr := g.right
  unfold rightF at hr
  rw [h6] at hr
  simp only [Bool.not_true, cond_false] at hr
  cases h5 : ((x.fld 2).asInt == 5) with
  | true => rw [h5] at hr; cases hr
  | false =>
    rw [h5] at hr
    simp only [cond_false] at hr
    cases h0 : (((x.fld 4).fld 0).asInt == 0) with
    | true =>
      rw [h0] at hr
      have hr : itemV (x.fld 7) = true := hr
      have e : litT (x.fld 7) = vText (x.fld 7) := by unfold litT; rw [hr]; rfl
      unfold itemV at hr
      simp only [Bool.and_eq_true] at hr
      rw [e]
      exact n_type (simp_type hr.1.1.2)
    | false =>
      rw [h0] at hr
      simp only [cond_false, Bool.and_eq_true] at hr
      have hk := g.type
      have kne : ((x.fld 4).fld 0).asInt ≠ 0 := by intro q; rw [q] at h0; cases h0
      exact n_lit (by have := hk.2.1; omega) hk.2.2 g.ok.ok.dflt hr.1
/- Lines. -/
def Good (l : List UInt8) : Prop := ∃ r c, l = r ++ [c] ∧ N10 r ∧ c ≠ 10 ∧ c ≠ 32
inductive LS : List UInt8 → Prop
  | nil : LS []
  | line {l s : List UInt8} : Good l → LS s → LS (l ++ 10 :: s)
theorem ls_one {r : List UInt8} (c : UInt8) (hr : N10 r) (h1 : c ≠ 10) (h2 : c ≠ 32) {s : List UInt8} (hs : LS s) : LS (r ++ c :: 10 :: s) := by
  have := LS.line (l := r ++ [c]) ⟨r, c, rfl, hr, h1, h2⟩ hs
  simpa using this
def layF : UInt8 → UInt8 → List UInt8 → Bool
  | _, _, [] => true
  | a, b, c :: r => (bif c == 10 then !(b == 32) && !((b == 10) && ((a == 10) || (r == []))) else true) && layF b c r
theorem lay_skip : ∀ (l : List UInt8) (x : UInt8) (a b : UInt8) (t : List UInt8), N10 l → x ≠ 10 → ∃ y, layF a b (l ++ x :: t) = layF y x t := by
  intro l
  induction l with
  | nil =>
    intro x a b t _ hx
    have : (x == 10) = false := beq_eq_false_iff_ne.2 hx
    exact ⟨b, by simp [layF, this]⟩
  | cons c l ih =>
    intro x a b t hl hx
    obtain ⟨y, hy⟩ := ih x b c t (fun d hd => hl d (by simp [hd])) hx
    have : (c == 10) = false := beq_eq_false_iff_ne.2 (hl c (by simp))
    exact ⟨y, by rw [List.cons_append]; simp only [layF, this, cond_false, Bool.true_and]; exact hy⟩
theorem ls_lay {s : List UInt8} (h : LS s) : ∀ (t : List UInt8), (∀ x, x ≠ 10 → layF x 10 t = true) → ∀ a b, (s = [] → b = 10 ∧ a ≠ 10) → layF a b (s ++ t) = true := by
  induction h with
  | nil =>
    intro t ht a b hab
    obtain ⟨rfl, h2⟩ := hab rfl
    exact ht a h2
  | @line l s hl hs ih =>
    intro t ht a b _
    obtain ⟨r, c, rfl, h1, h2, h3⟩ := hl
    obtain ⟨y, hy⟩ := lay_skip r c a b (10 :: (s ++ t)) h1 h2
    have e : r ++ [c] ++ 10 :: s ++ t = r ++ c :: 10 :: (s ++ t) := by simp
    rw [e, hy]
    have c1 : (c == 32) = false := beq_eq_false_iff_ne.2 h3
    have c2 : (c == 10) = false := beq_eq_false_iff_ne.2 h2
    simp only [layF, c1, c2, beq_self_eq_true, cond_true, Bool.not_false, Bool.false_and, Bool.and_self, Bool.true_and]
    exact ih t ht c 10 fun _ => ⟨rfl, h2⟩
theorem seg_lay {g : PV → List UInt8} : ∀ (l : List PV), (∀ x, x ∈ l → LS (g x) ∧ g x ≠ []) → ∀ (t : List UInt8), (∀ x, x ≠ 10 → layF x 10 t = true) → ∀ x, x ≠ 10 → layF x 10 (l.flatMap (nl g) ++ t) = true := by
  intro l
  induction l with
  | nil => intro _ t ht x hx; exact ht x hx
  | cons a l ih =>
    intro hl t ht x hx
    obtain ⟨h1, h2⟩ := hl a (by simp)
    have hi := ih (fun z hz => hl z (by simp [hz])) t ht
    have e : (a :: l).flatMap (nl g) ++ t = 10 :: (g a ++ (l.flatMap (nl g) ++ t)) := by simp [nl]
    have x1 : (x == 10) = false := beq_eq_false_iff_ne.2 hx
    have x2 : ((g a ++ (l.flatMap (nl g) ++ t)) == ([] : List UInt8)) = false := by
      rw [beq_eq_false_iff_ne]
      intro q
      exact h2 (List.append_eq_nil_iff.1 q).1
    rw [e]
    simp only [layF, x1, x2, beq_self_eq_true, cond_true, Bool.or_self, Bool.and_false, Bool.not_false, Bool.and_true, show ((10 : UInt8) == 32) = false from rfl, Bool.true_and]
    exact ls_lay h1 _ hi 10 10 fun q => absurd q h2
/- The last byte. -/
def endL (s : List UInt8) : Prop := s = [] ∨ ∃ r, s = r ++ [10]
theorem endL_app {s t : List UInt8} (h : endL s) (k : endL t) : endL (s ++ t) := by
  rcases k with rfl | ⟨r, rfl⟩
  · rw [List.append_nil]; exact h
  · exact Or.inr ⟨s ++ r, by simp⟩
theorem ls_end {s : List UInt8} (h : LS s) : endL s := by
  induction h with
  | nil => exact Or.inl rfl
  | @line l s h1 h2 ih =>
    have e : l ++ 10 :: s = (l ++ [10]) ++ s := by simp
    rw [e]
    exact endL_app (Or.inr ⟨l, rfl⟩) ih
theorem seg_end {g : PV → List UInt8} : ∀ (l : List PV), (∀ x, x ∈ l → LS (g x) ∧ g x ≠ []) → endL (l.flatMap (nl g)) := by
  intro l
  induction l with
  | nil => intro _; exact Or.inl rfl
  | cons a l ih =>
    intro hl
    rw [List.flatMap_cons]
    exact endL_app (endL_app (s := [10]) (Or.inr ⟨[], rfl⟩) (ls_end (hl a (by simp)).1)) (ih fun z hz => hl z (by simp [hz]))
/- The texts' lines. -/
theorem row_ls {x : PV} (g : RowGood x) {p : List UInt8} (hp : N10 p) {s : List UInt8} (hs : LS s) : LS (p ++ (rowT x ++ 10 :: s)) := by
  have ok := g.ok
  have hd : N10 (bif (x.fld 6).asBool then [32, 100, 101, 102, 97, 117, 108, 116, 32] ++ litT (x.fld 7) else []) := by
    cases h6 : (x.fld 6).asBool with
    | true => exact n_app (n_all (by decide)) (n_dflt g h6)
    | false => exact n_nil
  have e : p ++ (rowT x ++ 10 :: s) = (p ++ (headT x ++ ([32] ++ ((x.fld 1).asStr ++ ([32, 61, 32] ++ (numT (x.fld 0).asInt ++ ((bif (x.fld 6).asBool then [32, 100, 101, 102, 97, 117, 108, 116, 32] ++ litT (x.fld 7) else []) ++ notesT (x.fld 8).asList))))))) ++ 59 :: 10 :: s := by
    unfold rowT; simp only [List.append_assoc, List.cons_append, List.nil_append]
  rw [e]
  exact ls_one 59 (n_app hp (n_app (n_head g) (n_app (n_all (by decide)) (n_app (n_type (simp_type g.name)) (n_app (n_all (by decide)) (n_app (n_num ok.num0 (by have := ok.num1; omega)) (n_app hd (n_notes g.nt ok.ok.note)))))))) (by decide) (by decide) hs
theorem step_ls (u : List UInt8) {x : PV} (g : RowGood x) {s : List UInt8} (hs : LS s) : LS (stepT u x ++ s) := by
  have h0 : LS (stepT [] x ++ s) := by
    rw [step_0]
    cases hu : (uT x == ([] : List UInt8)) with
    | true =>
      have := row_ls g (p := [32, 32]) (n_all (by decide)) hs
      simpa using this
    | false =>
      have nu : uT x ≠ [] := by simpa using hu
      have hr := row_ls g (p := [32, 32, 32, 32]) (n_all (by decide)) hs
      have := ls_one (r := [32, 32, 117, 110, 105, 111, 110, 32] ++ (uT x ++ [32])) 123 (n_app (n_all (by decide)) (n_app (n_type (simp_type (g.union nu))) (n_all (by decide)))) (by decide) (by decide) hr
      simpa using this
  by_cases hu : u = []
  · subst hu; exact h0
  · by_cases hx : uT x = u
    · rw [step_same hu hx]
      have := row_ls g (p := [32, 32, 32, 32]) (n_all (by decide)) hs
      simpa using this
    · rw [step_new hu hx]
      have := ls_one (r := [32, 32]) 125 (n_all (by decide)) (by decide) (by decide) h0
      simpa using this
theorem fields_ls : ∀ (l : List PV) (u : List UInt8), (∀ x, x ∈ l → RowGood x) → ∀ {s : List UInt8}, LS s → LS (fieldsT u l ++ s) := by
  intro l
  induction l with
  | nil => intro u _ s hs; exact hs
  | cons x l ih =>
    intro u hl s hs
    simp only [fieldsT, List.append_assoc]
    exact step_ls u (hl x (by simp)) (ih _ (fun z hz => hl z (by simp [hz])) hs)
theorem clo_ls (u : List UInt8) {s : List UInt8} (hs : LS s) : LS (clo u ++ s) := by
  unfold clo
  cases (u == ([] : List UInt8)) with
  | true => exact hs
  | false =>
    have := ls_one (r := [32, 32]) 125 (n_all (by decide)) (by decide) (by decide) hs
    simpa using this
theorem restG_n {g : PV → List UInt8} : ∀ l : List PV, (∀ x, x ∈ l → N10 (g x)) → N10 (restG g l) := by
  intro l
  induction l with
  | nil => intro _; exact n_nil
  | cons x l ih => intro hl; unfold restG; exact n_app (n_all (by decide)) (n_app (hl x (by simp)) (ih fun z hz => hl z (by simp [hz])))
theorem res_ls {g : PV → List UInt8} (l : List PV) (hl : ∀ x, x ∈ l → N10 (g x)) {s : List UInt8} (hs : LS s) : LS (resT g l ++ s) := by
  cases l with
  | nil => exact hs
  | cons x l =>
    rw [resT_cons]
    have := ls_one (r := resW ++ (g x ++ restG g l)) 59 (n_app (n_all (by decide)) (n_app (hl x (by simp)) (restG_n l fun z hz => hl z (by simp [hz])))) (by decide) (by decide) hs
    simpa using this
theorem n_span {x : PV} (hx : SpP x) : N10 (spT x) := by
  obtain ⟨x0, x1, x2, x3⟩ := hx.nums
  unfold spT
  exact n_app (n_num x0 x1) (n_bif n_nil (n_app (n_all (by decide)) (n_num x2 x3)))
theorem open_ls {w nm : List UInt8} (hw : N10 w) (hn : typeP nm = true) {l : List PV} (hl : l.all rightN = true) (sl : ∀ n, n ∈ l → smallN n) {s : List UInt8} (hs : LS s) : LS (w ++ (nm ++ (notesT l ++ 32 :: 123 :: 10 :: s))) := by
  have := ls_one (r := w ++ (nm ++ (notesT l ++ [32]))) 123 (n_app hw (n_app (n_type hn) (n_app (n_notes hl sl) (n_all (by decide))))) (by decide) (by decide) hs
  simpa using this
theorem close_ls : LS (125 :: 10 :: []) := ls_one (r := []) 125 n_nil (by decide) (by decide) .nil
theorem msg_ls {m : PV} (g : MsgGood m) : LS (msgT m) := by
  have e := msgT_form m []
  rw [List.append_nil] at e
  rw [e]
  exact open_ls (n_all (by decide)) (def_type g.nm) g.nt g.ok.ok.note (fields_ls _ _ g.rows (clo_ls _ (res_ls _ (fun x hx => n_span (g.ok.span x hx)) (res_ls _ (fun x _ => n_quote _) close_ls))))
theorem flat_ls {g : PV → List UInt8} {P : PV → Prop} (hg : ∀ x, P x → ∀ {s : List UInt8}, LS s → LS (g x ++ s)) : ∀ l : List PV, (∀ x, x ∈ l → P x) → ∀ {s : List UInt8}, LS s → LS (l.flatMap g ++ s) := by
  intro l
  induction l with
  | nil => intro _ s hs; exact hs
  | cons x l ih =>
    intro hl s hs
    rw [List.flatMap_cons, List.append_assoc]
    exact hg x (hl x (by simp)) (ih (fun z hz => hl z (by simp [hz])) hs)
theorem item_ls (x : PV) (g : ItemGood x) {s : List UInt8} (hs : LS s) : LS (itemT x ++ s) := by
  have := ls_one (r := [32, 32] ++ ((x.fld 0).asStr ++ ([32, 61, 32] ++ (numT (x.fld 1).asInt ++ notesT (x.fld 2).asList)))) 59 (n_app (n_all (by decide)) (n_app (n_type (simp_type g.nm)) (n_app (n_all (by decide)) (n_app (n_num g.num0 g.num1) (n_notes g.nt g.ok.note))))) (by decide) (by decide) hs
  unfold itemT
  simpa using this
theorem enum_ls {m : PV} (g : EnumGood m) : LS (enumT m) := by
  have e := enumT_form m []
  rw [List.append_nil] at e
  rw [e, ← List.append_assoc]
  exact open_ls (n_app (n_bif (n_all (by decide)) n_nil) (n_all (by decide))) (def_type g.nm) g.nt g.ok.ok.note (flat_ls item_ls _ g.items (res_ls _ (fun x hx => n_span (g.ok.span x hx)) close_ls))
theorem n_side (b : Bool) {t : List UInt8} (ht : typeP t = true) : N10 (sideT b t) := by
  unfold sideT
  exact n_bif (n_app (n_all (by decide)) (n_type ht)) (n_type ht)
theorem meth_ls (x : PV) (g : MethGood x) {s : List UInt8} (hs : LS s) : LS (methT x ++ s) := by
  obtain ⟨h0, h1, h2, _, _⟩ := g.parts
  have := ls_one (r := [32, 32, 114, 112, 99, 32] ++ ((x.fld 0).asStr ++ ([40] ++ (sideT (((x.fld 3).asInt == 3) || ((x.fld 3).asInt == 4)) (x.fld 1).asStr ++ ([41, 32, 114, 101, 116, 117, 114, 110, 115, 32, 40] ++ (sideT (((x.fld 3).asInt == 2) || ((x.fld 3).asInt == 4)) (x.fld 2).asStr ++ ([41] ++ notesT (x.fld 4).asList))))))) 59 (n_app (n_all (by decide)) (n_app (n_type (simp_type h0)) (n_app (n_all (by decide)) (n_app (n_side _ h1) (n_app (n_all (by decide)) (n_app (n_side _ h2) (n_app (n_all (by decide)) (n_notes g.nt g.ok.note)))))))) (by decide) (by decide) hs
  unfold methT
  simpa only [List.append_assoc, List.cons_append, List.nil_append] using this
theorem svc_ls {m : PV} (g : SvcGood m) : LS (svcT m) := by
  have e := svcT_form m []
  rw [List.append_nil] at e
  rw [e]
  exact open_ls (n_all (by decide)) (def_type g.nm) g.nt g.ok.ok.note (flat_ls meth_ls _ g.meths close_ls)
theorem top_ls {f : PV} (g : FileGood f) : LS (topT f) := by
  have hi : LS ((f.fld 2).asList.flatMap impT) := by
    rw [← List.append_nil ((f.fld 2).asList.flatMap impT)]
    exact flat_ls (g := impT) (P := fun _ => True) (fun x _ s hs => by
      have := ls_one (r := [105, 109, 112, 111, 114, 116, 32] ++ quote x.asStr) 59 (n_app (n_all (by decide)) (n_quote _)) (by decide) (by decide) hs
      unfold impT
      simpa using this) _ (fun _ _ => trivial) .nil
  unfold topT
  cases h : ((f.fld 1).asStr == ([] : List UInt8)) with
  | true => exact hi
  | false =>
    have hn : (f.fld 1).asStr ≠ [] := by simpa using h
    have := ls_one (r := [115, 112, 97, 99, 101, 32] ++ (f.fld 1).asStr) 59 (n_app (n_all (by decide)) (n_type (def_type (g.nm.resolve_left hn)))) (by decide) (by decide) hi
    simpa using this
theorem tail_lay {f : PV} (g : FileGood f) : ∀ x, x ≠ 10 → layF x 10 (tailT f) = true := by
  have h5 := seg_lay (g := svcT) (f.fld 5).asList (fun x hx => ⟨svc_ls (g.svc x hx), svcT_ne x⟩) [] (fun _ _ => rfl)
  rw [List.append_nil] at h5
  exact seg_lay (g := msgT) (f.fld 3).asList (fun x hx => ⟨msg_ls (g.msg x hx), msgT_ne x⟩) _ (seg_lay (g := enumT) (f.fld 4).asList (fun x hx => ⟨enum_ls (g.enum x hx), enumT_ne x⟩) _ h5)
theorem tail_end {f : PV} (g : FileGood f) : endL (tailT f) :=
  endL_app (seg_end (g := msgT) _ fun x hx => ⟨msg_ls (g.msg x hx), msgT_ne x⟩) (endL_app (seg_end (g := enumT) _ fun x hx => ⟨enum_ls (g.enum x hx), enumT_ne x⟩) (seg_end (g := svcT) _ fun x hx => ⟨svc_ls (g.svc x hx), svcT_ne x⟩))
/-- What the law asks of a text. -/
theorem file_lay {f : PV} (g : FileGood f) (h : fileT f ≠ []) : ∃ c r q, fileT f = c :: r ∧ c ≠ 10 ∧ layF 10 c r = true ∧ fileT f = q ++ [10] := by
  have key : ∀ c r, fileT f = c :: r → c ≠ 10 → layF 10 10 (fileT f) = true → layF 10 c r = true := fun c r e hc hl => by
    rw [e] at hl
    simp only [layF, beq_eq_false_iff_ne.2 hc, cond_false, Bool.true_and] at hl
    exact hl
  rcases file_form f with ⟨h1, h2⟩ | ⟨_, ⟨h1, _⟩ | ⟨_, h2⟩⟩
  · have hl : layF 10 10 (fileT f) = true := by rw [h2]; exact ls_lay (top_ls g) _ (tail_lay g) 10 10 fun q => absurd q h1
    have he : endL (fileT f) := by rw [h2]; exact endL_app (ls_end (top_ls g)) (tail_end g)
    rcases he with he | ⟨q, he⟩
    · exact absurd he h
    · rcases top_first h1 with ⟨r, z⟩ | ⟨r, z⟩
      · have e : fileT f = 115 :: (112 :: r ++ tailT f) := by rw [h2, z]; rfl
        exact ⟨_, _, q, e, by decide, key _ _ e (by decide) hl, he⟩
      · have e : fileT f = 105 :: (r ++ tailT f) := by rw [h2, z]; rfl
        exact ⟨_, _, q, e, by decide, key _ _ e (by decide) hl, he⟩
  · exact absurd h1 h
  · have ht := tail_lay g 0 (by decide)
    rw [← h2] at ht
    have hl : layF 10 10 (fileT f) = true := by
      simp only [layF, Bool.and_eq_true] at ht
      exact ht.2
    have he : ∃ q, fileT f = q ++ [10] := by
      rcases tail_end g with he | ⟨q, he⟩
      · rw [← h2] at he; cases he
      · rw [← h2] at he
        cases q with
        | nil => simp at he; exact absurd he h
        | cons a q => simp at he; exact ⟨q, he.2⟩
    obtain ⟨q, he⟩ := he
    rcases tail_first h2.symm with ⟨r, e⟩ | ⟨r, e⟩ | ⟨r, e⟩ | ⟨r, e⟩ <;> exact ⟨_, _, q, e, by decide, key _ _ e (by decide) hl, he⟩
/- The law. -/
theorem lay_loop (s : List UInt8) (p : PV) (hl : s.length ≤ 16384) : ∀ (m i : Nat) (a : UInt8), s.length - i ≤ m → 1 ≤ i → i ≤ s.length → layF a (s.getD (i - 1) 0) (s.drop i) = true → (i < 2 → s.getD (i - 1) 0 ≠ 10) → (2 ≤ i → a = s.getD (i - 2) 0) →
    loopW (S8_11step 0) (s, (i : Int), p) = some (.inr p) := by
  intro m
  induction m with
  | zero =>
    intro i a hm h1 hi _ _ _
    have e1 : decide ((i : Int) < (s.length : Int)) = false := decide_eq_false (by omega)
    exact loopW_end (by simp only [S8_11step, S8_11, e1, cond_false])
  | succ m ih =>
    intro i a hm h1 hi hlay hb ha
    by_cases hlt : i < s.length
    · have e1 : decide ((i : Int) < (s.length : Int)) = true := decide_eq_true (by omega)
      have w1 : IntKind.wrap .i64 ((i : Int) - 1) = ((i - 1 : Nat) : Int) := by rw [wrap64 (by omega) (by omega)]; omega
      have w3 : IntKind.wrap .i64 ((i : Int) + 1) = ((i + 1 : Nat) : Int) := wadd' (by omega)
      have r0 : inRange (i : Int) s.length = true := by rw [inRange_nat]; exact decide_eq_true hlt
      have r1 : inRange ((i - 1 : Nat) : Int) s.length = true := by rw [inRange_nat]; exact decide_eq_true (by omega)
      rw [drop_cons hlt 0] at hlay
      simp only [layF, Bool.and_eq_true] at hlay
      obtain ⟨hc, hn⟩ := hlay
      have next : S8_11step 0 (s, (i : Int), p) = some (.inl (s, ((i + 1 : Nat) : Int), p)) := by
        have k10 : ∀ x : UInt8, ((x.toNat : Int) == (10 : Int)) = (x == 10) := fun x => bqI (c := x) (k := 10) (n := 10) rfl
        have k32 : ∀ x : UInt8, ((x.toNat : Int) == (32 : Int)) = (x == 32) := fun x => bqI (c := x) (k := 32) (n := 32) rfl
        cases hx : (s.getD i 0 == 10) with
        | false =>
          simp only [S8_11step, S8_11, e1, r0, r1, w1, w3, Int.toNat_natCast, k10, k32, hx, imp, cond_true, cond_false, cond_same, Bool.not_false, Bool.true_or, Bool.not_true, Bool.or_true]
        | true =>
          rw [hx] at hc
          simp only [cond_true, Bool.and_eq_true, Bool.not_eq_true'] at hc
          obtain ⟨hc1, hc2⟩ := hc
          cases hy : (s.getD (i - 1) 0 == 10) with
          | false =>
            simp only [S8_11step, S8_11, e1, r0, r1, w1, w3, Int.toNat_natCast, k10, k32, hx, hy, hc1, imp, cond_true, cond_false, cond_same, Bool.not_false, Bool.true_or, Bool.not_true, Bool.or_true]
          | true =>
            have h2 : 2 ≤ i := by
              rcases Nat.lt_or_ge i 2 with q | q
              · have := hb q
                rw [beq_iff_eq] at hy
                exact absurd hy this
              · exact q
            rw [hy] at hc2
            simp only [Bool.true_and, Bool.or_eq_false_iff] at hc2
            obtain ⟨hc3, hc4⟩ := hc2
            rw [ha h2] at hc3
            have w2 : IntKind.wrap .i64 ((i : Int) - 2) = ((i - 2 : Nat) : Int) := by rw [wrap64 (by omega) (by omega)]; omega
            have r2 : inRange ((i - 2 : Nat) : Int) s.length = true := by rw [inRange_nat]; exact decide_eq_true (by omega)
            have d2 : decide ((i : Int) < (2 : Int)) = false := decide_eq_false (by omega)
            have d3 : (((i + 1 : Nat) : Int) == (s.length : Int)) = false := by
              rw [beq_eq_false_iff_ne]
              intro q
              have : i + 1 = s.length := by omega
              rw [this, List.drop_length] at hc4
              cases hc4
            simp only [S8_11step, S8_11, e1, r0, r1, r2, w1, w2, w3, d2, d3, Int.toNat_natCast, k10, k32, hx, hy, hc1, hc3, imp, cond_true, cond_false, cond_same, Bool.not_false, Bool.true_or, Bool.not_true, Bool.or_true]
      rw [loopW_go next]
      exact ih (i + 1) (s.getD (i - 1) 0) (by omega) (by omega) (by omega) hn (fun q => by omega) (fun _ => by rw [show i + 1 - 2 = i - 1 by omega])
    · have e1 : decide ((i : Int) < (s.length : Int)) = false := decide_eq_false (by omega)
      exact loopW_end (by simp only [S8_11step, S8_11, e1, cond_false])
theorem chk_size {f : PV} (hz : chkF f = 0) : (fileT f).length ≤ 16384 := by
  unfold chkF at hz
  cases h1 : nmFile f <;> rw [h1] at hz
  · cases hz
  cases h2 : argFile f <;> rw [h2] at hz
  · cases hz
  cases h3 : txFile f <;> rw [h3] at hz
  · cases hz
  simp only [Bool.not_true, cond_false] at hz
  by_cases hn : ntFile f = 0
  · rw [hn] at hz
    cases h4 : cntFile f <;> rw [h4] at hz
    · cases hz
    by_cases h5 : ((fileT f).length : Int) > 16384
    · rw [decide_eq_true h5] at hz; cases hz
    · omega
  · rw [bneI hn] at hz
    exact absurd hz hn
theorem formatLayout_true (f : PV) (h : OkFile f) (hf : ∃ b, F11 0 f = some b) : F8 0 f = some true := by
  obtain ⟨b, hb⟩ := hf
  unfold F8
  simp only [hb, Option.bind_some, print_eq f h, Lawake]
  cases b
  · rfl
  by_cases hz : chkF f = 0
  · by_cases hn : fileT f = []
    · rw [hz, show ((0 : Int) != 0) = false from rfl, cond_false, hn]; rfl
    · have g := file_good h hz
      obtain ⟨c, r, q, e, hc, hlay, he⟩ := file_lay g hn
      have hs := chk_size hz
      obtain ⟨l, hscan⟩ := scan_ok hs (file_toks g)
      have hpos : 0 < (fileT f).length := by rw [e]; simp
      have e0 : (fileT f == ([] : List UInt8)) = false := beq_eq_false_iff_ne.2 hn
      have w : IntKind.wrap .i64 (((fileT f).length : Int) - 1) = (((fileT f).length - 1 : Nat) : Int) := by rw [wrap64 (by omega) (by omega)]; omega
      have r1 : inRange (((fileT f).length - 1 : Nat) : Int) (fileT f).length = true := by rw [inRange_nat]; exact decide_eq_true (by omega)
      have i0 : inRange (0 : Int) (fileT f).length = true := by rw [e, in0]
      have last : (fileT f).getD ((fileT f).length - 1) 0 = 10 := by rw [he]; simp [List.getD]
      have first : ((((fileT f).getD (0 : Int).toNat 0).toNat : Int) == (10 : Int)) = false := by
        rw [bqI (k := 10) (n := 10) rfl, beq_eq_false_iff_ne, e]
        exact hc
      have lp := lay_loop (fileT f) f hs (fileT f).length 1 10 (by omega) (by omega) (by omega) (by rw [e]; exact hlay) (fun _ => by rw [e]; exact hc) (fun q => by omega)
      have lp : loopW (S8_11step 0) (fileT f, (1 : Int), f) = some (.inr f) := lp
      have z0 : ((0 : Int) != (0 : Int)) = false := rfl
      have z10 : ((((10 : UInt8).toNat : Nat) : Int) != (10 : Int)) = false := rfl
      simp only [hz, z0, z10, cond_false, cond_true, Bool.not_true, e0, hscan, Option.bind_some, w, r1, i0, imp, Bool.not_false, Bool.true_or, Bool.false_or, cond_same, Int.toNat_natCast, last, first, loopQ0, lp, sumE_inr]
  · rw [bneI hz]; rfl
end Go.Ab
