/- The values of expressions: the printed functions come to the plain ones; a value has the kind that was told, or is null. No conditions. -/
import Derived.Test.YtpmecpmankpcbaaEK4
namespace Go.Proofs.Ytpmecpmankpcbaa.EK
open Go.RowKit Go.Proofs.YtpmecpmankpcbaaW.PrintWords Go.Proofs.YtpmecpmankpcbaaW.PrintLast Go.Proofs.Ytpmecpmankpcbaa.PK
set_option linter.unusedSectionVars false
set_option linter.unusedVariables false
set_option linter.unusedSimpArgs false

/-- A value that may be, of the kind k or null. -/
def Ok (v : S23) (k : Int) : Prop := may v = true ∧ (v.f0 = k ∨ v.f0 = 0) ∧ fits v.f1 = true
def OkL : List S23 → List Int → Prop
  | [], [] => True
  | v :: l, k :: ks => Ok v k ∧ OkL l ks
  | _, _ => False
theorem OkL.len : ∀ {l : List S23} {ks : List Int}, OkL l ks → l.length = ks.length
  | [], [], _ => rfl
  | _ :: l, _ :: ks, h => by simp [OkL.len (l := l) (ks := ks) h.2]
theorem OkL.fit : ∀ {l : List S23} {ks : List Int}, OkL l ks → ∀ v ∈ l, fits v.f1 = true
  | [], [], _, v, hv => by simp at hv
  | u :: l, _ :: ks, h, v, hv => by
    rcases List.mem_cons.1 hv with rfl | hv
    · exact h.1.2.2
    · exact OkL.fit h.2 v hv
theorem may_truth (b : Bool) : may (truth b) = true := by
  cases b <;> simp [may, truth]
theorem ok_truth (b : Bool) : Ok (truth b) 1 := ⟨may_truth b, .inl rfl, by cases b <;> decide⟩
theorem ok_null (k : Int) : Ok null k := ⟨by simp [may, null], .inr rfl, by decide⟩
/-- What a value with an error is. -/
def Told (x : S23 × Int) (k : Int) : Prop := (x.2 = 0 ∧ Ok x.1 k) ∨ (x.1 = null ∧ (x.2 = 5 ∨ x.2 = 17))
theorem told_number (x : Int × Int) (h0 : x.2 = 0 → fits x.1 = true) (h1 : x.2 = 0 ∨ x.2 = 5 ∨ x.2 = 17) : Told (number x) 2 := by
  unfold number
  by_cases h : x.2 = 0
  · rw [if_pos h]
    exact .inl ⟨rfl, by simp [may], .inl rfl, h0 h⟩
  · rw [if_neg h]
    exact .inr ⟨rfl, by simpa [h] using h1⟩
theorem tdiv_fits {a b : Int} (ha : fits a = true) (h0 : b ≠ 0) (h1 : b ≠ -1) : fits (Int.tdiv a b) = true := by
  have ha' := (fits_iff _).1 ha
  rw [fits_iff]
  by_cases h9 : b = 1
  · subst h9
    rw [Int.tdiv_one]
    exact ha'
  · have h7 := Int.natAbs_tdiv a b
    have h11 : (Int.tdiv a b).natAbs = a.natAbs / b.natAbs := h7
    have h10 : a.natAbs / b.natAbs ≤ a.natAbs / 2 := Nat.div_le_div_left (by omega) (by omega)
    generalize Int.tdiv a b = q at *
    omega
theorem tmod_fits {a b : Int} (ha : fits a = true) : fits (Int.tmod a b) = true := by
  have ha' := (fits_iff _).1 ha
  rw [fits_iff]
  have h := Int.natAbs_tmod a b
  have h1 : (Int.tmod a b).natAbs = a.natAbs % b.natAbs := h
  have h2 : a.natAbs % b.natAbs ≤ a.natAbs := Nat.mod_le _ _
  by_cases h3 : 0 ≤ a
  · have := Int.tmod_nonneg b h3
    generalize Int.tmod a b = q at *
    omega
  · have h4 := Int.tmod_nonneg b (show 0 ≤ -a by omega)
    rw [Int.neg_tmod] at h4
    generalize Int.tmod a b = q at *
    omega
theorem reckon_told (s : List UInt8) {a b : Int} (ha : fits a = true) : ((reckon s a b).2 = 0 → fits (reckon s a b).1 = true) ∧ ((reckon s a b).2 = 0 ∨ (reckon s a b).2 = 5 ∨ (reckon s a b).2 = 17) := by
  have e1 : ∀ x y, (add x y).2 = 0 ∨ (add x y).2 = 5 ∨ (add x y).2 = 17 := fun x y => by unfold add; split <;> simp
  have e2 : ∀ x y, (sub x y).2 = 0 ∨ (sub x y).2 = 5 ∨ (sub x y).2 = 17 := fun x y => by unfold sub; split <;> simp
  have e3 : ∀ x y, (mul x y).2 = 0 ∨ (mul x y).2 = 5 ∨ (mul x y).2 = 17 := fun x y => by unfold mul; split <;> simp
  unfold reckon
  split
  · exact ⟨add_fits a b, e1 a b⟩
  · split
    · exact ⟨sub_fits a b, e2 a b⟩
    · split
      · exact ⟨mul_fits a b, e3 a b⟩
      · split
        · simp
        · split
          · exact ⟨fun _ => tmod_fits ha, .inl rfl⟩
          · split
            · exact ⟨sub_fits 0 a, e2 0 a⟩
            · exact ⟨fun _ => tdiv_fits ha (by assumption) (by assumption), .inl rfl⟩
theorem kind_every {l : List Int} {k x : Int} (h : expr_operator.every l k = true) (hx : x ∈ l) : x = k ∨ x = 0 := by
  have := List.all_eq_true.1 h x hx
  simpa using this
theorem does_told (s : List UInt8) (ks : List Int) (l : List S23) (hk : (expr_operator.kind s ks).2 = 0) (ho : OkL l ks) : Told (does s l) (expr_operator.kind s ks).1 := by
  have hf := ho.fit
  have hl := ho.len
  rcases op_cases hk with ⟨hs, hn⟩ | ⟨hs, hn⟩ | ⟨hs, hn⟩ | ⟨hs, hn⟩
  · obtain ⟨x, rfl⟩ := one_of (hl.trans hn)
    have hfx := hf x (by simp)
    rcases hs with rfl | rfl | rfl | rfl
    · have e : (expr_operator.kind [73, 83, 78, 85, 76, 76] ks).1 = 1 := by
        have := hk
        simp only [expr_operator.kind, if_true] at this ⊢
        exact (tell_ok this).2.2
      rw [e]
      exact .inl ⟨rfl, ok_truth _⟩
    · have e : (expr_operator.kind [78, 79, 84, 78, 85, 76, 76] ks).1 = 1 := (tell_ok (m := (ks.length : Int) == 1) (q := true) hk).2.2
      rw [e]
      exact .inl ⟨rfl, ok_truth _⟩
    · have e : (expr_operator.kind [78, 79, 84] ks).1 = 1 := (tell_ok (m := (ks.length : Int) == 1) (q := expr_operator.every ks 1) hk).2.2
      rw [e]
      cases hx : isNull x
      · have e2 : does [78, 79, 84] [x] = (truth (!(x.f0 == 1 && (x.f1 == 1 && x.f2.toList == []))), 0) := by simp [does, hx, rd0]
        rw [e2]
        exact .inl ⟨rfl, ok_truth _⟩
      · have e2 : does [78, 79, 84] [x] = (null, 0) := by simp [does, hx]
        rw [e2]
        exact .inl ⟨rfl, ok_null _⟩
    · have e : (expr_operator.kind [78, 69, 71] ks).1 = 2 := (tell_ok (m := (ks.length : Int) == 1) (q := expr_operator.every ks 2) hk).2.2
      rw [e]
      cases hx : isNull x
      · have e2 : does [78, 69, 71] [x] = number (sub 0 x.f1) := by simp [does, hx, rd0]
        rw [e2]
        exact told_number _ (sub_fits 0 x.f1) (by unfold sub; split <;> simp)
      · have e2 : does [78, 69, 71] [x] = (null, 0) := by simp [does, hx]
        rw [e2]
        exact .inl ⟨rfl, ok_null _⟩
  · obtain ⟨x, y, rfl⟩ := two_of (hl.trans hn)
    obtain ⟨kx, ky, rfl⟩ := two_of hn
    have hbo : ∀ w, expr_operator.every [kx, ky] 1 = true → Ok (both [x, y] w) 1 := by
      intro w hv
      have h1 := kind_every hv (x := kx) (by simp)
      have h2 := kind_every hv (x := ky) (by simp)
      have hox : Ok x kx := ho.1
      have hoy : Ok y ky := ho.2.1
      have g : ∀ (v : S23) (kv : Int), Ok v kv → (kv = 1 ∨ kv = 0) → Ok v 1 := by
        rintro v kv ⟨a, b, c⟩ h
        refine ⟨a, ?_, c⟩
        omega
      unfold both
      cases hx : isNull x <;> cases hy : isNull y <;> cases hw : (x.f1 == w) <;> cases hv : (y.f1 == w) <;> simp [hx, hy, hw, hv, List.find?] <;> first | exact g _ _ hox h1 | exact g _ _ hoy h2 | exact ok_null _ | exact ok_truth _
    rcases hs with rfl | rfl
    · have t := tell_ok (m := (([kx, ky] : List Int).length : Int) == 2) (q := expr_operator.every [kx, ky] 1) (k := 1) hk
      have e : (expr_operator.kind [79, 82] [kx, ky]).1 = 1 := t.2.2
      rw [e]
      exact .inl ⟨rfl, hbo 1 t.2.1⟩
    · have t := tell_ok (m := (([kx, ky] : List Int).length : Int) == 2) (q := expr_operator.every [kx, ky] 1) (k := 1) hk
      have e : (expr_operator.kind [65, 78, 68] [kx, ky]).1 = 1 := t.2.2
      rw [e]
      exact .inl ⟨rfl, hbo 0 t.2.1⟩
  · obtain ⟨x, y, rfl⟩ := two_of (hl.trans hn)
    have hfx := hf x (by simp)
    have e : (expr_operator.kind s ks).1 = 2 := by
      rcases hs with rfl | rfl | rfl | rfl | rfl <;> exact (tell_ok (m := (ks.length : Int) == 2) (q := expr_operator.every ks 2) hk).2.2
    rw [e]
    have hr := reckon_told s (b := y.f1) hfx
    by_cases ha : ([x, y] : List S23).any isNull = true
    · have e2 : does s [x, y] = (null, 0) := by
        rcases hs with rfl | rfl | rfl | rfl | rfl <;> simp only [does] <;> simp [ha]
      rw [e2]
      exact .inl ⟨rfl, ok_null _⟩
    · have e2 : does s [x, y] = number (reckon s x.f1 y.f1) := by
        rcases hs with rfl | rfl | rfl | rfl | rfl <;> simp only [does, rd0, rd1] <;> simp [ha]
      rw [e2]
      exact told_number _ hr.1 hr.2
  · obtain ⟨x, y, rfl⟩ := two_of (hl.trans hn)
    have e : (expr_operator.kind s ks).1 = 1 := by
      rcases hs with rfl | rfl | rfl | rfl | rfl | rfl <;> exact (tell_ok (m := (ks.length : Int) == 2) (q := ((ks.length : Int) == 2) && expr_operator.same ks) hk).2.2
    rw [e]
    by_cases ha : ([x, y] : List S23).any isNull = true
    · have e2 : does s [x, y] = (null, 0) := by
        rcases hs with rfl | rfl | rfl | rfl | rfl | rfl <;> simp only [does] <;> simp [ha]
      rw [e2]
      exact .inl ⟨rfl, ok_null _⟩
    · have e2 : does s [x, y] = (truth (holds s (compare x y)), 0) := by
        rcases hs with rfl | rfl | rfl | rfl | rfl | rfl <;> simp only [does, rd0, rd1] <;> simp [ha]
      rw [e2]
      exact .inl ⟨rfl, ok_truth _⟩

/-! ## rows -/
def rowOk : List S23 → List S57 → Bool
  | [], _ => true
  | _ :: _, [] => false
  | v :: r, c :: cs => may v && (v.f0 == c.f1 || v.f0 == 0) && rowOk r cs
theorem rowOk_at : ∀ {r : List S23} {cs : List S57}, rowOk r cs = true → ∀ i : Nat, i < r.length → may (rd_T23 r (i : Int)) = true ∧ ((rd_T23 r (i : Int)).f0 = (rd_T57 cs (i : Int)).f1 ∨ (rd_T23 r (i : Int)).f0 = 0)
  | [], _, _, i, hi => by simp at hi
  | _ :: _, [], h, _, _ => by simp [rowOk] at h
  | v :: r, c :: cs, h, 0, _ => by
    simp only [rowOk, Bool.and_eq_true, Bool.or_eq_true, beq_iff_eq] at h
    exact h.1
  | v :: r, c :: cs, h, i + 1, hi => by
    simp only [rowOk, Bool.and_eq_true] at h
    have := rowOk_at h.2 i (by simpa using hi)
    have e1 : rd_T23 (v :: r) ((i + 1 : Nat) : Int) = rd_T23 r (i : Int) := by simp only [rd_T23, Int.toNat_natCast, List.getD_cons_succ]
    have e2 : rd_T57 (c :: cs) ((i + 1 : Nat) : Int) = rd_T57 cs (i : Int) := by simp only [rd_T57, Int.toNat_natCast, List.getD_cons_succ]
    rw [e1, e2]
    exact this
theorem rd_row_mid (pre l : List S23) (a : S23) : rd_T23 (pre ++ a :: l) (pre.length : Int) = a := by simp [rd_T23]
theorem rd_col_mid (pre l : List S57) (a : S57) : rd_T57 (pre ++ a :: l) (pre.length : Int) = a := by simp [rd_T57]
theorem fit_row {row : List S23} (hW : ∀ v ∈ row, W23 v) (i : Int) : fits (rd_T23 row i).f1 = true := by
  unfold rd_T23
  rw [List.getD_eq_getElem?_getD]
  cases h : row[i.toNat]? with
  | none => decide
  | some v => exact wf_fits (hW v (List.mem_of_getElem? h)).h1

section
variable (n0 : ByteArray) (cols : List S57) (i2 i3 i4 : Int) (m5 m6 m7 : List Int) (i8 i9 i10 : Int) (row : List S23)
theorem kind_of_op {k0 : Int} {s : ByteArray} {v : S23} {args : List S26} (hk : (kind expr_operator.kind cols ⟨k0, s, v, args⟩).2 = 0) (h1 : k0 ≠ 1) (h2 : k0 ≠ 2) :
    (kinds expr_operator.kind cols args).2 = 0 ∧ (expr_operator.kind s.toList (kinds expr_operator.kind cols args).1).2 = 0 ∧ kind expr_operator.kind cols ⟨k0, s, v, args⟩ = expr_operator.kind s.toList (kinds expr_operator.kind cols args).1 := by
  simp only [kind] at hk ⊢
  rw [if_neg h1, if_neg h2] at hk ⊢
  by_cases h3 : k0 = 3
  · rw [if_pos h3] at hk ⊢
    by_cases h4 : (kinds expr_operator.kind cols args).2 = 0
    · rw [if_pos h4] at hk ⊢
      by_cases h5 : (!(v.f0 == 0) || (!(v.f1 == 0) || (!(v.f2.toList == ([] : List UInt8))))) = true
      · rw [if_pos h5] at hk
        simp at hk
      · rw [if_neg h5] at hk ⊢
        exact ⟨h4, hk, rfl⟩
    · rw [if_neg h4] at hk
      exact absurd hk h4
  · rw [if_neg h3] at hk
    simp at hk
variable (hR : row.length = cols.length) (hO : rowOk row cols = true) (hV : ∀ v ∈ row, W23 v)
include hR hO hV
mutual
theorem value_ev : ∀ (e : S26), W26 e → parts e ≤ 4096 → (kind expr_operator.kind cols e).2 = 0 → Ev (fun k => expr_eval.f k n0 cols i2 i3 i4 m5 m6 m7 i8 i9 i10 row e.f0 e.f1 e.f2.f0 e.f2.f1 e.f2.f2 e.f3) (t4 (value cols row e)) ∧ Told (value cols row e) (kind expr_operator.kind cols e).1
  | ⟨k0, s, v, args⟩, hW, hp, hk => by
    simp only [parts] at hp
    have hln := length_parts args
    by_cases h1 : k0 = 1
    · have hm : may v = true ∧ kind expr_operator.kind cols ⟨k0, s, v, args⟩ = (v.f0, 0) := by
        simp only [kind] at hk ⊢
        rw [if_pos h1] at hk ⊢
        by_cases h2 : s.toList = []
        · rw [if_pos h2] at hk ⊢
          by_cases h3 : (args.length : Int) > 0
          · rw [if_pos h3] at hk
            simp at hk
          · rw [if_neg h3] at hk ⊢
            by_cases h4 : may v = true
            · rw [if_pos h4]
              exact ⟨h4, rfl⟩
            · rw [if_neg h4] at hk
              simp at hk
        · rw [if_neg h2] at hk
          simp at hk
      refine ⟨Ev.succ ?_, ?_⟩
      · simp only [expr_eval.f, value, if_pos h1]
        exact Ev.now _
      · rw [hm.2]
        simp only [value, if_pos h1]
        exact .inl ⟨rfl, hm.1, .inl rfl, wf_fits (W26.h2 hW).h1⟩
    · by_cases h2 : k0 = 2
      · have hm : ¬ col cols s < 0 ∧ kind expr_operator.kind cols ⟨k0, s, v, args⟩ = ((rd_T57 cols (col cols s)).f1, 0) := by
          simp only [kind] at hk ⊢
          rw [if_neg h1, if_pos h2] at hk ⊢
          by_cases h3 : col cols s < 0
          · rw [if_pos h3] at hk
            simp at hk
          · rw [if_neg h3] at hk ⊢
            by_cases h4 : (args.length : Int) > 0
            · rw [if_pos h4] at hk
              simp at hk
            · rw [if_neg h4] at hk ⊢
              by_cases h5 : (!(v.f0 == 0) || (!(v.f1 == 0) || (!(v.f2.toList == ([] : List UInt8))))) = true
              · rw [if_pos h5] at hk
                simp at hk
              · rw [if_neg h5]
                exact ⟨h3, rfl⟩
        have hc : col cols s < (cols.length : Int) := by
          have h3 := hm.1
          unfold col at h3 ⊢
          split
          · rename_i i hi
            have := (List.findIdx?_eq_some_iff_getElem.1 hi).1
            omega
          · rename_i hi
            rw [hi] at h3
            simp at h3
        refine ⟨Ev.succ ?_, ?_⟩
        · simp only [expr_eval.f, value, if_neg h1, if_pos h2, col_eq, Option.bind_some]
          refine Ev.pos (by omega) (Ev.pos (by omega) ?_)
          exact Ev.now _
        · rw [hm.2]
          simp only [value, if_neg h1, if_pos h2]
          obtain ⟨i, hi⟩ : ∃ i : Nat, col cols s = (i : Int) := ⟨(col cols s).toNat, by omega⟩
          have ho := rowOk_at hO i (by omega)
          rw [hi]
          exact .inl ⟨rfl, ho.1, ho.2, fit_row hV _⟩
      · obtain ⟨ha, hb, he⟩ := kind_of_op cols hk h1 h2
        have hall := (W26.h3 hW).2
        have ih := values_ev args [] [] hall (by omega) (by simp only [List.nil_append]; omega) rfl (fun v hv => by simp at hv) ha ⟨k0, s, v, args⟩ [] (by simpa using hb) trivial
        rw [he]
        refine ⟨Ev.succ ?_, ?_⟩
        · simp only [expr_eval.f, value, if_neg h1, if_neg h2]
          simpa using ih.1
        · simp only [value, if_neg h1, if_neg h2]
          have h5 := ih.2
          rcases h5 with ⟨h6, h7⟩ | h6
          · rw [if_pos h6]
            exact does_told _ _ _ hb h7
          · rw [if_neg (by rcases h6 with h | h <;> omega)]
            exact .inr ⟨rfl, h6⟩
theorem values_ev : ∀ (l pre : List S26) (acc : List S23), (∀ x ∈ l, W26 x) → partsL l ≤ 4096 → (pre ++ l).length ≤ 4096 → acc.length = pre.length → (∀ v ∈ acc, fits v.f1 = true) → (kinds expr_operator.kind cols l).2 = 0 → ∀ (e : S26) (ks : List Int), (expr_operator.kind e.f1.toList (ks ++ (kinds expr_operator.kind cols l).1)).2 = 0 → OkL acc ks →
    Ev (fun k => expr_eval.l0 k row acc (pre ++ l) ((pre ++ l).length : Int) (pre.length : Int) n0 cols i2 i3 i4 m5 m6 m7 i8 i9 i10 e.f0 e.f1 e.f2.f0 e.f2.f1 e.f2.f2 e.f3) (t4 (if (values cols row l).2 = 0 then does e.f1.toList (acc ++ (values cols row l).1) else (null, (values cols row l).2))) ∧
    (((values cols row l).2 = 0 ∧ OkL (values cols row l).1 (kinds expr_operator.kind cols l).1) ∨ ((values cols row l).2 = 5 ∨ (values cols row l).2 = 17))
  | [], pre, acc, _, _, hl, ha, hfa, hk, e, ks, hop, hok => by
    refine ⟨Ev.succ ?_, .inl ⟨rfl, trivial⟩⟩
    simp only [expr_eval.l0, values, List.append_nil, if_true]
    refine Ev.neg (by omega) ?_
    simp only [kinds, List.append_nil] at hop
    exact Ev.bind (does_ev e.f1 ks acc hop hok.len hfa) (Ev.now _)
  | a :: l, pre, acc, hW, hp, hl, ha, hfa, hk, e, ks, hop, hok => by
    simp only [partsL] at hp
    have hlen : pre.length < (pre ++ a :: l).length := by simp
    have hwi : wrap64 ((pre.length : Int) + 1) = ((pre ++ [a]).length : Int) := by rw [wrap_in (by omega) (by omega)]; simp
    have hka : (kind expr_operator.kind cols a).2 = 0 ∧ (kinds expr_operator.kind cols l).2 = 0 ∧ (kinds expr_operator.kind cols (a :: l)).1 = (kind expr_operator.kind cols a).1 :: (kinds expr_operator.kind cols l).1 := by
      simp only [kinds] at hk ⊢
      by_cases h1 : (kind expr_operator.kind cols a).2 = 0
      · rw [if_pos h1] at hk ⊢
        by_cases h2 : (kinds expr_operator.kind cols l).2 = 0
        · rw [if_pos h2]
          exact ⟨h1, h2, rfl⟩
        · rw [if_neg h2] at hk
          exact absurd hk h2
      · rw [if_neg h1] at hk
        exact absurd hk h1
    have h1 := value_ev a (hW a (by simp)) (by omega) hka.1
    rw [hka.2.2] at hop
    by_cases hz : (value cols row a).2 = 0
    · have hoa : Ok (value cols row a).1 (kind expr_operator.kind cols a).1 := by
        rcases h1.2 with h | h
        · exact h.2
        · rcases h.2 with h | h <;> omega
      have hap : ∀ (l1 : List S23) (k1 : List Int), OkL l1 k1 → OkL (l1 ++ [(value cols row a).1]) (k1 ++ [(kind expr_operator.kind cols a).1]) := by
        intro l1
        induction l1 with
        | nil =>
          intro k1 h
          cases k1 with
          | nil => exact ⟨hoa, trivial⟩
          | cons => exact h.elim
        | cons v l1 ih =>
          intro k1 h
          cases k1 with
          | nil => exact h.elim
          | cons kk k1 => exact ⟨h.1, ih k1 h.2⟩
      have ih := values_ev l (pre ++ [a]) (acc ++ [(value cols row a).1]) (fun x hx => hW x (by simp [hx])) (by omega) (by simpa using hl) (by simp [ha]) (fun v hv => by
        rcases List.mem_append.1 hv with h | h
        · exact hfa v h
        · rw [List.mem_singleton.1 h]
          exact hoa.2.2) hka.2.1 e (ks ++ [(kind expr_operator.kind cols a).1]) (by simpa using hop) (hap acc ks hok)
      have e1 : (pre ++ [a]) ++ l = pre ++ a :: l := by simp
      rw [e1] at ih
      refine ⟨Ev.succ ?_, ?_⟩
      · simp only [expr_eval.l0, values, hwi, rd_mid]
        refine Ev.pos (by omega) (Ev.pos (by omega) (Ev.pos (by omega) (Ev.bind h1.1 ?_)))
        simp only [if_pos hz]
        refine Ev.pos hz (Ev.pos (by omega) ?_)
        by_cases hy : (values cols row l).2 = 0
        · have h9 := ih.1
          simp only [if_pos hy, if_true] at h9 ⊢
          rw [List.append_assoc] at h9
          exact h9
        · have h9 := ih.1
          simp only [if_neg hy] at h9 ⊢
          exact h9
      · simp only [values, if_pos hz]
        rw [hka.2.2]
        by_cases hy : (values cols row l).2 = 0
        · rw [if_pos hy]
          rcases ih.2 with h | h
          · exact .inl ⟨rfl, hoa, h.2⟩
          · rcases h with h | h <;> omega
        · rw [if_neg hy]
          rcases ih.2 with h | h
          · exact absurd h.1 hy
          · exact .inr h
    · have hte : (value cols row a).2 = 5 ∨ (value cols row a).2 = 17 := by
        rcases h1.2 with h | h
        · exact absurd h.1 hz
        · exact h.2
      refine ⟨Ev.succ ?_, ?_⟩
      · simp only [expr_eval.l0, values, hwi, rd_mid]
        refine Ev.pos (by omega) (Ev.pos (by omega) (Ev.pos (by omega) (Ev.bind h1.1 ?_)))
        simp only [if_neg hz]
        exact Ev.neg hz (Ev.now _)
      · simp only [values, if_neg hz]
        exact .inr hte
end
end
/-- What Eval makes of a row and a tree. -/
def evalOf (cols : List S57) (row : List S23) (e : S26) : S23 × Int :=
  if (typeOf cols e).2 = 0 then (if (row.length : Int) = (cols.length : Int) then (if rowOk row cols = true then value cols row e else (null, 9)) else (null, 9)) else (null, (typeOf cols e).2)
theorem typeOf_ok {cols : List S57} {e : S26} (h : (typeOf cols e).2 = 0) : typeOf cols e = kind expr_operator.kind cols e ∧ parts e ≤ 4096 := by
  unfold typeOf at h ⊢
  by_cases hs : (small e 1 0).1 = true
  · rw [if_pos hs]
    have := (small_parts e 1 0 hs).2
    exact ⟨rfl, by omega⟩
  · rw [if_neg hs] at h
    simp at h
section
variable (n0 : ByteArray) (cols : List S57) (i2 i3 i4 : Int) (m5 m6 m7 : List Int) (i8 i9 i10 : Int) (row : List S23)
theorem rows_ev (e : S26) (r : S23 × Int) (hr : rowOk row cols = true → Ev (fun k => expr_eval.f k n0 cols i2 i3 i4 m5 m6 m7 i8 i9 i10 row e.f0 e.f1 e.f2.f0 e.f2.f1 e.f2.f2 e.f3) (t4 r)) (hrow : row.length ≤ 9223372036854775807) : ∀ (l pre : List S23) (cl cp : List S57), pre ++ l = row → cp ++ cl = cols → pre.length = cp.length → l.length = cl.length → rowOk pre cp = true →
    (rowOk row cols = rowOk l cl) → Ev (fun k => expr_Eval.l0 k row row (row.length : Int) (pre.length : Int) n0 cols i2 i3 i4 m5 m6 m7 i8 i9 i10 e.f0 e.f1 e.f2.f0 e.f2.f1 e.f2.f2 e.f3) (t4 (if rowOk l cl = true then r else (null, 9)))
  | [], pre, cl, cp, h1, h2, h3, h4, _, h7 => by
    refine Ev.succ ?_
    simp only [expr_Eval.l0, rowOk, if_true]
    have : pre.length = row.length := by rw [← h1]; simp
    refine Ev.neg (by omega) ?_
    exact Ev.bind (hr (by rw [h7]; rfl)) (Ev.now _)
  | v :: l, pre, [], cp, h1, h2, h3, h4, _, _ => by simp at h4
  | v :: l, pre, c :: cl, cp, h1, h2, h3, h4, h5, h7 => by
    have hlen : row.length = pre.length + l.length + 1 := by rw [← h1]; simp; omega
    have hclen : cols.length = cp.length + cl.length + 1 := by rw [← h2]; simp; omega
    have ev : rd_T23 row (pre.length : Int) = v := by rw [← h1]; exact rd_row_mid pre l v
    have ec : rd_T57 cols (pre.length : Int) = c := by rw [← h2, h3]; exact rd_col_mid cp cl c
    have hwi : wrap64 ((pre.length : Int) + 1) = ((pre ++ [v]).length : Int) := by rw [wrap_in (by omega) (by omega)]; simp
    have sp : ∀ (p : List S23) (q : List S57), p.length = q.length → rowOk p q = true → may v = true → (v.f0 == c.f1 || v.f0 == 0) = true → rowOk (p ++ [v]) (q ++ [c]) = true := by
      intro p
      induction p with
      | nil =>
        intro q hq _ hm hk
        cases q with
        | nil => simp [rowOk, hm, hk]
        | cons => simp at hq
      | cons u p ih =>
        intro q hq ho hm hk
        cases q with
        | nil => simp at hq
        | cons d q =>
          simp only [List.cons_append, rowOk, Bool.and_eq_true] at ho ⊢
          exact ⟨ho.1, ih q (by simpa using hq) ho.2 hm hk⟩
    refine Ev.succ ?_
    simp only [expr_Eval.l0, ev, ec, may_eq, Option.bind_some, hwi]
    refine Ev.pos (by omega) (Ev.pos (by omega) (Ev.pos (by omega) ?_))
    by_cases hm : may v = true
    · refine Ev.pos hm (Ev.pos (by omega) ?_)
      by_cases hk : (v.f0 == c.f1 || v.f0 == 0) = true
      · have e7 : rowOk (v :: l) (c :: cl) = rowOk l cl := by simp only [rowOk, hm, hk, Bool.true_and]
        have ih := rows_ev e r hr hrow l (pre ++ [v]) cl (cp ++ [c]) (by rw [← h1]; simp) (by rw [← h2]; simp) (by simp [h3]) (by simpa using h4) (sp pre cp h3 h5 hm hk) (h7.trans e7)
        rw [e7]
        by_cases hq : v.f0 = c.f1
        · exact Ev.pos hq ih
        · refine Ev.neg hq (Ev.pos ?_ ih)
          simpa [hq] using hk
      · have e7 : rowOk (v :: l) (c :: cl) = false := by simp only [rowOk, hk, Bool.and_false, Bool.false_and]
        rw [e7]
        simp only [Bool.or_eq_true, beq_iff_eq, not_or] at hk
        exact Ev.neg hk.1 (Ev.neg hk.2 (Ev.now _))
    · have e7 : rowOk (v :: l) (c :: cl) = false := by simp only [rowOk, Bool.not_eq_true _ ▸ hm, Bool.false_and]
      rw [e7]
      exact Ev.neg hm (Ev.now _)
theorem eval_ev (e : S26) (hW : W26 e) (hV : ∀ v ∈ row, W23 v) (hrow : row.length ≤ 9223372036854775807) : Ev (fun k => expr_Eval.f k n0 cols i2 i3 i4 m5 m6 m7 i8 i9 i10 row e.f0 e.f1 e.f2.f0 e.f2.f1 e.f2.f2 e.f3) (t4 (evalOf cols row e)) := by
  have ht := type_ev n0 cols i2 i3 i4 m5 m6 m7 i8 i9 i10 e hW
  simp only [expr_Eval.f]
  refine Ev.bind ht ?_
  unfold evalOf
  by_cases h0 : (typeOf cols e).2 = 0
  · simp only [if_pos h0]
    by_cases h1 : (row.length : Int) = (cols.length : Int)
    · simp only [if_pos h1]
      obtain ⟨he, hp⟩ := typeOf_ok h0
      rw [he] at h0
      have h := rows_ev n0 cols i2 i3 i4 m5 m6 m7 i8 i9 i10 row e (value cols row e) (fun hO => (value_ev n0 cols i2 i3 i4 m5 m6 m7 i8 i9 i10 row (by omega) hO hV e hW hp h0).1) hrow row [] cols [] rfl rfl rfl (by omega) rfl rfl
      exact h
    · simp only [if_neg h1]
      exact Ev.now _
  · simp only [if_neg h0]
    exact Ev.now _
/-- A value that there is has the kind that was told, or is null; with an error it is nothing. -/
theorem eval_told (e : S26) (hW : W26 e) (hV : ∀ v ∈ row, W23 v) : ((typeOf cols e).2 ≠ 0 ∧ evalOf cols row e = (null, (typeOf cols e).2)) ∨ ((typeOf cols e).2 = 0 ∧ (evalOf cols row e = (null, 9) ∨ Told (evalOf cols row e) (typeOf cols e).1)) := by
  unfold evalOf
  by_cases h0 : (typeOf cols e).2 = 0
  · rw [if_pos h0]
    refine .inr ⟨h0, ?_⟩
    by_cases h1 : (row.length : Int) = (cols.length : Int)
    · rw [if_pos h1]
      by_cases h2 : rowOk row cols = true
      · rw [if_pos h2]
        obtain ⟨he, hp⟩ := typeOf_ok h0
        rw [he] at h0 ⊢
        exact .inr (value_ev ⟨#[]⟩ cols 0 0 0 [] [] [] 0 0 0 row (by omega) h2 hV e hW hp h0).2
      · rw [if_neg h2]
        exact .inl rfl
    · rw [if_neg h1]
      exact .inl rfl
  · rw [if_neg h0]
    exact .inl ⟨h0, rfl⟩
end
end Go.Proofs.Ytpmecpmankpcbaa.EK
