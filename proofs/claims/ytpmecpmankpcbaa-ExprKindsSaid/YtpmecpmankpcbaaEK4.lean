/- What operators make of values, and the values of expressions: the printed functions come to the plain ones. No conditions. -/
import Derived.Test.YtpmecpmankpcbaaEK3
import Derived.Test.YtpmecpmankpcbaaPKx15
namespace Go.Proofs.Ytpmecpmankpcbaa.EK
open Go.RowKit Go.Proofs.YtpmecpmankpcbaaW.PrintWords Go.Proofs.YtpmecpmankpcbaaW.PrintLast Go.Proofs.Ytpmecpmankpcbaa.PK
set_option linter.unusedVariables false
set_option linter.unusedSimpArgs false

def t3 (v : S23) : Int × Int × ByteArray := (v.f0, v.f1, v.f2)
def t4 (v : S23 × Int) : Int × Int × ByteArray × Int := (v.1.f0, v.1.f1, v.1.f2, v.2)
theorem truth_eq (b : Bool) : expr_truth.f b = some (t3 (truth b)) := by
  cases b <;> rfl
theorem null_eq (a b : Int) (c : ByteArray) : expr_null.f a b c = some (isNull ⟨a, b, c⟩) := rfl
theorem number_eq (x : Int × Int) : expr_number.f x.1 x.2 = some (t4 (number x)) := by
  unfold expr_number.f number
  by_cases h : x.2 = 0
  · rw [if_pos h, if_pos h]; rfl
  · rw [if_neg h, if_neg h]; rfl
theorem holds_eq (s : ByteArray) (c : Int) : expr_holds.f s c = some (holds s.toList c) := by
  unfold expr_holds.f holds
  repeat' split
  all_goals rfl
theorem reckon_eq (s : ByteArray) {a b : Int} (ha : fits a = true) (hb : fits b = true) : expr_reckon.f s a b = some (reckon s.toList a b) := by
  have ha' := (fits_iff _).1 ha
  have hb' := (fits_iff _).1 hb
  unfold expr_reckon.f reckon
  rw [add_eq ha hb, sub_eq ha hb, mul_eq ha hb, sub_eq (by decide) ha]
  simp only [Option.bind_some]
  by_cases h1 : s.toList = [43]
  · simp only [if_pos h1]
  · simp only [if_neg h1]
    by_cases h2 : s.toList = [45]
    · simp only [if_pos h2]
    · simp only [if_neg h2]
      by_cases h3 : s.toList = [42]
      · simp only [if_pos h3]
      · simp only [if_neg h3]
        by_cases h4 : b = 0
        · simp only [if_pos h4]
        · simp only [if_neg h4]
          by_cases h5 : s.toList = [37]
          · simp only [if_pos h5]
          · simp only [if_neg h5]
            by_cases h6 : b = -1
            · simp only [if_pos h6]
            · simp only [if_neg h6]
              have hq : fits (Int.tdiv a b) = true := by
                rw [fits_iff]
                by_cases h9 : b = 1
                · subst h9
                  rw [Int.tdiv_one]
                  exact ha'
                · have h7 := Int.natAbs_tdiv a b
                  have h11 : (Int.tdiv a b).natAbs = a.natAbs / b.natAbs := h7
                  have h10 : a.natAbs / b.natAbs ≤ a.natAbs / 2 := Nat.div_le_div_left (by omega) (by omega)
                  generalize Int.tdiv a b = q at *
                  omega
              have := (fits_iff _).1 hq
              rw [wrap_in this.1 this.2]
theorem rd0 (x : S23) (l : List S23) : rd_T23 (x :: l) 0 = x := rfl
theorem rd1 (x y : S23) (l : List S23) : rd_T23 (x :: y :: l) 1 = y := rfl
theorem w1 : wrap64 (0 + 1) = 1 := wrap_in (by omega) (by omega)
theorem w2 : wrap64 (1 + 1) = 2 := wrap_in (by omega) (by omega)
theorem p_of {a b : Int} {c : Bool} (h : (a == b) = c) : (a = b) = (c = true) := by
  subst h
  simp
theorem nothing : (⟨#[]⟩ : ByteArray).toList = [] := by
  simp [ByteArray.toList, ByteArray.toList.loop, ByteArray.size]
theorem True_eq (v : S23) : expr_True.f v.f0 v.f1 v.f2 = some (v.f0 == 1 && (v.f1 == 1 && (v.f2.toList == []))) := by
  unfold expr_True.f
  rw [truth_eq]
  simp only [Option.bind_some, t3, truth, nothing, if_true]
theorem cmpInt_eq (a b : Int) : cmp_Compare_int.f a b = some (cmpInt a b) := by
  unfold cmp_Compare_int.f cmp_isNaN_int.f cmpInt
  simp only [Option.bind_some, bne_self_eq_false, Bool.false_eq_true, if_false]
  repeat' split
  all_goals first | rfl | omega
theorem cmpInt64_eq (a b : Int) : cmp_Compare_int64.f a b = some (cmpInt a b) := by
  unfold cmp_Compare_int64.f cmp_isNaN_int64.f cmpInt
  simp only [Option.bind_some, bne_self_eq_false, Bool.false_eq_true, if_false]
  repeat' split
  all_goals first | rfl | omega
theorem or3_ev (a b c : Int) : Ev (fun k => cmp_Or_int.f k [a, b, c]) (if a ≠ 0 then a else if b ≠ 0 then b else c) := by
  refine ⟨4, fun k hk => ?_⟩
  obtain ⟨k, rfl⟩ : ∃ m, k = m + 4 := ⟨k - 4, by omega⟩
  have e1 : rd [a, b, c] 0 = a := rfl
  have e2 : rd [a, b, c] 1 = b := rfl
  have e3 : rd [a, b, c] 2 = c := rfl
  have w3 : wrap64 (2 + 1) = 3 := wrap_in (by omega) (by omega)
  simp only [cmp_Or_int.f, cmp_Or_int.l0, List.length_cons, List.length_nil, e1, e2, e3, w1, w2, w3]
  by_cases h1 : a = 0
  · by_cases h2 : b = 0
    · by_cases h3 : c = 0 <;> simp [h1, h2, h3]
    · simp [h1, h2]
  · simp [h1]
theorem compare_ev (x y : S23) : Ev (fun k => value_Compare.f k x.f0 x.f1 x.f2 y.f0 y.f1 y.f2) (compare x y) := by
  simp only [value_Compare.f, cmpInt_eq, cmpInt64_eq, Option.bind_some]
  have h := or3_ev (cmpInt x.f0 y.f0) (cmpInt x.f1 y.f1) (Lib.compareBytes x.f2.data.toList y.f2.data.toList)
  have e : strings_Compare.f x.f2 y.f2 = some (Lib.compareBytes x.f2.data.toList y.f2.data.toList) := rfl
  simp only [e, Option.bind_some]
  exact Ev.bind h (Ev.now _)
theorem both2 (x y : S23) (w : Int) : Ev (fun k => expr_both.f k [x, y] w) (t3 (both [x, y] w)) := by
  refine ⟨4, fun k hk => ?_⟩
  obtain ⟨k, rfl⟩ : ∃ m, k = m + 4 := ⟨k - 4, by omega⟩
  simp only [expr_both.f, expr_both.l0, List.length_cons, List.length_nil, rd0, rd1, w1, w2, null_eq, truth_eq, Option.bind_some]
  unfold both
  cases hx : isNull x <;> cases hy : isNull y <;> cases hw : (x.f1 == w) <;> cases hv : (y.f1 == w) <;> simp [hx, hy, hw, hv, p_of hw, p_of hv, List.find?, t3, null]
/-- Which operator it is, and how many kinds it has. -/
def Unary (s : List UInt8) : Prop := s = [73, 83, 78, 85, 76, 76] ∨ s = [78, 79, 84, 78, 85, 76, 76] ∨ s = [78, 79, 84] ∨ s = [78, 69, 71]
def Reck (s : List UInt8) : Prop := s = [43] ∨ s = [45] ∨ s = [42] ∨ s = [47] ∨ s = [37]
def Comp (s : List UInt8) : Prop := s = [61] ∨ s = [60, 62] ∨ s = [60] ∨ s = [60, 61] ∨ s = [62] ∨ s = [62, 61]
def Both (s : List UInt8) : Prop := s = [79, 82] ∨ s = [65, 78, 68]
theorem tell_ok {m q : Bool} {k : Int} (h : (expr_operator.tell m q k).2 = 0) : m = true ∧ q = true ∧ (expr_operator.tell m q k).1 = k := by
  cases m <;> cases q <;> simp_all [expr_operator.tell]
theorem op_cases {s : List UInt8} {ks : List Int} (h : (expr_operator.kind s ks).2 = 0) :
    (Unary s ∧ ks.length = 1) ∨ (Both s ∧ ks.length = 2) ∨ (Reck s ∧ ks.length = 2) ∨ (Comp s ∧ ks.length = 2) := by
  unfold expr_operator.kind at h
  split at h
  · rename_i e
    exact .inl ⟨.inl e, by have := (tell_ok h).1; simp at this; omega⟩
  · split at h
    · rename_i e
      exact .inl ⟨.inr (.inl e), by have := (tell_ok h).1; simp at this; omega⟩
    · split at h
      · rename_i e
        exact .inl ⟨.inr (.inr (.inl e)), by have := (tell_ok h).1; simp at this; omega⟩
      · split at h
        · rename_i e
          exact .inl ⟨.inr (.inr (.inr e)), by have := (tell_ok h).1; simp at this; omega⟩
        · split at h
          · rename_i e
            exact .inr (.inl ⟨e, by have := (tell_ok h).1; simp at this; omega⟩)
          · split at h
            · rename_i e
              exact .inr (.inr (.inl ⟨e, by have := (tell_ok h).1; simp at this; omega⟩))
            · split at h
              · rename_i e
                exact .inr (.inr (.inr ⟨e, by have := (tell_ok h).1; simp at this; omega⟩))
              · simp at h
theorem one_of {α : Type} {l : List α} (h : l.length = 1) : ∃ x, l = [x] := by
  match l, h with
  | [x], _ => exact ⟨x, rfl⟩
theorem two_of {α : Type} {l : List α} (h : l.length = 2) : ∃ x y, l = [x, y] := by
  match l, h with
  | [x, y], _ => exact ⟨x, y, rfl⟩
theorem does_ev (s : ByteArray) (ks : List Int) (l : List S23) (hk : (expr_operator.kind s.toList ks).2 = 0) (hl : l.length = ks.length) (hf : ∀ v ∈ l, fits v.f1 = true) : Ev (fun k => expr_does.f k s l) (t4 (does s.toList l)) := by
  rcases op_cases hk with ⟨hs, hn⟩ | ⟨hs, hn⟩ | ⟨hs, hn⟩ | ⟨hs, hn⟩
  · obtain ⟨x, rfl⟩ := one_of (hl.trans hn)
    have hfx := hf x (by simp)
    refine ⟨8, fun k hk => ?_⟩
    obtain ⟨k, rfl⟩ : ∃ m, k = m + 8 := ⟨k - 8, by omega⟩
    rcases hs with hs | hs | hs | hs
    · simp [expr_does.f, does, hs, rd0, null_eq, truth_eq, t4, t3]
    · simp [expr_does.f, does, hs, rd0, null_eq, truth_eq, t4, t3]
    · simp only [expr_does.f, expr_does.l0, does, hs, rd0, null_eq, truth_eq, True_eq, List.length_cons, List.length_nil, w1, Option.bind_some]
      by_cases hx : isNull x = true
      · simp [hx, t4, null]
      · simp only [Bool.not_eq_true] at hx
        simp [hx, t4, t3]
    · simp only [expr_does.f, expr_does.l0, does, hs, rd0, null_eq, truth_eq, True_eq, List.length_cons, List.length_nil, w1, Option.bind_some, sub_eq (a := 0) (by decide) hfx, number_eq]
      by_cases hx : isNull x = true
      · simp [hx, t4, null]
      · simp only [Bool.not_eq_true] at hx
        simp [hx, t4]
  · obtain ⟨x, y, rfl⟩ := two_of (hl.trans hn)
    rcases hs with hs | hs
    · have h := both2 x y 1
      simp only [expr_does.f, does, hs]
      simp only [List.cons.injEq, reduceCtorEq, and_false, if_false, if_true]
      exact Ev.bind h (Ev.now _)
    · have h := both2 x y 0
      simp only [expr_does.f, does, hs]
      simp only [List.cons.injEq, reduceCtorEq, and_false, if_false, if_true]
      exact Ev.bind h (Ev.now _)
  · obtain ⟨x, y, rfl⟩ := two_of (hl.trans hn)
    have hfx := hf x (by simp)
    have hfy := hf y (by simp)
    refine ⟨8, fun k hk => ?_⟩
    obtain ⟨k, rfl⟩ : ∃ m, k = m + 8 := ⟨k - 8, by omega⟩
    have hr := reckon_eq s hfx hfy
    rcases hs with hs | hs | hs | hs | hs
    all_goals
      rw [hs] at hr
      simp only [expr_does.f, expr_does.l0, expr_does.j1, does, hs, rd0, rd1, null_eq, List.length_cons, List.length_nil, w1, w2, Option.bind_some, hr, number_eq]
      by_cases hx : isNull x = true
      · simp [hx, t4, null]
      · simp only [Bool.not_eq_true] at hx
        by_cases hy : isNull y = true
        · simp [hx, hy, t4, null]
        · simp only [Bool.not_eq_true] at hy
          simp [hx, hy, t4]
  · obtain ⟨x, y, rfl⟩ := two_of (hl.trans hn)
    obtain ⟨K, hc⟩ := compare_ev x y
    refine ⟨K + 8, fun k hk => ?_⟩
    have hc1 := fun j (hj : K ≤ j) => hc j hj
    obtain ⟨k, rfl⟩ : ∃ m, k = m + 8 := ⟨k - 8, by omega⟩
    rcases hs with hs | hs | hs | hs | hs | hs
    all_goals
      simp only [expr_does.f, expr_does.l0, expr_does.j1, does, hs, rd0, rd1, null_eq, List.length_cons, List.length_nil, w1, w2, Option.bind_some, holds_eq, truth_eq]
      by_cases hx : isNull x = true
      · simp [hx, t4, null]
      · simp only [Bool.not_eq_true] at hx
        by_cases hy : isNull y = true
        · simp [hx, hy, t4, null]
        · simp only [Bool.not_eq_true] at hy
          have h4 := hc1 (k + 4) (by omega)
          simp [hx, hy, t4, t3, h4]
end Go.Proofs.Ytpmecpmankpcbaa.EK
