/- The printed functions of expressions' greatness and of kinds come to the plain ones. No conditions. -/
import Derived.Test.YtpmecpmankpcbaaEK1
import Derived.Test.YtpmecpmankpcbaaPKx8
import Derived.Test.YtpmecpmankpcbaaPKx9
namespace Go.Proofs.Ytpmecpmankpcbaa.EK
open Go.RowKit Go.Proofs.YtpmecpmankpcbaaW.PrintWords Go.Proofs.YtpmecpmankpcbaaW.PrintLast Go.Proofs.Ytpmecpmankpcbaa.PK
set_option linter.unusedVariables false
set_option linter.unusedSimpArgs false

theorem Ev.succ {α : Type} {g : Nat → Option α} {r : α} (h : Ev (fun k => g (k + 1)) r) : Ev g r := Ev.step (fun _ => rfl) h
theorem Ev.pos {α : Type} {c : Prop} [Decidable c] {A B : Nat → Option α} {r : α} (hc : c) (h : Ev A r) : Ev (fun k => if c then A k else B k) r := Ev.congr (fun _ => if_pos hc) h
theorem Ev.neg {α : Type} {c : Prop} [Decidable c] {A B : Nat → Option α} {r : α} (hc : ¬ c) (h : Ev B r) : Ev (fun k => if c then A k else B k) r := Ev.congr (fun _ => if_neg hc) h
theorem Ev.const {α : Type} {a : Option α} {r : α} (h : a = some r) : Ev (fun _ => a) r := ⟨0, fun _ _ => h⟩

theorem may_eq (a b : Int) (c : ByteArray) : value_May.f a b c = some (may ⟨a, b, c⟩) := by
  unfold value_May.f may
  dsimp only
  repeat' split
  all_goals simp_all
theorem col_eq (s : ByteArray) (l : List S57) (n : ByteArray) (a b c : Int) (x y z : List Int) (d e f : Int) : schema_Col.f n l a b c x y z d e f s = some (col l s) := rfl
theorem rd_mid (pre l : List S26) (a : S26) : rd_T26 (pre ++ a :: l) (pre.length : Int) = a := by
  simp [rd_T26]
theorem wrap_in {n : Int} (h0 : -9223372036854775808 ≤ n) (h1 : n ≤ 9223372036854775807) : wrap64 n = n := by
  unfold wrap64
  omega

mutual
theorem small_ev : ∀ (e : S26), W26 e → ∀ d p : Int, 0 ≤ d → d ≤ 65 → 0 ≤ p → p ≤ 4096 → Ev (fun k => expr_small.f k e.f3 d p) (small e d p) ∧ ((small e d p).1 = true → 0 ≤ (small e d p).2 ∧ (small e d p).2 ≤ 4096)
  | ⟨k0, s, v, args⟩, hW, d, p, hd0, hd1, hp0, hp1 => by
    have hw : wrap64 (p + 1) = p + 1 := wrap_in (by omega) (by omega)
    have hl := (W26.h3 hW)
    by_cases h1 : d > 64
    · refine ⟨Ev.succ ?_, ?_⟩
      · simp only [expr_small.f, small, hw]
        exact Ev.pos h1 (Ev.const (by rw [if_pos h1]))
      · simp only [small]
        rw [if_pos h1]
        intro h
        simp at h
    · by_cases h2 : p + 1 > 4096
      · refine ⟨Ev.succ ?_, ?_⟩
        · simp only [expr_small.f, small, hw]
          exact Ev.neg h1 (Ev.pos h2 (Ev.const (by rw [if_neg h1, if_pos h2])))
        · simp only [small]
          rw [if_neg h1, if_pos h2]
          intro h
          simp at h
      · have ih := smallL_ev args [] hl.2 (by simpa using hl.1) d (p + 1) hd0 (by omega) (by omega) (by omega)
        refine ⟨Ev.succ ?_, ?_⟩
        · simp only [expr_small.f, small, hw]
          rw [if_neg h1, if_neg h2]
          exact Ev.neg h1 (Ev.neg h2 ih.1)
        · simp only [small]
          rw [if_neg h1, if_neg h2]
          exact ih.2
theorem smallL_ev : ∀ (l pre : List S26), (∀ x ∈ l, W26 x) → (pre ++ l).length ≤ maxLen → ∀ d p : Int, 0 ≤ d → d ≤ 64 → 0 ≤ p → p ≤ 4096 → Ev (fun k => expr_small.l0 k d (pre.length : Int) p (pre ++ l)) (smallL l d p) ∧ ((smallL l d p).1 = true → 0 ≤ (smallL l d p).2 ∧ (smallL l d p).2 ≤ 4096)
  | [], pre, _, hl, d, p, hd0, hd1, hp0, hp1 => by
    refine ⟨Ev.succ ?_, fun _ => ⟨hp0, hp1⟩⟩
    simp only [expr_small.l0, smallL, List.append_nil]
    exact Ev.neg (by omega) (Ev.now _)
  | a :: l, pre, hW, hl, d, p, hd0, hd1, hp0, hp1 => by
    have hlen : pre.length < (pre ++ a :: l).length := by simp
    have hmax : (pre ++ a :: l).length ≤ 9223372036854775807 := by unfold maxLen at hl; omega
    have ha := small_ev a (hW a (by simp)) (d + 1) p (by omega) (by omega) hp0 hp1
    have hwd : wrap64 (d + 1) = d + 1 := wrap_in (by omega) (by omega)
    have hwi : wrap64 ((pre.length : Int) + 1) = ((pre ++ [a]).length : Int) := by rw [wrap_in (by omega) (by omega)]; simp
    by_cases hb : (small a (d + 1) p).1 = true
    · have hq := ha.2 hb
      have ih := smallL_ev l (pre ++ [a]) (fun x hx => hW x (by simp [hx])) (by simpa using hl) d (small a (d + 1) p).2 hd0 hd1 hq.1 hq.2
      refine ⟨Ev.succ ?_, ?_⟩
      · simp only [expr_small.l0, smallL, hwd, hwi, rd_mid]
        rw [if_pos hb]
        refine Ev.pos (by omega) (Ev.pos (by omega) (Ev.bind ha.1 (Ev.pos hb ?_)))
        have e : (pre ++ [a]) ++ l = pre ++ a :: l := by simp
        rw [e] at ih
        exact ih.1
      · simp only [smallL]
        rw [if_pos hb]
        exact ih.2
    · refine ⟨Ev.succ ?_, ?_⟩
      · simp only [expr_small.l0, smallL, hwd, hwi, rd_mid]
        rw [if_neg hb]
        exact Ev.pos (by omega) (Ev.pos (by omega) (Ev.bind ha.1 (Ev.neg hb (Ev.now _))))
      · simp only [smallL]
        rw [if_neg hb]
        intro h
        simp at h
end

/-! ## a tree that is not too great has few parts -/
mutual
theorem small_parts : ∀ (e : S26) (d p : Int), (small e d p).1 = true → (small e d p).2 = p + parts e ∧ p + parts e ≤ 4096
  | ⟨k0, s, v, args⟩, d, p, h => by
    simp only [small] at h ⊢
    by_cases h1 : d > 64
    · rw [if_pos h1] at h
      simp at h
    · rw [if_neg h1] at h ⊢
      by_cases h2 : p + 1 > 4096
      · rw [if_pos h2] at h
        simp at h
      · rw [if_neg h2] at h ⊢
        have ih := smallL_parts args d (p + 1) h (by omega)
        simp only [parts]
        omega
theorem smallL_parts : ∀ (l : List S26) (d p : Int), (smallL l d p).1 = true → p ≤ 4096 → (smallL l d p).2 = p + partsL l ∧ p + partsL l ≤ 4096
  | [], d, p, _, hp => by
    simp only [smallL, partsL]
    omega
  | a :: l, d, p, h, _ => by
    simp only [smallL] at h ⊢
    by_cases hb : (small a (d + 1) p).1 = true
    · rw [if_pos hb] at h ⊢
      have h1 := small_parts a (d + 1) p hb
      have h2 := smallL_parts l d _ h (by omega)
      simp only [partsL]
      omega
    · rw [if_neg hb] at h
      simp at h
end
theorem length_parts : ∀ l : List S26, l.length ≤ partsL l
  | [] => by simp [partsL]
  | a :: l => by
    have := length_parts l
    have h : 1 ≤ parts a := by
      cases a
      simp only [parts]
      omega
    simp only [partsL, List.length_cons]
    omega

/-! ## kinds -/
theorem loop_kinds_len (opk : List UInt8 → List Int → Int × Int) (cols : List S57) : ∀ l : List S26, (kinds opk cols l).2 = 0 → (kinds opk cols l).1.length = l.length
  | [], _ => by simp [kinds]
  | a :: l, h => by
    simp only [kinds] at h ⊢
    by_cases ha : (kind opk cols a).2 = 0
    · rw [if_pos ha] at h ⊢
      by_cases hl : (kinds opk cols l).2 = 0
      · rw [if_pos hl]
        simp [loop_kinds_len opk cols l hl]
      · rw [if_neg hl] at h
        exact absurd h hl
    · rw [if_neg ha] at h
      exact absurd h ha
section
variable (n0 : ByteArray) (cols : List S57) (i2 i3 i4 : Int) (m5 m6 m7 : List Int) (i8 i9 i10 : Int)
mutual
theorem kind_ev : ∀ (e : S26), parts e ≤ 4096 → Ev (fun k => expr_typed.f k n0 cols i2 i3 i4 m5 m6 m7 i8 i9 i10 e.f0 e.f1 e.f2.f0 e.f2.f1 e.f2.f2 e.f3) (kind expr_operator.kind cols e)
  | ⟨k0, s, v, args⟩, hp => by
    simp only [parts] at hp
    have hln := length_parts args
    refine Ev.succ ?_
    simp only [expr_typed.f, kind, may_eq, col_eq, Option.bind_some]
    by_cases h1 : k0 = 1
    · simp only [if_pos h1]
      by_cases h2 : s.toList = []
      · simp only [if_pos h2]
        by_cases h3 : (args.length : Int) > 0
        · simp only [if_pos h3]
          exact Ev.now _
        · simp only [if_neg h3]
          by_cases h4 : may v = true
          · simp only [h4, if_true]
            exact Ev.now _
          · simp only [Bool.not_eq_true] at h4
            simp only [h4]
            exact Ev.now _
      · simp only [if_neg h2]
        exact Ev.now _
    · simp only [if_neg h1]
      by_cases h2 : k0 = 2
      · simp only [if_pos h2]
        by_cases h3 : col cols s < 0
        · simp only [if_pos h3]
          exact Ev.now _
        · simp only [if_neg h3]
          by_cases h4 : (args.length : Int) > 0
          · simp only [if_pos h4]
            exact Ev.now _
          · simp only [if_neg h4]
            by_cases h5 : (!(v.f0 == 0) || (!(v.f1 == 0) || (!(v.f2.toList == ([] : List UInt8))))) = true
            · simp only [if_pos h5]
              exact Ev.now _
            · simp only [if_neg h5]
              have hc : col cols s < (cols.length : Int) := by
                unfold col at h3 ⊢
                split
                · rename_i i hi
                  have := (List.findIdx?_eq_some_iff_getElem.1 hi).1
                  omega
                · rename_i hi
                  rw [hi] at h3
                  simp at h3
              rw [if_pos (by omega), if_pos hc]
              exact Ev.now _
      · simp only [if_neg h2]
        by_cases h3 : k0 = 3
        · simp only [if_pos h3]
          have ih := kinds_ev args [] [] (by omega) (by simp only [List.nil_append]; omega) rfl ⟨k0, s, v, args⟩
          simpa using ih
        · simp only [if_neg h3]
          exact Ev.now _
theorem kinds_ev : ∀ (l pre : List S26) (acc : List Int), partsL l ≤ 4096 → (pre ++ l).length ≤ 4096 → acc.length = pre.length → ∀ e : S26, Ev (fun k => expr_typed.l0 k acc (pre ++ l) ((pre ++ l).length : Int) (pre.length : Int) n0 cols i2 i3 i4 m5 m6 m7 i8 i9 i10 e.f0 e.f1 e.f2.f0 e.f2.f1 e.f2.f2 e.f3)
    (if (kinds expr_operator.kind cols l).2 = 0 then (if (!(e.f2.f0 == 0) || (!(e.f2.f1 == 0) || (!(e.f2.f2.toList == ([] : List UInt8))))) = true then (0, 9) else expr_operator.kind e.f1.toList (acc ++ (kinds expr_operator.kind cols l).1)) else (0, (kinds expr_operator.kind cols l).2))
  | [], pre, acc, _, hl, ha, e => by
    refine Ev.succ ?_
    simp only [expr_typed.l0, kinds, List.append_nil, if_true]
    refine Ev.neg (by omega) ?_
    by_cases h5 : (!(e.f2.f0 == 0) || (!(e.f2.f1 == 0) || (!(e.f2.f2.toList == ([] : List UInt8))))) = true
    · simp only [if_pos h5]
      exact Ev.now _
    · simp only [if_neg h5]
      exact Ev.now _
  | a :: l, pre, acc, hp, hl, ha, e => by
    simp only [partsL] at hp
    have hlen : pre.length < (pre ++ a :: l).length := by simp
    have hwi : wrap64 ((pre.length : Int) + 1) = ((pre ++ [a]).length : Int) := by rw [wrap_in (by omega) (by omega)]; simp
    have h1 := kind_ev a (by omega)
    refine Ev.succ ?_
    simp only [expr_typed.l0, kinds, hwi, rd_mid]
    refine Ev.pos (by omega) (Ev.pos (by omega) (Ev.pos (by omega) (Ev.bind h1 ?_)))
    by_cases hz : (kind expr_operator.kind cols a).2 = 0
    · simp only [if_pos hz]
      refine Ev.pos (by omega) ?_
      have ih := kinds_ev l (pre ++ [a]) (acc ++ [(kind expr_operator.kind cols a).1]) (by omega) (by simpa using hl) (by simp [ha]) e
      have e1 : (pre ++ [a]) ++ l = pre ++ a :: l := by simp
      rw [e1] at ih
      by_cases hy : (kinds expr_operator.kind cols l).2 = 0
      · simp only [if_pos hy, if_true] at ih ⊢
        simpa using ih
      · simp only [if_neg hy] at ih ⊢
        exact ih
    · simp only [if_neg hz]
      exact Ev.now _
end
/-- What Type makes of a tree. -/
def typeOf (cols : List S57) (e : S26) : Int × Int := if (small e 1 0).1 = true then kind expr_operator.kind cols e else (0, 3)
theorem type_ev (e : S26) (hW : W26 e) : Ev (fun k => expr_Type.f k n0 cols i2 i3 i4 m5 m6 m7 i8 i9 i10 e.f0 e.f1 e.f2.f0 e.f2.f1 e.f2.f2 e.f3) (typeOf cols e) := by
  have hs := small_ev e hW 1 0 (by omega) (by omega) (by omega) (by omega)
  unfold typeOf
  simp only [expr_Type.f]
  refine Ev.bind hs.1 ?_
  by_cases h : (small e 1 0).1 = true
  · simp only [if_pos h]
    have hp := small_parts e 1 0 h
    exact kind_ev n0 cols i2 i3 i4 m5 m6 m7 i8 i9 i10 e (by omega)
  · simp only [if_neg h]
    exact Ev.now _
end
end Go.Proofs.Ytpmecpmankpcbaa.EK
