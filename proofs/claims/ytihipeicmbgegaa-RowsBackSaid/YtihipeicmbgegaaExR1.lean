/- Numbers, rising, each once: what slices.Sort and slices.Compact make of a row. No conditions. -/
import Derived.Test.YtihipeicmbgegaaCxR
import Derived.Lib.SlicesCompact
namespace Go.Proofs.Ytihipeicmbgegaa.Rf
open Go Go.Proofs
set_option linter.unusedVariables false
set_option linter.unusedSimpArgs false
theorem insI_comm (x y : Int) : ∀ l : List Int, insI x (insI y l) = insI y (insI x l)
  | [] => by
    simp only [insI]
    by_cases h1 : x < y
    · rw [if_pos h1, if_neg (by omega), if_neg (by omega)]
    · by_cases h2 : x = y
      · subst h2; rfl
      · rw [if_neg h1, if_neg h2, if_pos (by omega)]
  | z :: l => by
    have ih := insI_comm x y l
    simp only [insI]
    by_cases h1 : y < z
    · rw [if_pos h1]
      by_cases h2 : x < z
      · rw [if_pos h2]
        simp only [insI]
        by_cases h3 : x < y
        · rw [if_pos h3, if_neg (by omega), if_neg (by omega), if_pos h1]
        · by_cases h4 : x = y
          · subst h4; rfl
          · rw [if_neg h3, if_neg h4, if_pos h2, if_pos (by omega)]
      · rw [if_neg h2]
        by_cases h3 : x = z
        · subst h3
          rw [if_pos rfl]
          simp only [insI]
          rw [if_neg (by omega), if_true, if_pos h1, if_neg (show ¬ x = y by omega), if_neg h2]
        · rw [if_neg h3]
          simp only [insI]
          rw [if_neg (by omega), if_neg (by omega), if_neg (by omega), if_neg h3, if_pos h1]
    · rw [if_neg h1]
      by_cases h2 : y = z
      · subst h2
        rw [if_pos rfl]
        by_cases h3 : x < y
        · rw [if_pos h3]
          simp only [insI]
          rw [if_pos h3, if_neg (by omega), if_neg (by omega), if_neg (by omega), if_true]
        · rw [if_neg h3]
          by_cases h4 : x = y
          · subst h4
            rw [if_pos rfl]
          · rw [if_neg h4]
            simp only [insI]
            rw [if_neg h3, if_neg h4, if_neg (by omega), if_true]
      · rw [if_neg h2]
        by_cases h3 : x < z
        · rw [if_pos h3]
          simp only [insI]
          rw [if_pos h3, if_neg (by omega), if_neg (by omega), if_neg h1, if_neg h2]
        · rw [if_neg h3]
          by_cases h4 : x = z
          · subst h4
            rw [if_pos rfl]
            simp only [insI]
            rw [if_neg (by omega), if_true, if_neg h1, if_neg h2]
          · rw [if_neg h4]
            simp only [insI]
            rw [if_neg h3, if_neg h4, if_neg h1, if_neg h2, ih]
theorem srtI_perm {l l' : List Int} (h : l.Perm l') : srtI l = srtI l' := by
  induction h with
  | nil => rfl
  | cons x _ ih => simp only [srtI, ih]
  | swap x y l => simp only [srtI, insI_comm]
  | trans _ _ h1 h2 => exact h1.trans h2
theorem mem_insI {x z : Int} : ∀ {l : List Int}, z ∈ insI x l ↔ z = x ∨ z ∈ l
  | [] => by simp [insI]
  | y :: l => by
    have ih := @mem_insI x z l
    simp only [insI]
    by_cases h1 : x < y
    · rw [if_pos h1]; simp
    · rw [if_neg h1]
      by_cases h2 : x = y
      · rw [if_pos h2]; subst h2; simp
      · rw [if_neg h2]
        simp only [List.mem_cons, ih]
        constructor
        · rintro (h | h | h)
          · exact .inr (.inl h)
          · exact .inl h
          · exact .inr (.inr h)
        · rintro (h | h | h)
          · exact .inr (.inl h)
          · exact .inl h
          · exact .inr (.inr h)
theorem mem_srtI {z : Int} : ∀ {l : List Int}, z ∈ srtI l ↔ z ∈ l
  | [] => Iff.rfl
  | x :: l => by simp only [srtI, mem_insI, @mem_srtI z l, List.mem_cons]
theorem insI_sorted {x : Int} : ∀ {l : List Int}, l.Pairwise (· < ·) → (insI x l).Pairwise (· < ·)
  | [], _ => by simp [insI]
  | y :: l, h => by
    have h' := List.pairwise_cons.1 h
    simp only [insI]
    by_cases h1 : x < y
    · rw [if_pos h1]
      refine List.pairwise_cons.2 ⟨fun z hz => ?_, h⟩
      rcases List.mem_cons.1 hz with rfl | hz
      · exact h1
      · have := h'.1 z hz; omega
    · rw [if_neg h1]
      by_cases h2 : x = y
      · rw [if_pos h2]; exact h
      · rw [if_neg h2]
        refine List.pairwise_cons.2 ⟨fun z hz => ?_, insI_sorted h'.2⟩
        rcases mem_insI.1 hz with rfl | hz
        · omega
        · exact h'.1 z hz
theorem srtI_sorted : ∀ l : List Int, (srtI l).Pairwise (· < ·)
  | [] => List.Pairwise.nil
  | x :: l => insI_sorted (srtI_sorted l)
theorem insI_last {x : Int} : ∀ {l : List Int}, (∀ z ∈ l, z < x) → insI x l = l ++ [x]
  | [], _ => rfl
  | y :: l, h => by
    have := h y (by simp)
    simp only [insI]
    rw [if_neg (by omega), if_neg (by omega), insI_last fun z hz => h z (List.mem_cons_of_mem _ hz)]
    rfl
theorem insI_mem {x : Int} : ∀ {l : List Int}, l.Pairwise (· < ·) → x ∈ l → insI x l = l
  | y :: l, h, hx => by
    have h' := List.pairwise_cons.1 h
    simp only [insI]
    rcases List.mem_cons.1 hx with rfl | hx
    · rw [if_neg (by omega), if_pos rfl]
    · have := h'.1 x hx
      rw [if_neg (by omega), if_neg (by omega), insI_mem h'.2 hx]
theorem srtI_snoc (l : List Int) (x : Int) : srtI (l ++ [x]) = insI x (srtI l) := by
  rw [srtI_perm (l' := x :: l) (List.perm_append_comm.trans (by exact List.Perm.refl _))]
  rfl
theorem compact_upto {zs : List Int} (hs : zs.Pairwise (· ≤ ·)) : ∀ m, m ≤ zs.length → Lib.compactUpTo zs.toArray m = srtI (zs.take m)
  | 0, _ => by simp [Lib.compactUpTo, srtI]
  | m + 1, hm => by
    have ih := compact_upto hs m (by omega)
    have hlt : m < zs.length := by omega
    have e1 : zs.take (m + 1) = zs.take m ++ [zs[m]] := by rw [List.take_succ_eq_append_getElem hlt]
    have e2 : zs.toArray[m]! = zs[m] := by simp [hlt]
    have hle : ∀ z ∈ zs.take m, z ≤ zs[m] := by
      intro z hz
      obtain ⟨i, hi, rfl⟩ := List.getElem_of_mem hz
      rw [List.getElem_take]
      rw [List.length_take] at hi
      exact List.pairwise_iff_getElem.1 hs i m (by omega) hlt (by omega)
    rw [Lib.compactUpTo_succ, ih, e1, srtI_snoc, e2]
    cases m with
    | zero => simp [Lib.keeps, srtI, insI]
    | succ m =>
      have hlt' : m < zs.length := by omega
      have e3 : zs.toArray[m + 1 - 1]! = zs[m] := by simp [hlt']
      have hmem : zs[m] ∈ zs.take (m + 1) := by
        have : zs.take (m + 1) = zs.take m ++ [zs[m]] := by rw [List.take_succ_eq_append_getElem hlt']
        rw [this]
        exact List.mem_append_right _ (List.mem_singleton.2 rfl)
      by_cases h : zs[m + 1] = zs[m]
      · have hk : Lib.keeps zs.toArray (m + 1) = false := Lib.keeps_neg (by omega) (by rw [e2, e3, h])
        rw [hk, insI_mem (srtI_sorted _) (mem_srtI.2 (h ▸ hmem))]
        simp
      · have hk : Lib.keeps zs.toArray (m + 1) = true := Lib.keeps_pos (by rw [e2, e3]; exact h)
        rw [hk, if_pos rfl, insI_last]
        intro z hz
        have hz' := mem_srtI.1 hz
        obtain ⟨i, hi, rfl⟩ := List.getElem_of_mem hz'
        rw [List.getElem_take]
        rw [List.length_take] at hi
        have h1 : zs[i] ≤ zs[m] := by
          by_cases him : i = m
          · subst him; exact Int.le_refl _
          · exact List.pairwise_iff_getElem.1 hs i m (by omega) hlt' (by omega)
        have h2 := List.pairwise_iff_getElem.1 hs m (m + 1) hlt' hlt (by omega)
        omega
theorem compact_sort (zs : List Int) : Lib.compact (zs.mergeSort fun x y => decide (x ≤ y)) = srtI zs := by
  have hs : (zs.mergeSort fun x y => decide (x ≤ y)).Pairwise (· ≤ ·) := by
    have := List.pairwise_mergeSort (le := fun (x y : Int) => decide (x ≤ y)) (fun a b c h1 h2 => by simp only [decide_eq_true_eq] at h1 h2 ⊢; omega) (fun a b => by simp only [Bool.or_eq_true, decide_eq_true_eq]; omega) zs
    exact this.imp fun h => of_decide_eq_true h
  unfold Lib.compact
  rw [compact_upto hs _ (Nat.le_refl _), List.take_length]
  exact srtI_perm (List.mergeSort_perm zs _)
end Go.Proofs.Ytihipeicmbgegaa.Rf
