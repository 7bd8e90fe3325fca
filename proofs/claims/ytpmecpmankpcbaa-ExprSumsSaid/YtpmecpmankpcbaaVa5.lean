/- Kinds and values of expressions. Written by va5.py. No conditions. -/
import Derived.Test.YtpmecpmankpcbaaVa4
namespace Go.Proofs.Ytpmecpmankpcbaa.Pure
open Go Go.Proofs Go.Proofs.Ytpmecpmankpcbaa.Rf
set_option linter.unusedVariables false
set_option linter.unusedSimpArgs false
set_option linter.unnecessarySimpa false
def tbl : G := .tu [.str [84], .sl [.tu [.str [78], .int .i64 2, .bool true], .tu [.str [66], .int .i64 1, .bool true], .tu [.str [83], .int .i64 3, .bool true]], .int .i64 0, .int .i64 0, .int .i64 0, .tu [.sl [], .sl [], .sl [], .int .i64 0, .int .i64 0, .int .i64 0]]
theorem table_eq (n : Nat) : C (n + 1) 12 [] = some (tbl, []) := f12_eq n
theorem table_le {n : Nat} (hn : 1 ≤ n) : C n 12 [] = some (tbl, []) := at_le (p := fun n => C n 12 [] = some (tbl, [])) hn fun m => table_eq m
/-! ## columns -/
def colN (s : List UInt8) : Int := if s = [78] then 0 else if s = [66] then 1 else if s = [83] then 2 else -1
def colK (s : List UInt8) : Int := if s = [78] then 2 else if s = [66] then 1 else 3
theorem col_tree (s : List UInt8) : (cnd (decide (([78] : List UInt8) = s)) (some (G.int .i64 0, [])) (cnd (decide (([66] : List UInt8) = s)) (some (G.int .i64 1, [])) (cnd (decide (([83] : List UInt8) = s)) (some (G.int .i64 2, [])) (some (G.int .i64 (-1), [])))) : Option R) = some (.int .i64 (colN s), []) := by
  unfold colN
  by_cases h : [78] = s
  · rw [decide_eq_true h, if_pos h.symm]; rfl
  · rw [decide_eq_false h, if_neg (fun e => h e.symm)]
    by_cases h : [66] = s
    · rw [decide_eq_true h, if_pos h.symm]; rfl
    · rw [decide_eq_false h, if_neg (fun e => h e.symm)]
      by_cases h : [83] = s
      · rw [decide_eq_true h, if_pos h.symm]; rfl
      · rw [decide_eq_false h, if_neg (fun e => h e.symm)]; rfl
theorem col_eq (n : Nat) (s : List UInt8) : C (n + 12) 33 [.val tbl, .val (.str s)] = some (.int .i64 (colN s), []) := by
  rw [f33_eq]
  refine bind_of (r := (.int .i64 (colN s), [])) ?_ rfl
  rw [← col_tree s]
  kernel_rfl
theorem col_le {n : Nat} (hn : 12 ≤ n) (s : List UInt8) : C n 33 [.val tbl, .val (.str s)] = some (.int .i64 (colN s), []) := at_le (p := fun n => C n 33 [.val tbl, .val (.str s)] = some (.int .i64 (colN s), [])) hn fun m => col_eq m s
theorem colr_le {n : Nat} (hn : 12 ≤ n) (s : List UInt8) : C n 36 [.val tbl, .val (.str s)] = some (.int .i64 (colN s), []) := at_le (p := fun n => C n 36 [.val tbl, .val (.str s)] = some (.int .i64 (colN s), [])) hn fun m => by
  rw [← col_tree s]
  kernel_rfl
theorem colN_cases (s : List UInt8) : (s = [78] ∧ colN s = 0 ∧ colK s = 2) ∨ (s = [66] ∧ colN s = 1 ∧ colK s = 1) ∨ (s = [83] ∧ colN s = 2 ∧ colK s = 3) ∨ colN s = -1 := by
  by_cases h0 : s = [78]
  · subst h0; exact .inl ⟨rfl, rfl, rfl⟩
  by_cases h1 : s = [66]
  · subst h1; exact .inr (.inl ⟨rfl, rfl, rfl⟩)
  by_cases h2 : s = [83]
  · subst h2; exact .inr (.inr (.inl ⟨rfl, rfl, rfl⟩))
  exact .inr (.inr (.inr (by unfold colN; rw [if_neg h0, if_neg h1, if_neg h2])))
/-! ## what kind an operator makes -/
def toldT (many such : Bool) (k : Int) : Int × Int := if many then (if such then (k, 0) else (0, 15)) else (0, 9)
def fitsI (k : Int) (x : Int) : Bool := decide (x = k) || decide (x = 0)
def alikeI (ks : List Int) : Bool := decide (ks.getD 0 0 = ks.getD 1 0) || (decide (ks.getD 0 0 = 0) || decide (ks.getD 1 0 = 0))
def opT (n : Nat) (ks : List Int) : Int × Int :=
  if n = 0 then (0, 9) else if n ≤ 2 then toldT (decide (ks.length = 1)) true 1 else if n = 3 then toldT (decide (ks.length = 1)) (ks.all (fitsI 1)) 1 else if n = 4 then toldT (decide (ks.length = 1)) (ks.all (fitsI 2)) 2
  else if n ≤ 6 then toldT (decide (ks.length = 2)) (ks.all (fitsI 1)) 1 else if n ≤ 11 then toldT (decide (ks.length = 2)) (ks.all (fitsI 2)) 2 else toldT (decide (ks.length = 2)) (alikeI ks) 1
abbrev ig (x : Int) : G := .int .i64 x
theorem told_ng (a b : Bool) (k : Int) : told a b k = ng (toldT a b k) := by cases a <;> cases b <;> rfl
theorem len_int (ks : List Int) (k : Nat) (c : Int) (h : c = k) : decide (((ks.map ig).length : Int) = c) = decide (ks.length = k) := decide_eq_decide.2 (by rw [List.length_map, h]; omega)
theorem all_fits (k : Int) : ∀ (ks : List Int), (ks.map ig).all (fits k) = ks.all (fitsI k)
  | [] => rfl
  | x :: l => by rw [List.map_cons, List.all_cons, List.all_cons, all_fits k l]; rfl
theorem alike_int : ∀ (ks : List Int), ks.length = 2 → alike2 (ks.map ig) = alikeI ks
  | [a, b], _ => rfl
theorem told_cmp (ks : List Int) : told (decide (((ks.map ig).length : Int) = 2)) (alike2 (ks.map ig)) 1 = ng (toldT (decide (ks.length = 2)) (alikeI ks) 1) := by
  rw [len_int ks 2 2 rfl]
  by_cases h : ks.length = 2
  · rw [alike_int ks h, told_ng]
  · rw [decide_eq_false h]; rfl
theorem opT_eq (n : Nat) (s : List UInt8) (ks : List Int) (hl : ks.length ≤ maxLen) (hn : ks.length < n) : C (n + 2) 34 [.val (.str s), .val (.sl (ks.map ig))] = some (ng (opT (opn s) ks)) := by
  have hl' : (ks.map ig).length ≤ maxLen := by simpa using hl
  have hn' : (ks.map ig).length < n := by simpa using hn
  by_cases h0 : s = [73, 83, 78, 85, 76, 76]
  · subst h0
    rw [op_73_83_78_85_76_76 n _ hl' hn']
    rw [len_int ks 1 1 rfl, told_ng]; rfl
  by_cases h1 : s = [78, 79, 84, 78, 85, 76, 76]
  · subst h1
    rw [op_78_79_84_78_85_76_76 n _ hl' hn']
    rw [len_int ks 1 1 rfl, told_ng]; rfl
  by_cases h2 : s = [78, 79, 84]
  · subst h2
    rw [op_78_79_84 n _ hl' hn']
    rw [all_fits, len_int ks 1 1 rfl, told_ng]; rfl
  by_cases h3 : s = [78, 69, 71]
  · subst h3
    rw [op_78_69_71 n _ hl' hn']
    rw [all_fits, len_int ks 1 1 rfl, told_ng]; rfl
  by_cases h4 : s = [79, 82]
  · subst h4
    rw [op_79_82 n _ hl' hn']
    rw [all_fits, len_int ks 2 2 rfl, told_ng]; rfl
  by_cases h5 : s = [65, 78, 68]
  · subst h5
    rw [op_65_78_68 n _ hl' hn']
    rw [all_fits, len_int ks 2 2 rfl, told_ng]; rfl
  by_cases h6 : s = [43]
  · subst h6
    rw [op_43 n _ hl' hn']
    rw [all_fits, len_int ks 2 2 rfl, told_ng]; rfl
  by_cases h7 : s = [45]
  · subst h7
    rw [op_45 n _ hl' hn']
    rw [all_fits, len_int ks 2 2 rfl, told_ng]; rfl
  by_cases h8 : s = [42]
  · subst h8
    rw [op_42 n _ hl' hn']
    rw [all_fits, len_int ks 2 2 rfl, told_ng]; rfl
  by_cases h9 : s = [47]
  · subst h9
    rw [op_47 n _ hl' hn']
    rw [all_fits, len_int ks 2 2 rfl, told_ng]; rfl
  by_cases h10 : s = [37]
  · subst h10
    rw [op_37 n _ hl' hn']
    rw [all_fits, len_int ks 2 2 rfl, told_ng]; rfl
  by_cases h11 : s = [61]
  · subst h11
    rw [op_61 n _ hl' hn']
    rw [told_cmp]; rfl
  by_cases h12 : s = [60, 62]
  · subst h12
    rw [op_60_62 n _ hl' hn']
    rw [told_cmp]; rfl
  by_cases h13 : s = [60]
  · subst h13
    rw [op_60 n _ hl' hn']
    rw [told_cmp]; rfl
  by_cases h14 : s = [60, 61]
  · subst h14
    rw [op_60_61 n _ hl' hn']
    rw [told_cmp]; rfl
  by_cases h15 : s = [62]
  · subst h15
    rw [op_62 n _ hl' hn']
    rw [told_cmp]; rfl
  by_cases h16 : s = [62, 61]
  · subst h16
    rw [op_62_61 n _ hl' hn']
    rw [told_cmp]; rfl
  have e : opn s = 0 := by unfold opn; rw [if_neg h0, if_neg h1, if_neg h2, if_neg h3, if_neg h4, if_neg h5, if_neg h6, if_neg h7, if_neg h8, if_neg h9, if_neg h10, if_neg h11, if_neg h12, if_neg h13, if_neg h14, if_neg h15, if_neg h16]
  rw [e, f34_eq]
  rw [decide_eq_false (show ¬ (G.str s).toStr = [73, 83, 78, 85, 76, 76] from h0)]
  rw [decide_eq_false (show ¬ (G.str s).toStr = [78, 79, 84, 78, 85, 76, 76] from h1)]
  rw [decide_eq_false (show ¬ (G.str s).toStr = [78, 79, 84] from h2)]
  rw [decide_eq_false (show ¬ (G.str s).toStr = [78, 69, 71] from h3)]
  rw [decide_eq_false (show ¬ (G.str s).toStr = [79, 82] from h4)]
  rw [decide_eq_false (show ¬ (G.str s).toStr = [65, 78, 68] from h5)]
  rw [decide_eq_false (show ¬ (G.str s).toStr = [43] from h6)]
  rw [decide_eq_false (show ¬ (G.str s).toStr = [45] from h7)]
  rw [decide_eq_false (show ¬ (G.str s).toStr = [42] from h8)]
  rw [decide_eq_false (show ¬ (G.str s).toStr = [47] from h9)]
  rw [decide_eq_false (show ¬ (G.str s).toStr = [37] from h10)]
  rw [decide_eq_false (show ¬ (G.str s).toStr = [61] from h11)]
  rw [decide_eq_false (show ¬ (G.str s).toStr = [60, 62] from h12)]
  rw [decide_eq_false (show ¬ (G.str s).toStr = [60] from h13)]
  rw [decide_eq_false (show ¬ (G.str s).toStr = [60, 61] from h14)]
  rw [decide_eq_false (show ¬ (G.str s).toStr = [62] from h15)]
  rw [decide_eq_false (show ¬ (G.str s).toStr = [62, 61] from h16)]
  rfl

/-! ## kinds of expressions -/
def tyOp (s : List UInt8) (v : V) (x : List Int × Int) : Int × Int := if x.2 = 0 then (if v = .z then opT (opn s) x.1 else (0, 9)) else (0, x.2)
mutual
def tyE : E → Int × Int
  | .mk k s v l => if k = 1 then (if s = [] ∧ l.length = 0 ∧ may v = true then (v.k, 0) else (0, 9)) else if k = 2 then (if colN s < 0 then (0, 14) else if l.length = 0 ∧ v = .z then (colK s, 0) else (0, 9)) else if k = 3 then tyOp s v (tyEs l) else (0, 9)
def tyEs : List E → List Int × Int
  | [] => ([], 0)
  | e :: l => if (tyE e).2 = 0 then (if (tyEs l).2 = 0 then ((tyE e).1 :: (tyEs l).1, 0) else ([], (tyEs l).2)) else ([], (tyE e).2)
end
mutual
def cntE : E → Nat
  | .mk _ _ _ l => 1 + cntEs l
def cntEs : List E → Nat
  | [] => 0
  | e :: l => cntE e + cntEs l
end
mutual
def dep : E → Nat
  | .mk _ _ _ l => 1 + deps l
def deps : List E → Nat
  | [] => 0
  | e :: l => max (dep e) (deps l)
end
theorem cntE_pos : ∀ e : E, 1 ≤ cntE e
  | .mk _ _ _ _ => by rw [cntE]; omega
theorem cntEs_len : ∀ l : List E, l.length ≤ cntEs l
  | [] => Nat.le_refl _
  | e :: l => by
    have := cntE_pos e
    have := cntEs_len l
    rw [cntEs, List.length_cons]; omega
theorem cntEs_mem : ∀ (l : List E), ∀ x ∈ l, cntE x ≤ cntEs l
  | y :: l, x, hx => by
    rw [cntEs]
    rcases List.mem_cons.1 hx with rfl | hx
    · omega
    · have := cntEs_mem l x hx; omega
theorem deps_mem : ∀ (l : List E), ∀ x ∈ l, dep x ≤ deps l
  | y :: l, x, hx => by
    rw [deps]
    rcases List.mem_cons.1 hx with rfl | hx
    · omega
    · have := deps_mem l x hx; omega
theorem getD_mid {α : Type} (p : List α) (x : α) (q : List α) (d : α) : (p ++ x :: q).getD p.length d = x := by simp [List.getD]
theorem mid_at (p q : List E) (x : E) : (((p ++ x :: q).map E.g).getD ((p.length : Int)).toNat default) = x.g := by
  have := getD_mid (p.map E.g) x.g (q.map E.g) default
  rw [List.length_map] at this
  simpa using this
theorem zero_dec (v : V) : (decide (v.k = 0) && (decide (v.n = 0) && decide (v.s = []))) = decide (v = .z) := by
  obtain ⟨a, b, c⟩ := v
  by_cases h0 : a = 0 <;> by_cases h1 : b = 0 <;> by_cases h2 : c = [] <;> simp [h0, h1, h2, V.z]
theorem step_at {n : Nat} {p : List E} {x : E} {q : List E} (hl : (p ++ x :: q).length ≤ maxLen) : decide ((p.length : Int) < ((p ++ x :: q).length : Int)) = true ∧ decide ((0 : Int) ≤ p.length) = true ∧ IntKind.wrap .i64 ((p.length : Int) + 1) = ((p ++ [x]).length : Int) := by
  have hm := maxLen_le
  have h1 : (p ++ x :: q).length = p.length + q.length + 1 := by simp; omega
  have h2 : (p ++ [x]).length = p.length + 1 := by simp
  refine ⟨decide_eq_true (by omega), decide_eq_true (by omega), ?_⟩
  rw [wr (by omega) (by omega), h2]
  omega
theorem stop_at {p : List E} : decide ((p.length : Int) < ((p ++ []).length : Int)) = false := decide_eq_false (by simp)
/-- The loop of typed. -/
theorem typed_loop (n : Nat) (k : Int) (s : List UInt8) (v : V) (l : List E) (hl : l.length ≤ 4096) (hn : l.length + 3 ≤ n) (hc : ∀ x ∈ l, C n 25 [.val tbl, .val x.g] = some (ng (tyE x))) (a0 a1 : G) :
    ∀ (q p : List E) (ks : List Int) (m : Nat), l = p ++ q → ks.length = p.length → q.length < m → L25_0 n m a0 a1 (l.map E.g) l.length p.length tbl (E.mk k s v l).g (ks.map ig) = some (ng (if (tyEs q).2 = 0 then (if v = .z then opT (opn s) (ks ++ (tyEs q).1) else (0, 9)) else (0, (tyEs q).2)))
  | [], p, ks, m + 1, hpq, hk, _ => by
    have hp : p = l := by simpa using hpq.symm
    subst hp
    rw [L25_0_eq, decide_eq_false (show ¬ ((p.length : Int) < p.length) by omega), g_mk]
    have e : ks ++ (tyEs []).1 = ks := by simp [tyEs]
    rw [e]
    show cnd (!(decide (v.k = 0) && (decide (v.n = 0) && decide (v.s = [])))) (some (ng (0, 9))) ((C n 34 [.val (.str s), .val (.sl (ks.map ig))]).bind _) = some (ng (if v = .z then opT (opn s) ks else (0, 9)))
    rw [zero_dec]
    by_cases hv : v = .z
    · rw [decide_eq_true hv, if_pos hv]
      obtain ⟨j, rfl⟩ : ∃ j, n = j + 2 := ⟨n - 2, by omega⟩
      exact bind_of (opT_eq j s ks (by unfold maxLen; omega) (by omega)) (ng_again _)
    · rw [decide_eq_false hv, if_neg hv]; rfl
  | x :: q, p, ks, m + 1, hpq, hk, hm => by
    have hlen : l.length = p.length + q.length + 1 := by rw [hpq]; simp; omega
    obtain ⟨h1, h2, h3⟩ := step_at (n := n) (p := p) (x := x) (q := q) (by rw [← hpq]; unfold maxLen; omega)
    rw [← hpq] at h1
    have hx := hc x (by rw [hpq]; simp)
    have hg := mid_at p q x
    rw [← hpq] at hg
    have hi : (1 : Nat) = 1 := rfl
    rw [L25_0_eq, h1, h2, hg, hx, h3]
    have hlm : decide ((p.length : Int) < ((l.map E.g).length : Int)) = true := by rw [List.length_map]; exact h1
    rw [hlm, List.length_map]
    show cnd (!decide ((tyE x).2 = 0)) (some (ng (0, (tyE x).2))) (cnd (decide (ks.length + 1 ≤ 68719476736)) (L25_0 n m a0 a1 (l.map E.g) l.length (p ++ [x]).length tbl (E.mk k s v l).g (ks.map ig ++ [ig (tyE x).1])) none) = _
    rw [tyEs]
    by_cases he : (tyE x).2 = 0
    · rw [decide_eq_true he, if_pos he, decide_eq_true (show ks.length + 1 ≤ 68719476736 by omega)]
      have ih := typed_loop n k s v l hl hn hc a0 a1 q (p ++ [x]) (ks ++ [(tyE x).1]) m (by rw [hpq]; simp) (by simp [hk]) (by simp at hm; omega)
      rw [List.map_append] at ih
      refine ih.trans ?_
      by_cases hq : (tyEs q).2 = 0
      · rw [if_pos hq, if_pos hq, if_pos rfl]
        simp
      · rw [if_neg hq, if_neg hq, if_neg hq]
    · rw [decide_eq_false he, if_neg he, if_neg he]
      rfl
theorem typed_eq (e : E) : EOk e → cntE e ≤ 4096 → Ev fun n => C n 25 [.val tbl, .val e.g] = some (ng (tyE e)) := by
  refine E.ind (P := fun e => EOk e → cntE e ≤ 4096 → Ev fun n => C n 25 [.val tbl, .val e.g] = some (ng (tyE e))) ?_ e
  intro k s v l ih ok hc
  cases ok with
  | mk hk hs hv hl hx =>
    rw [cntE] at hc
    have hlc := cntEs_len l
    obtain ⟨N, hN⟩ := (Ev.all l fun x hxl => ih x hxl (hx x hxl) (by have := cntEs_mem l x hxl; omega)).and (Ev.ge (l.length + 20))
    refine Ev.up ⟨N, fun n hn => ?_⟩
    obtain ⟨h1, h2⟩ := hN n hn
    rw [tyE, f25_eq, g_mk]
    show cnd (decide (k = 1)) (cnd (!decide (s = [])) (some (ng (0, 9))) (cnd (decide (0 < ((l.map E.g).length : Int))) (some (ng (0, 9))) ((C n 28 [.val v.g]).bind _))) (cnd (decide (k = 2)) ((C n 33 [.val tbl, .val (.str s)]).bind _) (cnd (decide (k = 3)) (L25_0 n n tbl (.tu [.int .i64 k, .str s, v.g, .sl (l.map E.g)]) (l.map E.g) ((l.map E.g).length : Int) 0 tbl (.tu [.int .i64 k, .str s, v.g, .sl (l.map E.g)]) []) (some (ng (0, 9))))) = _
    rw [List.length_map]
    have hlen : decide (0 < (l.length : Int)) = !decide (l.length = 0) := by
      by_cases h : l.length = 0
      · rw [decide_eq_true h, decide_eq_false (by omega)]; rfl
      · rw [decide_eq_false h, decide_eq_true (by omega)]; rfl
    rw [hlen]
    by_cases k1 : k = 1
    · rw [decide_eq_true k1, if_pos k1]
      by_cases hs0 : s = []
      · by_cases hl0 : l.length = 0
        · rw [decide_eq_true hs0, decide_eq_true hl0]
          obtain ⟨j, rfl⟩ : ∃ j, n = j + 1 := ⟨n - 1, by omega⟩
          refine bind_of (may_eq j v) ?_
          cases hm : may v with
          | true => rw [if_pos ⟨hs0, hl0, rfl⟩]; rfl
          | false => rw [if_neg (by simp)]; rfl
        · rw [decide_eq_true hs0, decide_eq_false hl0, if_neg (by simp [hl0])]; rfl
      · rw [decide_eq_false hs0, if_neg (by simp [hs0])]; rfl
    · rw [decide_eq_false k1, if_neg k1]
      by_cases k2 : k = 2
      · rw [decide_eq_true k2, if_pos k2]
        refine bind_of (col_le (by omega) s) ?_
        show cnd (decide (colN s < 0)) (some (ng (0, 14))) (cnd (decide (0 < ((l.map E.g).length : Int))) (some (ng (0, 9))) (cnd (!(decide (v.k = 0) && (decide (v.n = 0) && decide (v.s = [])))) (some (ng (0, 9))) (cnd (decide (0 ≤ colN s) && decide (colN s < 3)) (some (.tu [.int .i64 (G.fld ((G.fld tbl 1).toList.getD (colN s).toNat default) 1).toInt, .int .i64 0], [])) none))) = _
        rw [List.length_map, hlen, zero_dec]
        by_cases hc0 : colN s < 0
        · rw [decide_eq_true hc0, if_pos hc0]; rfl
        · rw [decide_eq_false hc0, if_neg hc0]
          by_cases hl0 : l.length = 0
          · by_cases hv0 : v = .z
            · rw [decide_eq_true hl0, decide_eq_true hv0, if_pos ⟨hl0, hv0⟩]
              rcases colN_cases s with ⟨_, a, b⟩ | ⟨_, a, b⟩ | ⟨_, a, b⟩ | a
              · rw [a, b]; rfl
              · rw [a, b]; rfl
              · rw [a, b]; rfl
              · omega
            · rw [decide_eq_true hl0, decide_eq_false hv0, if_neg (by simp [hv0])]; rfl
          · rw [decide_eq_false hl0, if_neg (by simp [hl0])]; rfl
      · rw [decide_eq_false k2, if_neg k2]
        by_cases k3 : k = 3
        · rw [decide_eq_true k3, if_pos k3, ← g_mk]
          have := typed_loop n k s v l (by omega) (by omega) h1 tbl (E.mk k s v l).g l [] [] n rfl rfl (by omega)
          refine Eq.trans this ?_
          rfl
        · rw [decide_eq_false k3, if_neg k3]; rfl
end Go.Proofs.Ytpmecpmankpcbaa.Pure
