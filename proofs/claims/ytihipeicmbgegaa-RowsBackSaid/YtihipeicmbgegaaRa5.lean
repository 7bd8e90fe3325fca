/- Rows, written and read: both texts. No conditions. -/
import Derived.Test.YtihipeicmbgegaaRa4
namespace Go.Proofs.Ytihipeicmbgegaa.Pure
open Go Go.Proofs Go.Proofs.Ytihipeicmbgegaa.Rf
set_option linter.unusedVariables false
set_option linter.unusedSimpArgs false
/-- The schema of the laws. -/
def Sc : G := (.tu (([(G.sl []), (.sl [])].set 0 (.sl [(G.int .i64 0), (.int .i64 0), (.int .i64 1), (.int .i64 1)])).set 1 (.sl [(G.tu (((([(G.str []), (.sl []), (.int .i64 0), (.int .i64 0), (.int .i64 0), (.tu [(G.sl []), (.sl []), (.sl []), (.int .i64 0), (.int .i64 0), (.int .i64 0)])].set 0 (.str [84])).set 1 (.sl [(G.tu (([(G.str []), (.int .i64 0), (.bool (false))].set 0 (.str [82])).set 1 (.int .i64 2))), (.tu (([(G.str []), (.int .i64 0), (.bool (false))].set 0 (.str [75])).set 1 (.int .i64 2))), (.tu ((([(G.str []), (.int .i64 0), (.bool (false))].set 0 (.str [86])).set 1 (.int .i64 3)).set 2 (.bool (true)))), (.tu ((([(G.str []), (.int .i64 0), (.bool (false))].set 0 (.str [78])).set 1 (.int .i64 2)).set 2 (.bool (true))))])).set 2 (.int .i64 1)).set 5 (.tu (([(G.sl []), (.sl []), (.sl []), (.int .i64 0), (.int .i64 0), (.int .i64 0)].set 0 (.sl [(G.int .i64 1)])).set 2 (.sl [(G.int .i64 0), (.int .i64 1)]))))), (.tu (((([(G.str []), (.sl []), (.int .i64 0), (.int .i64 0), (.int .i64 0), (.tu [(G.sl []), (.sl []), (.sl []), (.int .i64 0), (.int .i64 0), (.int .i64 0)])].set 0 (.str [71])).set 1 (.sl [(G.tu (([(G.str []), (.int .i64 0), (.bool (false))].set 0 (.str [75])).set 1 (.int .i64 3))), (.tu (([(G.str []), (.int .i64 0), (.bool (false))].set 0 (.str [78])).set 1 (.int .i64 2))), (.tu ((([(G.str []), (.int .i64 0), (.bool (false))].set 0 (.str [66])).set 1 (.int .i64 1)).set 2 (.bool (true))))])).set 3 (.int .i64 1)).set 5 (.tu (([(G.sl []), (.sl []), (.sl []), (.int .i64 0), (.int .i64 0), (.int .i64 0)].set 0 (.sl [(G.int .i64 1)])).set 2 (.sl [(G.int .i64 0), (.int .i64 1)]))))), (.tu ((((([(G.str []), (.sl []), (.int .i64 0), (.int .i64 0), (.int .i64 0), (.tu [(G.sl []), (.sl []), (.sl []), (.int .i64 0), (.int .i64 0), (.int .i64 0)])].set 0 (.str [72])).set 1 (.sl [(G.tu (([(G.str []), (.int .i64 0), (.bool (false))].set 0 (.str [66])).set 1 (.int .i64 1))), (.tu ((([(G.str []), (.int .i64 0), (.bool (false))].set 0 (.str [78])).set 1 (.int .i64 2)).set 2 (.bool (true))))])).set 3 (.int .i64 2)).set 4 (.int .i64 1)).set 5 (.tu (([(G.sl []), (.sl []), (.sl []), (.int .i64 0), (.int .i64 0), (.int .i64 0)].set 0 (.sl [(G.int .i64 1)])).set 2 (.sl [(G.int .i64 0), (.int .i64 1)])))))])))
theorem begun (n : Nat) : C (n + 60) 6 [] = some (.bool true, []) := by kernel_rfl
theorem begun_ev : Ev fun n => C n 6 [] = some (.bool true, []) := Ev.ups 60 (p := fun n => C n 6 [] = some (.bool true, [])) (Ev.of fun n => begun n)
attribute [local irreducible] C L20_0 L21_0 L17_1 L19_1 L22_0 L22_1 L8_0 J17_0 J19_0 J4_0
theorem sc_le {n : Nat} (hn : 1 ≤ n) : C n 18 [] = some (Sc, []) := at_le (p := fun n => C n 18 [] = some (Sc, [])) hn fun m => f18_eq m
theorem mid_at (p q : List V) (x : V) : (((p ++ x :: q).map V.g).getD ((p.length : Int)).toNat default) = x.g := by
  rw [show ((p.length : Int)).toNat = p.length by omega]
  simp [List.getD]
def dataB (row : List V) : List UInt8 := varB row.length ++ row.flatMap plainB
theorem plainB_len {v : V} : (plainB v).length ≤ 100 := by
  unfold plainB
  cases hm : may v with
  | false => simp
  | true =>
    rw [if_pos rfl]
    have h1 := varB_len (zigN v.n)
    have h2 := varB_len v.s.length
    by_cases k1 : v.k = 1
    · simp [k1]
    · by_cases k2 : v.k = 2
      · simp [k2]; omega
      · by_cases k3 : v.k = 3
        · have hs : v.s.length ≤ 64 := by
            unfold may at hm
            rw [if_neg (by omega), if_neg (by omega), if_neg (by omega), if_pos k3] at hm
            simp at hm
            exact hm.2
          simp [k3, textB]; omega
        · simp [k1, k2, k3]
theorem data_loop (n : Nat) (hn : 30 ≤ n) (row : List V) (ho : ∀ v ∈ row, v.ok) (hr : row.length ≤ 1000) (a0 a1 : G) : ∀ (q p : List V) (b : List UInt8) (m : Nat), row = p ++ q → b.length ≤ 1000 + 100 * p.length → q.length < m → L20_0 n m a0 (row.map V.g) row.length p.length (gB b) = some (.str (b ++ q.flatMap plainB), []) ∧ L21_0 n m a1 (row.map V.g) p.length (gB b) = some (.str (b ++ q.flatMap plainB), [])
  | [], p, b, m + 1, hpq, hb, _ => by
    have hp : p = row := by simpa using hpq.symm
    subst hp
    have e : b ++ ([] : List V).flatMap plainB = b := by simp
    rw [L20_0_eq, L21_0_eq, decide_eq_false (show ¬ ((p.length : Int) < p.length) by omega), decide_eq_false (show ¬ ((p.length : Int) < ((p.map V.g).length : Int)) by rw [List.length_map]; omega), gB_back, e]
    exact ⟨rfl, rfl⟩
  | x :: q, p, b, m + 1, hpq, hb, hm => by
    have hlen : row.length = p.length + q.length + 1 := by rw [hpq]; simp; omega
    have hg : ((row.map V.g).getD ((p.length : Int)).toNat default) = x.g := by rw [hpq]; exact mid_at p q x
    have d1 : decide ((p.length : Int) < (row.length : Int)) = true := decide_eq_true (by omega)
    have d2 : decide ((p.length : Int) < ((row.map V.g).length : Int)) = true := by rw [List.length_map]; exact d1
    have d3 : decide ((0 : Int) ≤ p.length) = true := decide_eq_true (by omega)
    have hw : IntKind.wrap .i64 ((p.length : Int) + 1) = ((p ++ [x]).length : Int) := by rw [wr (by omega) (by omega)]; simp
    obtain ⟨h1, h2⟩ := plain_le (n := n) hn b x (ho x (by rw [hpq]; simp)) (by omega)
    have hpl := plainB_len (v := x)
    have el : (p ++ [x]).length = p.length + 1 := by simp
    have ih := data_loop n hn row ho hr a0 a1 q (p ++ [x]) (b ++ plainB x) m (by rw [hpq]; simp) (by rw [List.length_append, el]; omega) (by simp at hm; omega)
    have e : b ++ (x :: q).flatMap plainB = b ++ plainB x ++ q.flatMap plainB := by simp
    rw [L20_0_eq, L21_0_eq, d1, d2, d3, hg, hw, e]
    simp only [cnd, Bool.and_self]
    exact ⟨bind_of h1 ih.1, bind_of h2 ih.2⟩
theorem data_le {n : Nat} (row : List V) (ho : ∀ v ∈ row, v.ok) (hr : row.length ≤ 1000) (hn : row.length + 50 ≤ n) : C n 20 [.val (.sl (row.map V.g))] = some (.str (dataB row), []) ∧ C n 21 [.val (.sl (row.map V.g))] = some (.str (dataB row), []) := by
  obtain ⟨m, rfl⟩ : ∃ m, n = m + 1 := ⟨n - 1, by omega⟩
  have e1 : IntKind.wrap .u64 ((G.sl (row.map V.g)).toList.length : Int) = ((row.length : Nat) : Int) := by
    show IntKind.wrap .u64 ((row.map V.g).length : Int) = _
    rw [List.length_map, wu (by omega) (by omega)]
  have e2 : ((G.sl (row.map V.g)).toList.length : Int) = (row.length : Int) := by
    show ((row.map V.g).length : Int) = _
    rw [List.length_map]
  have hv := varB_len row.length
  obtain ⟨h1, h2⟩ := data_loop m (by omega) row ho hr (.sl (row.map V.g)) (.sl (row.map V.g)) row [] (varB row.length) m rfl (by simp; omega) (by omega)
  rw [f20_eq, f21_eq, e1, e2]
  exact ⟨bind_of (var_eq (n := m) (by omega) [] row.length (by omega) (by simp)) h1, bind_of (var_ref (n := m) (by omega) [] row.length (by omega) (by simp)) h2⟩
/-! ## rows, read -/
def rdL : Nat → List UInt8 → List V → List V × Nat
  | 0, l, acc => if l.length = 0 then (acc, 0) else ([], 9)
  | c + 1, l, acc => if (tkL l).2.2 = 0 then rdL c (l.drop (tkL l).2.1) (acc ++ [(tkL l).1]) else ([], 9)
def roG (x : List V × Nat) : R := (.tu [.sl (x.1.map V.g), .int .i64 x.2], [])
theorem tkL_n {l : List UInt8} : (tkL l).2.2 ≤ 1000 ∨ True := .inr trivial
theorem row_loop (n c0 : Nat) (D : List UInt8) (hD : D.length ≤ 100000) (hn : D.length + 40 ≤ n) (hc0 : c0 ≤ 1000) (a0 a1 a2 b0 b1 b2 : G) : ∀ (c m i : Nat) (rest pre : List UInt8) (acc : List V), D = pre ++ rest → i + c = c0 → c < m → acc.length ≤ i →
    L17_1 n m a0 a1 a2 (gB D) pre.length c0 i (acc.map V.g) = some (roG (rdL c rest acc)) ∧ L19_1 n m b0 b1 b2 (gB rest) c0 i (acc.map V.g) = some (roG (rdL c rest acc))
  | 0, m + 1, i, rest, pre, acc, hpr, hic, _, _ => by
    have hlen : D.length = pre.length + rest.length := by rw [hpr]; simp
    have hw : IntKind.wrap .i64 (c0 : Int) = c0 := wr (by omega) (by omega)
    rw [L17_1_eq, L19_1_eq, hw, decide_eq_false (show ¬ ((i : Int) < (c0 : Int)) by omega), gB_len, gB_len]
    unfold rdL
    by_cases h : rest.length = 0
    · rw [if_pos h, decide_eq_false (show ¬ ((pre.length : Int) < (D.length : Int)) by omega), decide_eq_false (show ¬ ((0 : Int) < (rest.length : Int)) by omega)]
      exact ⟨rfl, rfl⟩
    · rw [if_neg h, decide_eq_true (show ((pre.length : Int) < (D.length : Int)) by omega), decide_eq_true (show ((0 : Int) < (rest.length : Int)) by omega)]
      exact ⟨rfl, rfl⟩
  | c + 1, m + 1, i, rest, pre, acc, hpr, hic, hm, hacc => by
    have hlen : D.length = pre.length + rest.length := by rw [hpr]; simp
    have hw : IntKind.wrap .i64 (c0 : Int) = c0 := wr (by omega) (by omega)
    have d1 : decide ((i : Int) < (c0 : Int)) = true := decide_eq_true (by omega)
    have d2 : (decide ((0 : Int) ≤ (pre.length : Int)) && (decide ((pre.length : Int) ≤ ((gB D).length : Int)) && decide (((gB D).length : Int) ≤ ((gB D).length : Int)))) = true := by
      rw [gB_len, decide_eq_true (by omega), decide_eq_true (by omega), decide_eq_true (by omega)]; rfl
    have hsl : (((gB D).take (((gB D).length : Int)).toNat).drop ((pre.length : Int)).toNat) = gB rest := by
      rw [show (((gB D).length : Int)).toNat = (gB D).length by omega, List.take_length, show ((pre.length : Int)).toNat = pre.length by omega, gB_drop, hpr]
      simp
    obtain ⟨t1, t2⟩ := tk_le (n := n) rest (by omega) (by omega)
    have e2 : (G.fld (tkg (tkL rest)).1 2).toInt = ((tkL rest).2.2 : Int) := rfl
    have e1 : (G.fld (tkg (tkL rest)).1 1).toInt = ((tkL rest).2.1 : Int) := rfl
    have e0 : G.fld (tkg (tkL rest)).1 0 = (tkL rest).1.g := rfl
    have d3 : decide ((acc.map V.g).length + 1 ≤ 68719476736) = true := decide_eq_true (by rw [List.length_map]; omega)
    rw [L17_1_eq, L19_1_eq, hw, d1, d2, hsl]
    simp only [cnd]
    unfold rdL
    by_cases h : (tkL rest).2.2 = 0
    · rw [if_pos h]
      have k1 := tk_ok h
      have g0 : (!decide ((G.fld (tkg (tkL rest)).1 2).toInt = 0)) = false := by rw [e2, decide_eq_true (by omega)]; rfl
      have w1 : IntKind.wrap .i64 ((pre.length : Int) + ((tkL rest).2.1 : Int)) = ((pre ++ rest.take (tkL rest).2.1).length : Int) := by
        rw [wr (by omega) (by omega), List.length_append, List.length_take]; omega
      have w2 : IntKind.wrap .u64 ((i : Int) + 1) = ((i + 1 : Nat) : Int) := by rw [wu (by omega) (by omega)]; omega
      have w3 : IntKind.wrap .i64 ((i : Int) + 1) = ((i + 1 : Nat) : Int) := by rw [wr (by omega) (by omega)]; omega
      have hpr' : D = (pre ++ rest.take (tkL rest).2.1) ++ rest.drop (tkL rest).2.1 := by rw [hpr]; simp
      have ih := row_loop n c0 D hD hn hc0 a0 a1 a2 b0 b1 b2 c m (i + 1) (rest.drop (tkL rest).2.1) (pre ++ rest.take (tkL rest).2.1) (acc ++ [(tkL rest).1]) hpr' (by omega) (by omega) (by simp; omega)
      rw [List.map_append] at ih
      have d4 : (decide ((0 : Int) ≤ ((tkL rest).2.1 : Int)) && (decide (((tkL rest).2.1 : Int) ≤ ((gB rest).length : Int)) && decide (((gB rest).length : Int) ≤ ((gB rest).length : Int)))) = true := by
        rw [gB_len, decide_eq_true (by omega), decide_eq_true (by omega), decide_eq_true (by omega)]; rfl
      have hsl2 : (((gB rest).take (((gB rest).length : Int)).toNat).drop (((tkL rest).2.1 : Int)).toNat) = gB (rest.drop (tkL rest).2.1) := by
        rw [show (((gB rest).length : Int)).toNat = (gB rest).length by omega, List.take_length, show (((tkL rest).2.1 : Int)).toNat = (tkL rest).2.1 by omega, gB_drop]
      constructor
      · refine bind_of t1 (grd_f g0 (grd_t d3 ?_))
        rw [e1, e0, w1, w2]
        exact ih.1
      · refine bind_of t2 (grd_f g0 (grd_t d3 (grd_t (by rw [e1]; exact d4) ?_)))
        rw [e1, e0, hsl2, w3]
        exact ih.2
    · rw [if_neg h]
      have g0 : (!decide ((G.fld (tkg (tkL rest)).1 2).toInt = 0)) = true := by rw [e2, decide_eq_false (by omega)]; rfl
      exact ⟨bind_of t1 (grd_t g0 rfl), bind_of t2 (grd_t g0 rfl)⟩
/-- How many columns a table of the schema has. -/
def colsN (t : Int) : Nat := if t = 0 then 4 else if t = 1 then 3 else 2
def rowS (t : Int) (D : List UInt8) : List V × Nat := if 0 ≤ t ∧ t < 3 then (if (tv D).2.2 = 0 ∧ (tv D).1 = colsN t then rdL (colsN t) (D.drop (tv D).2.1) [] else ([], 9)) else ([], 1)
theorem cols_at {t : Int} (h : 0 ≤ t ∧ t < 3) : ((G.fld ((G.fld Sc 1).toList.getD t.toNat default) 1).toList.length : Int) = colsN t := by
  have : t = 0 ∨ t = 1 ∨ t = 2 := by omega
  rcases this with rfl | rfl | rfl <;> rfl
theorem row_le {n : Nat} (t : Int) (D : List UInt8) (hD : D.length ≤ 2000) (hn : 3000 ≤ n) : C n 17 [.val Sc, .val (.int .i64 t), .val (.str D)] = some (roG (rowS t D)) ∧ C n 19 [.val Sc, .val (.int .i64 t), .val (.str D)] = some (roG (rowS t D)) := by
  obtain ⟨m, rfl⟩ : ∃ m, n = m + 2 := ⟨n - 2, by omega⟩
  have hs3 : ((G.fld Sc 1).toList.length : Int) = 3 := rfl
  have is1 : C (m + 1) 26 [.val Sc, .val (.int .i64 t)] = some (.bool (decide (0 ≤ t ∧ t < 3)), []) := by
    rw [f26_eq, hs3]
    show cnd (decide (0 ≤ t)) (some (G.bool (decide (t < 3)), [])) (some (G.bool false, [])) = _
    by_cases h : 0 ≤ t
    · rw [decide_eq_true h]; simp [cnd, h]
    · rw [decide_eq_false h]; simp [cnd, h]
  have is2 : C (m + 1) 28 [.val Sc, .val (.int .i64 t)] = some (.bool (decide (0 ≤ t ∧ t < 3)), []) := by
    rw [f28_eq, hs3]
    show cnd (decide (0 ≤ t)) (some (G.bool (decide (t < 3)), [])) (some (G.bool false, [])) = _
    by_cases h : 0 ≤ t
    · rw [decide_eq_true h]; simp [cnd, h]
    · rw [decide_eq_false h]; simp [cnd, h]
  have hb : ((G.str D).toStr.map fun b => G.int .u8 b.toNat) = gB D := rfl
  obtain ⟨t1, t2⟩ := take_eq (n := m + 1) D (by omega) (by omega)
  rw [f17_eq, f19_eq, hb, hs3]
  unfold rowS
  by_cases h : 0 ≤ t ∧ t < 3
  · rw [if_pos h]
    have g0 : (!(G.bool (decide (0 ≤ t ∧ t < 3))).toBool) = false := by rw [decide_eq_true h]; rfl
    have e2 : (G.fld (tvg (tv D)).1 2).toInt = ((tv D).2.2 : Int) := rfl
    have e1 : (G.fld (tvg (tv D)).1 1).toInt = ((tv D).2.1 : Int) := rfl
    have e0 : (G.fld (tvg (tv D)).1 0).toInt = ((tv D).1 : Int) := rfl
    have g2 : (decide ((0 : Int) ≤ (G.int .i64 t).toInt) && decide ((G.int .i64 t).toInt < 3)) = true := by
      show (decide ((0 : Int) ≤ t) && decide (t < 3)) = true
      rw [decide_eq_true h.1, decide_eq_true h.2]; rfl
    have hcn : colsN t ≤ 4 := by unfold colsN; split <;> (try split) <;> omega
    have w : IntKind.wrap .u64 ((G.fld ((G.fld Sc 1).toList.getD ((G.int .i64 t).toInt).toNat default) 1).toList.length : Int) = (colsN t : Int) := by
      show IntKind.wrap .u64 ((G.fld ((G.fld Sc 1).toList.getD t.toNat default) 1).toList.length : Int) = _
      rw [cols_at h, wu (by omega) (by omega)]
    by_cases h1 : (tv D).2.2 = 0
    · have g1 : (!decide ((G.fld (tvg (tv D)).1 2).toInt = 0)) = false := by rw [e2, decide_eq_true (by omega)]; rfl
      obtain ⟨k1, k2, k3⟩ := tv_ok h1
      by_cases h3 : (tv D).1 = colsN t
      · rw [if_pos ⟨h1, h3⟩]
        have g3 : (!decide ((G.fld (tvg (tv D)).1 0).toInt = IntKind.wrap .u64 ((G.fld ((G.fld Sc 1).toList.getD ((G.int .i64 t).toInt).toNat default) 1).toList.length : Int))) = false := by
          rw [w, e0, decide_eq_true (by omega)]; rfl
        have hD' : D = D.take (tv D).2.1 ++ D.drop (tv D).2.1 := by simp
        have hL := row_loop (m + 1) (colsN t) D (by omega) (by omega) (by omega) Sc (.int .i64 t) (.str D) Sc (.int .i64 t) (.str D) (colsN t) (m + 1) 0 (D.drop (tv D).2.1) (D.take (tv D).2.1) [] hD' (by omega) (by omega) (by simp)
        have hpl : (D.take (tv D).2.1).length = (tv D).2.1 := by rw [List.length_take]; omega
        rw [hpl] at hL
        constructor
        · refine bind_of is1 (grd_f g0 (bind_of t1 (grd_f g1 (grd_t g2 (grd_f g3 ?_)))))
          rw [e0, e1, h3, J17_0_eq]
          exact hL.1
        · refine bind_of is2 (grd_f g0 (bind_of t2 (grd_f g1 (grd_t g2 (grd_f g3 ?_)))))
          have hsl2 : (((gB D).take (((gB D).length : Int)).toNat).drop (((tv D).2.1 : Int)).toNat) = gB (D.drop (tv D).2.1) := by
            rw [show (((gB D).length : Int)).toNat = (gB D).length by omega, List.take_length, show (((tv D).2.1 : Int)).toNat = (tv D).2.1 by omega, gB_drop]
          rw [e0, e1, h3, J19_0_eq, hsl2]
          refine grd_t (by rw [gB_len, decide_eq_true (by omega), decide_eq_true (by omega), decide_eq_true (by omega)]; rfl) ?_
          exact hL.2
      · rw [if_neg (fun x => h3 x.2)]
        have g3 : (!decide ((G.fld (tvg (tv D)).1 0).toInt = IntKind.wrap .u64 ((G.fld ((G.fld Sc 1).toList.getD ((G.int .i64 t).toInt).toNat default) 1).toList.length : Int))) = true := by
          rw [w, e0, decide_eq_false (by omega)]; rfl
        exact ⟨bind_of is1 (grd_f g0 (bind_of t1 (grd_f g1 (grd_t g2 (grd_t g3 rfl))))), bind_of is2 (grd_f g0 (bind_of t2 (grd_f g1 (grd_t g2 (grd_t g3 rfl)))))⟩
    · rw [if_neg (fun x => h1 x.1)]
      have g1 : (!decide ((G.fld (tvg (tv D)).1 2).toInt = 0)) = true := by rw [e2, decide_eq_false (by omega)]; rfl
      exact ⟨bind_of is1 (grd_f g0 (bind_of t1 (grd_t g1 rfl))), bind_of is2 (grd_f g0 (bind_of t2 (grd_t g1 rfl)))⟩
  · rw [if_neg h]
    have g0 : (!(G.bool (decide (0 ≤ t ∧ t < 3))).toBool) = true := by rw [decide_eq_false h]; rfl
    exact ⟨bind_of is1 (grd_t g0 rfl), bind_of is2 (grd_t g0 rfl)⟩
/-! ## the same rows -/
theorem same_loop (n : Nat) (vs : List G) (hv : vs.length ≤ 100000) (a0 a1 : G) (hend : L22_0 n (n - 1) a0 a1 [.sl vs] [.sl vs] 1 = some (.bool true, [])) : ∀ (j m i : Nat), i + j = vs.length → j < m → L22_1 n (n - 1) m a0 a1 [.sl vs] [.sl vs] 0 i = some (.bool true, [])
  | 0, m + 1, i, hij, _ => by
    rw [L22_1_eq]
    refine grd_t rfl ?_
    refine grd_f (b := decide ((i : Int) < (vs.length : Int))) (decide_eq_false (by omega)) ?_
    exact hend
  | j + 1, m + 1, i, hij, hj => by
    have ih := same_loop n vs hv a0 a1 hend j m (i + 1) (by omega) (by omega)
    have hw : IntKind.wrap .i64 ((i : Int) + 1) = ((i + 1 : Nat) : Int) := by rw [wr (by omega) (by omega)]; omega
    have d : (decide ((0 : Int) ≤ (i : Int)) && decide ((i : Int) < (vs.length : Int))) = true := by rw [decide_eq_true (by omega), decide_eq_true (by omega)]; rfl
    rw [L22_1_eq, hw]
    refine grd_t rfl (grd_t (b := decide ((i : Int) < (vs.length : Int))) (decide_eq_true (by omega)) (grd_t rfl (grd_t d (grd_t rfl (grd_t d (grd_f ?_ ih))))))
    simp only [decide_true, Bool.and_self, Bool.not_true]
theorem same_le {n : Nat} (vs : List G) (hv : vs.length ≤ 100000) (hn : vs.length + 10 ≤ n) : C n 22 [.val (.sl [.sl vs]), .val (.sl [.sl vs])] = some (.bool true, []) := by
  obtain ⟨m, rfl⟩ : ∃ m, n = m + 3 := ⟨n - 3, by omega⟩
  rw [f22_eq]
  refine grd_f rfl ?_
  show L22_0 (m + 2) (m + 1 + 1) _ _ [.sl vs] [.sl vs] 0 = _
  rw [L22_0_eq]
  refine grd_t rfl (grd_t rfl (grd_t rfl (grd_f ?_ ?_)))
  · show (!decide ((vs.length : Int) = (vs.length : Int))) = false
    rw [decide_eq_true rfl]; rfl
  · refine same_loop (m + 2) vs hv _ _ ?_ vs.length (m + 2) 0 (by omega) (by omega)
    show L22_0 (m + 2) (m + 1) _ _ [.sl vs] [.sl vs] 1 = _
    rw [L22_0_eq]
    exact grd_f rfl rfl
end Go.Proofs.Ytihipeicmbgegaa.Pure
