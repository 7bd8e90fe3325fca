/- The program's Eval and the reference's, closed; how great expressions are. No conditions. -/
import Derived.Test.YtpmecpmankpcbaaVa6
import Derived.Test.YtpmecpmankpcbaaPureExprTypes
namespace Go.Proofs.Ytpmecpmankpcbaa.Pure
open Go Go.Proofs Go.Proofs.Ytpmecpmankpcbaa.Rf
set_option linter.unusedVariables false
set_option linter.unusedSimpArgs false
attribute [local irreducible] C L15_0 L30_0 L24_0 L11_0 L19_0 L29_0 L31_0 evE tyE
/-! ## small, Light, Deep -/
theorem small_loop (n : Nat) (l : List E) (hl : l.length ≤ 4096) (d : Int) (hd1 : 1 ≤ d) (hd : d + deps l ≤ 64) (hc : ∀ x ∈ l, ∀ d p : Int, 1 ≤ d → d + dep x ≤ 65 → 0 ≤ p → p + cntE x ≤ 4096 → C n 24 [.val x.g, .val (.int .i64 d), .ref 3 (.int .i64 p)] = some (.bool true, [.int .i64 (p + cntE x)])) (a0 a1 a2 : G) :
    ∀ (q p : List E) (c : Int) (m : Nat), l = p ++ q → 0 ≤ c → c + cntEs q ≤ 4096 → q.length < m → L24_0 n m a0 a1 a2 d (l.map E.g) l.length p.length (.int .i64 c) = some (.bool true, [.int .i64 (c + cntEs q)])
  | [], p, c, m + 1, hpq, hc0, _, _ => by
    have hp : p = l := by simpa using hpq.symm
    subst hp
    rw [L24_0_eq, decide_eq_false (show ¬ ((p.length : Int) < p.length) by omega), cntEs]
    simp [cnd]
  | x :: q, p, c, m + 1, hpq, hc0, hc1, hm => by
    have hlen : l.length = p.length + q.length + 1 := by rw [hpq]; simp; omega
    obtain ⟨h1, h2, h3⟩ := step_at (n := n) (p := p) (x := x) (q := q) (by rw [← hpq]; unfold maxLen; omega)
    rw [← hpq] at h1
    have hg := mid_at p q x
    rw [← hpq] at hg
    have hdx := deps_mem l x (by rw [hpq]; simp)
    rw [cntEs] at hc1
    have hx := hc x (by rw [hpq]; simp) (d + 1) c (by omega) (by omega) hc0 (by omega)
    have hlm : decide ((p.length : Int) < ((l.map E.g).length : Int)) = true := by rw [List.length_map]; exact h1
    rw [L24_0_eq, h1, h2, hlm, hg, wr (show -9223372036854775808 ≤ d + 1 by omega) (by omega), hx, h3]
    refine Eq.trans (small_loop n l hl d hd1 hd hc a0 a1 a2 q (p ++ [x]) (c + cntE x) m (by rw [hpq]; simp) (by omega) (by omega) (by simp at hm; omega)) ?_
    rw [cntEs]
    congr 4
    omega
theorem small_ok (e : E) : EOk e → Ev fun n => ∀ d p : Int, 1 ≤ d → d + dep e ≤ 65 → 0 ≤ p → p + cntE e ≤ 4096 → C n 24 [.val e.g, .val (.int .i64 d), .ref 3 (.int .i64 p)] = some (.bool true, [.int .i64 (p + cntE e)]) := by
  refine E.ind (P := fun e => EOk e → Ev fun n => ∀ d p : Int, 1 ≤ d → d + dep e ≤ 65 → 0 ≤ p → p + cntE e ≤ 4096 → C n 24 [.val e.g, .val (.int .i64 d), .ref 3 (.int .i64 p)] = some (.bool true, [.int .i64 (p + cntE e)])) ?_ e
  intro k s v l ih ok
  cases ok with
  | mk hk hs hv hl hx =>
    obtain ⟨N, hN⟩ := (Ev.all l fun x hxl => ih x hxl (hx x hxl)).and (Ev.ge (l.length + 20))
    refine Ev.up ⟨N, fun n hn => ?_⟩
    obtain ⟨h1, h2⟩ := hN n hn
    intro d p hd1 hd hp0 hp1
    rw [dep] at hd
    rw [cntE] at hp1
    have hlc := cntEs_len l
    rw [g_mk, small_eq, wr (show -9223372036854775808 ≤ p + 1 by omega) (by omega), decide_eq_false (show ¬ 64 < d by omega), decide_eq_false (show ¬ 4096 < p + 1 by omega)]
    rw [List.length_map]
    refine Eq.trans (small_loop n l (by omega) d hd1 (by omega) h1 _ _ _ l [] (p + 1) n rfl (by omega) (by omega) (by omega)) ?_
    rw [cntE]
    congr 4
    omega
theorem light_loop' (n : Nat) (k : Int) (s : List UInt8) (v : V) (l : List E) (hl : l.length ≤ maxLen) (hc : ∀ x ∈ l, ∀ t : Int, 0 ≤ t → t ≤ 1000 → ∃ r : Int, C n 11 [.val x.g, .val (.int .i64 t)] = some (.int .i64 r, []) ∧ 0 ≤ r ∧ (r ≠ 0 → cntE x + r ≤ t)) (a0 a1 : G) :
    ∀ (q p : List E) (t : Int) (m : Nat), l = p ++ q → 0 ≤ t → t ≤ 1000 → q.length < m → ∃ r : Int, L11_0 n m a0 a1 t p.length (E.mk k s v l).g = some (.int .i64 r, []) ∧ 0 ≤ r ∧ (r ≠ 0 → cntEs q + r ≤ t)
  | [], p, t, m + 1, hpq, h0, _, _ => by
    have hp : p = l := by simpa using hpq.symm
    subst hp
    rw [L11_0_eq, g_mk]
    have hz : decide ((p.length : Int) < ((G.fld (.tu [.int .i64 k, .str s, v.g, .sl (p.map E.g)]) 3).toList.length : Int)) = false := decide_eq_false (by
      show ¬ ((p.length : Int) < ((p.map E.g).length : Int))
      rw [List.length_map]
      omega)
    rw [hz]
    exact ⟨t, rfl, h0, fun _ => by rw [cntEs]; omega⟩
  | x :: q, p, t, m + 1, hpq, h0, h1000, hm => by
    have hlen : l.length = p.length + q.length + 1 := by rw [hpq]; simp; omega
    obtain ⟨h1, h2, h3⟩ := step_at (n := n) (p := p) (x := x) (q := q) (by rw [← hpq]; exact hl)
    rw [← hpq] at h1
    have hg := mid_at p q x
    rw [← hpq] at hg
    have hlm : decide ((p.length : Int) < ((l.map E.g).length : Int)) = true := by rw [List.length_map]; exact h1
    obtain ⟨r, hr, hr0, hr1⟩ := hc x (by rw [hpq]; simp) t h0 h1000
    rw [L11_0_eq, g_mk]
    simp only [show (G.fld (.tu [.int .i64 k, .str s, v.g, .sl (l.map E.g)]) 3).toList = l.map E.g from rfl]
    rw [hlm, h2, hg, hr, h3, ← g_mk]
    have hpos := cntE_pos x
    by_cases ht : 0 < t
    · rw [decide_eq_true ht]
      by_cases hrz : r = 0
      · obtain ⟨r', e1, e2, e3⟩ := light_loop' n k s v l hl hc a0 a1 q (p ++ [x]) 0 m (by rw [hpq]; simp) (by omega) (by omega) (by simp at hm; omega)
        refine ⟨r', ?_, e2, fun h => ?_⟩
        · rw [← e1, hrz]; rfl
        · have := e3 h; omega
      · have hle := hr1 hrz
        obtain ⟨r', e1, e2, e3⟩ := light_loop' n k s v l hl hc a0 a1 q (p ++ [x]) r m (by rw [hpq]; simp) (by omega) (by omega) (by simp at hm; omega)
        refine ⟨r', e1, e2, fun h => ?_⟩
        have := e3 h
        rw [cntEs]
        omega
    · rw [decide_eq_false ht]
      exact ⟨t, rfl, h0, fun h => by omega⟩
theorem light_eq (e : E) : EOk e → Ev fun n => ∀ t : Int, 0 ≤ t → t ≤ 1000 → ∃ r : Int, C n 11 [.val e.g, .val (.int .i64 t)] = some (.int .i64 r, []) ∧ 0 ≤ r ∧ (r ≠ 0 → cntE e + r ≤ t) := by
  refine E.ind (P := fun e => EOk e → Ev fun n => ∀ t : Int, 0 ≤ t → t ≤ 1000 → ∃ r : Int, C n 11 [.val e.g, .val (.int .i64 t)] = some (.int .i64 r, []) ∧ 0 ≤ r ∧ (r ≠ 0 → cntE e + r ≤ t)) ?_ e
  intro k s v l ih ok
  cases ok with
  | mk hk hs hv hl hx =>
    obtain ⟨N, hN⟩ := (Ev.all l fun x hxl => ih x hxl (hx x hxl)).and (Ev.ge (l.length + 20))
    refine Ev.up ⟨N, fun n hn => ?_⟩
    obtain ⟨h1, h2⟩ := hN n hn
    intro t h0 h1000
    rw [f11_eq]
    have hw : (G.int .i64 t).toInt = t := rfl
    rw [hw]
    by_cases ht : t ≤ 0
    · rw [decide_eq_true ht]
      exact ⟨0, rfl, by omega, fun h => absurd rfl h⟩
    · rw [decide_eq_false ht, wr (show -9223372036854775808 ≤ t - 1 by omega) (by omega)]
      obtain ⟨r, e1, e2, e3⟩ := light_loop' n k s v l hl h1 (E.mk k s v l).g (.int .i64 t) l [] (t - 1) n rfl (by omega) (by omega) (by omega)
      have e1' : L11_0 n n (E.mk k s v l).g (.int .i64 t) (t - 1) 0 (E.mk k s v l).g = some (.int .i64 r, []) := e1
      rw [e1']
      cases decide (100 < ((G.fld (E.mk k s v l).g 1).toStr.length : Int)) with
      | true => exact ⟨0, rfl, by omega, fun h => absurd rfl h⟩
      | false =>
        cases decide (200 < ((G.fld (G.fld (E.mk k s v l).g 2) 2).toStr.length : Int)) with
        | true => exact ⟨0, rfl, by omega, fun h => absurd rfl h⟩
        | false =>
          refine ⟨r, rfl, e2, fun h => ?_⟩
          have := e3 h
          rw [cntE]
          omega
theorem deep_loop (n : Nat) (k : Int) (s : List UInt8) (v : V) (l : List E) (hl : l.length ≤ maxLen) (hc : ∀ x ∈ l, C n 19 [.val x.g] = some (.int .i64 (dep x), [])) (hd : deps l ≤ 4096) (a0 : G) :
    ∀ (q p : List E) (c : Nat) (m : Nat), l = p ++ q → c ≤ 4096 → q.length < m → L19_0 n m a0 c p.length (E.mk k s v l).g = some (.int .i64 (1 + max c (deps q) : Nat), [])
  | [], p, c, m + 1, hpq, h0, _ => by
    have hp : p = l := by simpa using hpq.symm
    subst hp
    rw [L19_0_eq, g_mk]
    have hz : decide ((p.length : Int) < ((G.fld (.tu [.int .i64 k, .str s, v.g, .sl (p.map E.g)]) 3).toList.length : Int)) = false := decide_eq_false (by
      show ¬ ((p.length : Int) < ((p.map E.g).length : Int))
      rw [List.length_map]
      omega)
    rw [hz, wr (show -9223372036854775808 ≤ (c : Int) + 1 by omega) (by omega), deps]
    have : ((c : Int) + 1) = ((1 + max c 0 : Nat) : Int) := by omega
    rw [this]
    rfl
  | x :: q, p, c, m + 1, hpq, h0, hm => by
    have hlen : l.length = p.length + q.length + 1 := by rw [hpq]; simp; omega
    obtain ⟨h1, h2, h3⟩ := step_at (n := n) (p := p) (x := x) (q := q) (by rw [← hpq]; exact hl)
    rw [← hpq] at h1
    have hg := mid_at p q x
    rw [← hpq] at hg
    have hlm : decide ((p.length : Int) < ((l.map E.g).length : Int)) = true := by rw [List.length_map]; exact h1
    have hdx := deps_mem l x (by rw [hpq]; simp)
    rw [L19_0_eq, g_mk]
    simp only [show (G.fld (.tu [.int .i64 k, .str s, v.g, .sl (l.map E.g)]) 3).toList = l.map E.g from rfl]
    rw [hlm, h2, hg, hc x (by rw [hpq]; simp), h3, ← g_mk]
    have e : (if (dep x : Int) > c then (dep x : Int) else c) = ((max c (dep x) : Nat) : Int) := by
      by_cases h : (dep x : Int) > c
      · rw [if_pos h]; omega
      · rw [if_neg h]; omega
    show L19_0 n m a0 (if (dep x : Int) > c then (dep x : Int) else c) (p ++ [x]).length (E.mk k s v l).g = _
    rw [e, deep_loop n k s v l hl hc hd a0 q (p ++ [x]) (max c (dep x)) m (by rw [hpq]; simp) (by omega) (by simp at hm; omega), deps]
    congr 4
    omega
theorem dep_cnt (e : E) : dep e ≤ cntE e := by
  refine E.ind (P := fun e => dep e ≤ cntE e) ?_ e
  intro k s v l ih
  rw [dep, cntE]
  have key : ∀ l : List E, (∀ x ∈ l, dep x ≤ cntE x) → deps l ≤ cntEs l := by
    intro l
    induction l with
    | nil => intro _; rw [deps, cntEs]; omega
    | cons y l ihl =>
      intro h
      have h1 := h y (by simp)
      have h2 := ihl fun x hx => h x (List.mem_cons_of_mem _ hx)
      rw [deps, cntEs]; omega
  have := key l ih
  omega
theorem deps_cnt (l : List E) : deps l ≤ cntEs l := by
  have := dep_cnt (.mk 0 [] .z l)
  rw [dep, cntE] at this
  omega
theorem deep_eq (e : E) : EOk e → cntE e ≤ 4096 → Ev fun n => C n 19 [.val e.g] = some (.int .i64 (dep e), []) := by
  refine E.ind (P := fun e => EOk e → cntE e ≤ 4096 → Ev fun n => C n 19 [.val e.g] = some (.int .i64 (dep e), [])) ?_ e
  intro k s v l ih ok hc
  cases ok with
  | mk hk hs hv hl hx =>
    rw [cntE] at hc
    have hdc := deps_cnt l
    obtain ⟨N, hN⟩ := (Ev.all l fun x hxl => ih x hxl (hx x hxl) (by have := cntEs_mem l x hxl; omega)).and (Ev.ge (l.length + 20))
    refine Ev.up ⟨N, fun n hn => ?_⟩
    obtain ⟨h1, h2⟩ := hN n hn
    rw [f19_eq]
    have := deep_loop n k s v l hl h1 (by omega) (E.mk k s v l).g l [] 0 n rfl (by omega) (by omega)
    refine Eq.trans this ?_
    rw [dep]
    congr 4
/-! ## Type and Eval -/
theorem type_ok (e : E) (he : EOk e) (hd : dep e ≤ 64) (hc : cntE e ≤ 4096) : Ev fun n => C n 13 [.val tbl, .val e.g] = some (ng (tyE e)) := by
  obtain ⟨N, hN⟩ := (small_ok e he).and (typed_eq e he hc)
  refine Ev.up ⟨N, fun n hn => ?_⟩
  obtain ⟨h1, h2⟩ := hN n hn
  rw [f13_eq]
  refine bind_of (h1 1 0 (by omega) (by omega) (by omega) (by omega)) ?_
  exact bind_of h2 (ng_again _)
theorem cnt_E : ∀ (e : E), cnt e.g = cntE e := by
  intro e
  refine E.ind (P := fun e => cnt e.g = cntE e) ?_ e
  intro k s v l ih
  rw [g_mk, cnt_expr, cntE]
  have key : ∀ l : List E, (∀ x ∈ l, cnt x.g = cntE x) → cnts (l.map E.g) = cntEs l := by
    intro l
    induction l with
    | nil => intro _; rfl
    | cons y l ihl =>
      intro h
      rw [List.map_cons, cnts, cntEs, h y (by simp), ihl fun x hx => h x (List.mem_cons_of_mem _ hx)]
  rw [key l ih]
theorem of_bind {x : Option R} {r : R} {K : R → Option R} {y : Option R} (h : x = some r) (hk : x.bind K = y) : K r = y := by rw [h] at hk; exact hk
/-- Both texts' Type: too great, or the kind. -/
theorem type_both {e : E} (he : EOk e) (hw : WG tab 26 e.g) : Ev fun n => (C n 13 [.val tbl, .val e.g] = some (ng (0, 3)) ∧ C n 14 [.val tbl, .val e.g] = some (ng (0, 3))) ∨ (cntE e ≤ 4096 ∧ C n 13 [.val tbl, .val e.g] = some (ng (tyE e)) ∧ C n 14 [.val tbl, .val e.g] = some (ng (tyE e))) := by
  have hcol : (cols tbl).length ≤ maxLen := by unfold maxLen; show 3 ≤ _; omega
  by_cases hc : cntE e ≤ 4096
  · obtain ⟨N, hN⟩ := typed_eq e he hc
    refine ⟨N + 3 * wt e.g + 6000, fun m hm => ?_⟩
    obtain ⟨n, rfl⟩ : ∃ n, m = n + 1 := ⟨m - 1, by omega⟩
    obtain ⟨a, b, h1, h2⟩ := types_same e.g tbl hw hcol n (by show 3 * wt e.g + 3 + 5005 ≤ n; omega)
    rw [f13_eq] at h1
    obtain ⟨k, rfl⟩ : ∃ k, n = k + 1 := ⟨n - 1, by omega⟩
    rcases alike (wt e.g) e.g hw (Nat.le_refl _) k (by omega) 1 0 (by omega) (by omega) (by omega) (by omega) with ⟨p', g1, g2⟩ | ⟨hle, g1, g2⟩
    · have h1 := of_bind g1 h1
      have hab : knd a b = ng (0, 3) := by
        have : some (ng (0, 3)) = some (knd a b) := h1
        exact (Option.some.inj this).symm
      refine .inl ⟨?_, by rw [h2, hab]⟩
      rw [f13_eq]
      exact bind_of g1 rfl
    · have h1 := of_bind g1 h1
      have h3 := hN (k + 1) (by omega)
      have hab : knd a b = ng (tyE e) := by
        have h4 : (C (k + 1) 25 [.val tbl, .val e.g]).bind (fun r1 => some ((.tu [(.int .i64 (G.fld r1.1 0).toInt), (.int .i64 (G.fld r1.1 1).toInt)]), ([] : List G))) = some (knd a b) := h1
        have h5 := of_bind h3 h4
        exact (Option.some.inj h5).symm
      refine .inr ⟨hc, ?_, by rw [h2, hab]⟩
      rw [f13_eq]
      refine bind_of g1 ?_
      exact bind_of h3 (ng_again _)
  · refine ⟨3 * wt e.g + 6000, fun m hm => ?_⟩
    obtain ⟨k, rfl⟩ : ∃ k, m = k + 2 := ⟨m - 2, by omega⟩
    left
    rcases alike (wt e.g) e.g hw (Nat.le_refl _) k (by omega) 1 0 (by omega) (by omega) (by omega) (by omega) with ⟨p', g1, g2⟩ | ⟨hle, g1, g2⟩
    · rw [f13_eq, f14_eq]
      have g2' : C (k + 1) 26 [.val e.g, .val (.int .i64 1), .val (.int .i64 4096)] = some (.tu [.int .i64 0, .bool true], []) := g2
      rw [g1, g2']
      exact ⟨rfl, rfl⟩
    · rw [cnt_E] at hle; omega
/-- Has a row the values that the table's columns take? (Both texts ask.) -/
def fin (n : Nat) (row e : G) (x : Option R) : Option R := x.bind fun r1 => some (.tu [G.fld r1.1 0, .int .i64 (G.fld r1.1 1).toInt], [])
theorem may_le {n : Nat} (hn : 1 ≤ n) (v : V) : C n 28 [.val v.g] = some (.bool (may v), []) := at_le (p := fun n => C n 28 [.val v.g] = some (.bool (may v), [])) hn fun m => may_eq m v
theorem mayr_le {n : Nat} (hn : 1 ≤ n) (v : V) : C n 35 [.val v.g] = some (.bool (may v), []) := at_le (p := fun n => C n 35 [.val v.g] = some (.bool (may v), [])) hn fun m => may_ref m v
theorem one3_tree (v : V) (k : Int) {x y : Option R} : cnd (!(may v)) y (cnd (!decide (v.k = k)) (cnd (!decide (v.k = 0)) y x) x) = cnd (one3 k v) x y := by
  unfold one3
  cases may v <;> cases decide (v.k = k) <;> cases decide (v.k = 0) <;> rfl
theorem one3_tree' (v : V) (k : Int) {x y : Option R} : cnd (!(may v)) y (cnd (!decide (v.k = 0)) (cnd (!decide (v.k = k)) y x) x) = cnd (one3 k v) x y := by
  unfold one3
  cases may v <;> cases decide (v.k = k) <;> cases decide (v.k = 0) <;> rfl
theorem and3 (x y z : Bool) {α : Type} (A B : α) : cnd x (cnd y (cnd z A B) B) B = cnd (x && (y && z)) A B := by cases x <;> cases y <;> cases z <;> rfl
theorem row_loop (f m : Nat) (a b c : V) (e a0 a1 a2 z : G) : L15_0 (f + 1) (m + 4) a0 a1 a2 ([a, b, c].map V.g) ([a, b, c].map V.g) 3 0 tbl e z = cnd (rowOk [a, b, c]) ((C (f + 1) 29 [.val tbl, .val (.sl ([a, b, c].map V.g)), .val e]).bind fun r1 => some (.tu [G.fld r1.1 0, .int .i64 (G.fld r1.1 1).toInt], [])) (some (vg (.z, 9))) := by
  have s0 : L15_0 (f + 1) (m + 4) a0 a1 a2 ([a, b, c].map V.g) ([a, b, c].map V.g) 3 0 tbl e z = cnd (one3 2 a) (L15_0 (f + 1) (m + 3) a0 a1 a2 ([a, b, c].map V.g) ([a, b, c].map V.g) 3 1 tbl e z) (some (vg (.z, 9))) := by
    rw [L15_0_eq, ← one3_tree]
    exact bind_of (may_eq f a) rfl
  have s1 : L15_0 (f + 1) (m + 3) a0 a1 a2 ([a, b, c].map V.g) ([a, b, c].map V.g) 3 1 tbl e z = cnd (one3 1 b) (L15_0 (f + 1) (m + 2) a0 a1 a2 ([a, b, c].map V.g) ([a, b, c].map V.g) 3 2 tbl e z) (some (vg (.z, 9))) := by
    rw [L15_0_eq, ← one3_tree]
    exact bind_of (may_eq f b) rfl
  have s2 : L15_0 (f + 1) (m + 2) a0 a1 a2 ([a, b, c].map V.g) ([a, b, c].map V.g) 3 2 tbl e z = cnd (one3 3 c) (L15_0 (f + 1) (m + 1) a0 a1 a2 ([a, b, c].map V.g) ([a, b, c].map V.g) 3 3 tbl e z) (some (vg (.z, 9))) := by
    rw [L15_0_eq, ← one3_tree]
    exact bind_of (may_eq f c) rfl
  have s3 : L15_0 (f + 1) (m + 1) a0 a1 a2 ([a, b, c].map V.g) ([a, b, c].map V.g) 3 3 tbl e z = (C (f + 1) 29 [.val tbl, .val (.sl ([a, b, c].map V.g)), .val e]).bind fun r1 => some (.tu [G.fld r1.1 0, .int .i64 (G.fld r1.1 1).toInt], []) := by
    rw [L15_0_eq, show decide ((3 : Int) < 3) = false from rfl]
    rfl
  rw [s0, s1, s2, s3]
  exact and3 _ _ _ _ _
theorem row_ref (f m : Nat) (a b c : V) (a0 a1 : G) : L30_0 (f + 1) (m + 4) a0 a1 ([a, b, c].map V.g) 0 tbl = some (.bool (rowOk [a, b, c]), []) := by
  have s0 : L30_0 (f + 1) (m + 4) a0 a1 ([a, b, c].map V.g) 0 tbl = cnd (one3 2 a) (L30_0 (f + 1) (m + 3) a0 a1 ([a, b, c].map V.g) 1 tbl) (some (.bool false, [])) := by
    rw [L30_0_eq, ← one3_tree']
    exact bind_of (may_ref f a) rfl
  have s1 : L30_0 (f + 1) (m + 3) a0 a1 ([a, b, c].map V.g) 1 tbl = cnd (one3 1 b) (L30_0 (f + 1) (m + 2) a0 a1 ([a, b, c].map V.g) 2 tbl) (some (.bool false, [])) := by
    rw [L30_0_eq, ← one3_tree']
    exact bind_of (may_ref f b) rfl
  have s2 : L30_0 (f + 1) (m + 2) a0 a1 ([a, b, c].map V.g) 2 tbl = cnd (one3 3 c) (L30_0 (f + 1) (m + 1) a0 a1 ([a, b, c].map V.g) 3 tbl) (some (.bool false, [])) := by
    rw [L30_0_eq, ← one3_tree']
    exact bind_of (may_ref f c) rfl
  have s3 : L30_0 (f + 1) (m + 1) a0 a1 ([a, b, c].map V.g) 3 tbl = some (.bool true, []) := by
    rw [L30_0_eq]
    rfl
  rw [s0, s1, s2, s3]
  refine (and3 _ _ _ _ _).trans ?_
  show cnd (rowOk [a, b, c]) _ _ = _
  cases rowOk [a, b, c] <;> rfl
def evalS (row : List V) (e : E) : V × Int := if (tyE e).2 = 0 then (if rowOk row = true then evE row e else (.z, 9)) else (.z, (tyE e).2)
theorem row_len {row : List V} (h : row.length = 3) : ∃ a b c, row = [a, b, c] := by
  match row, h with
  | [a, b, c], _ => exact ⟨a, b, c, rfl⟩
theorem row_no {row : List V} (h : ¬ row.length = 3) : rowOk row = false := by
  match row, h with
  | [], _ => rfl
  | [_], _ => rfl
  | [_, _], _ => rfl
  | [_, _, _], h => exact absurd rfl h
  | _ :: _ :: _ :: _ :: _, _ => rfl
theorem e15_err {n : Nat} {e : G} {row : List V} {t : Int × Int} (h : C n 13 [.val tbl, .val e] = some (ng t)) (ht : ¬ t.2 = 0) : C (n + 1) 15 [.val tbl, .val (.sl (row.map V.g)), .val e] = some (vg (.z, t.2)) := by
  rw [f15_eq, h]
  simp only [Option.bind_some]
  rw [show decide ((G.fld (ng t).1 1).toInt = 0) = false from decide_eq_false ht]
  rfl
theorem e16_err {n : Nat} {e : G} {row : List V} {t : Int × Int} (h : C n 14 [.val tbl, .val e] = some (ng t)) (ht : ¬ t.2 = 0) : C (n + 1) 16 [.val tbl, .val (.sl (row.map V.g)), .val e] = some (vg (.z, t.2)) := by
  rw [f16_eq, h]
  simp only [Option.bind_some]
  rw [show decide ((G.fld (ng t).1 1).toInt = 0) = false from decide_eq_false ht]
  rfl
theorem e15_len {n : Nat} {e : G} {row : List V} {t : Int × Int} (h : C n 13 [.val tbl, .val e] = some (ng t)) (ht : t.2 = 0) (hl : ¬ row.length = 3) : C (n + 1) 15 [.val tbl, .val (.sl (row.map V.g)), .val e] = some (vg (.z, 9)) := by
  have hd : decide (((G.sl (row.map V.g)).toList.length : Int) = ((G.fld tbl 1).toList.length : Int)) = false := decide_eq_false (by
    show ¬ (((row.map V.g).length : Int) = 3)
    rw [List.length_map]; omega)
  rw [f15_eq, h]
  simp only [Option.bind_some]
  rw [show decide ((G.fld (ng t).1 1).toInt = 0) = true from decide_eq_true ht, hd]
  rfl
theorem e16_len {n : Nat} {e : G} {row : List V} {t : Int × Int} (h : C (n + 1) 14 [.val tbl, .val e] = some (ng t)) (ht : t.2 = 0) (hl : ¬ row.length = 3) : C (n + 2) 16 [.val tbl, .val (.sl (row.map V.g)), .val e] = some (vg (.z, 9)) := by
  have hd : decide (((G.sl (row.map V.g)).toList.length : Int) = ((G.fld tbl 1).toList.length : Int)) = false := decide_eq_false (by
    show ¬ (((row.map V.g).length : Int) = 3)
    rw [List.length_map]; omega)
  rw [f16_eq, h]
  simp only [Option.bind_some]
  rw [show decide ((G.fld (ng t).1 1).toInt = 0) = true from decide_eq_true ht, f30_eq]
  simp only [Bool.not_true, cnd]
  have h2 : decide (((G.sl (G.sl (row.map V.g)).toList).toList.length : Int) = ((G.fld tbl 1).toList.length : Int)) = false := hd
  rw [h2]
  rfl
theorem e15_row {f : Nat} {e : G} {a b c : V} {t : Int × Int} (h : C (f + 4) 13 [.val tbl, .val e] = some (ng t)) (ht : t.2 = 0) : C (f + 5) 15 [.val tbl, .val (.sl ([a, b, c].map V.g)), .val e] = cnd (rowOk [a, b, c]) ((C (f + 4) 29 [.val tbl, .val (.sl ([a, b, c].map V.g)), .val e]).bind fun r1 => some (.tu [G.fld r1.1 0, .int .i64 (G.fld r1.1 1).toInt], [])) (some (vg (.z, 9))) := by
  rw [f15_eq, h]
  simp only [Option.bind_some]
  rw [show decide ((G.fld (ng t).1 1).toInt = 0) = true from decide_eq_true ht]
  simp only [Bool.not_true, cnd]
  rw [show decide (((G.sl ([a, b, c].map V.g)).toList.length : Int) = ((G.fld tbl 1).toList.length : Int)) = true from rfl]
  simp only [Bool.not_true, cnd]
  exact row_loop (f + 3) f a b c e _ _ _ V0
theorem e16_row {f : Nat} {e : G} {a b c : V} {t : Int × Int} (h : C (f + 5) 14 [.val tbl, .val e] = some (ng t)) (ht : t.2 = 0) : C (f + 6) 16 [.val tbl, .val (.sl ([a, b, c].map V.g)), .val e] = cnd (rowOk [a, b, c]) ((C (f + 5) 31 [.val tbl, .val (.sl ([a, b, c].map V.g)), .val e]).bind fun r1 => some (.tu [G.fld r1.1 0, .int .i64 (G.fld r1.1 1).toInt], [])) (some (vg (.z, 9))) := by
  rw [f16_eq, h]
  simp only [Option.bind_some]
  rw [show decide ((G.fld (ng t).1 1).toInt = 0) = true from decide_eq_true ht, f30_eq]
  simp only [Bool.not_true, cnd]
  rw [show decide (((G.sl (G.sl ([a, b, c].map V.g)).toList).toList.length : Int) = ((G.fld tbl 1).toList.length : Int)) = true from rfl]
  simp only [Bool.not_true, cnd]
  have hr : L30_0 (f + 4) (f + 4) tbl (G.sl (G.sl ([a, b, c].map V.g)).toList) (G.sl (G.sl ([a, b, c].map V.g)).toList).toList 0 tbl = some (.bool (rowOk [a, b, c]), []) := row_ref (f + 3) f a b c _ _
  rw [hr]
  simp only [Option.bind_some, G.toBool]
  cases rowOk [a, b, c] <;> rfl
/-- Eval of an expression that is not too great, both texts. -/
theorem eval_of {e : E} (he : EOk e) (hc : cntE e ≤ 4096) (row : List V) (ho : ∀ v ∈ row, v.ok) : Ev fun n => (C n 13 [.val tbl, .val e.g] = some (ng (tyE e)) → C (n + 1) 15 [.val tbl, .val (.sl (row.map V.g)), .val e.g] = some (vg (evalS row e))) ∧ (C n 14 [.val tbl, .val e.g] = some (ng (tyE e)) → C (n + 1) 16 [.val tbl, .val (.sl (row.map V.g)), .val e.g] = some (vg (evalS row e))) := by
  unfold evalS
  by_cases ht : (tyE e).2 = 0
  · rw [if_pos ht]
    by_cases hl : row.length = 3
    · obtain ⟨a, b, c, rfl⟩ := row_len hl
      by_cases hr : rowOk [a, b, c] = true
      · rw [if_pos hr]
        obtain ⟨N, hN⟩ := eval_both hr ho e he hc ht
        refine ⟨N + 10, fun m hm => ?_⟩
        obtain ⟨n, rfl⟩ : ∃ n, m = n + 5 := ⟨m - 5, by omega⟩
        obtain ⟨h1, h2⟩ := hN (n + 5) (by omega)
        constructor
        · intro h3
          rw [e15_row (f := n + 1) h3 ht, hr, h1]
          rfl
        · intro h3
          rw [e16_row (f := n) h3 ht, hr, h2]
          rfl
      · rw [if_neg hr]
        have hr' : rowOk [a, b, c] = false := by simpa using hr
        refine ⟨10, fun m hm => ?_⟩
        obtain ⟨n, rfl⟩ : ∃ n, m = n + 5 := ⟨m - 5, by omega⟩
        constructor
        · intro h3
          rw [e15_row (f := n + 1) h3 ht, hr']
          rfl
        · intro h3
          rw [e16_row (f := n) h3 ht, hr']
          rfl
    · rw [if_neg (by rw [row_no hl]; decide)]
      refine ⟨10, fun m hm => ?_⟩
      obtain ⟨n, rfl⟩ : ∃ n, m = n + 1 := ⟨m - 1, by omega⟩
      exact ⟨fun h3 => e15_len h3 ht hl, fun h3 => e16_len h3 ht hl⟩
  · rw [if_neg ht]
    exact Ev.of fun n => ⟨fun h3 => e15_err h3 ht, fun h3 => e16_err h3 ht⟩
/-- The program's Eval of an expression that is not too great. -/
theorem eval_eq {e : E} (he : EOk e) (hd : dep e ≤ 64) (hc : cntE e ≤ 4096) (row : List V) (ho : ∀ v ∈ row, v.ok) : Ev fun n => C n 15 [.val tbl, .val (.sl (row.map V.g)), .val e.g] = some (vg (evalS row e)) := by
  obtain ⟨N, hN⟩ := (eval_of he hc row ho).and (type_ok e he hd hc)
  exact Ev.up ⟨N, fun n hn => (hN n hn).1.1 (hN n hn).2⟩
end Go.Proofs.Ytpmecpmankpcbaa.Pure
