/- Values in plain bytes, read: both texts. No conditions. -/
import Derived.Test.YtihipeicmbgegaaRa3
namespace Go.Proofs.Ytihipeicmbgegaa.Pure
open Go Go.Proofs Go.Proofs.Ytihipeicmbgegaa.Rf
set_option linter.unusedVariables false
set_option linter.unusedSimpArgs false
attribute [local irreducible] C
theorem tvL_ok : ∀ (q : List UInt8) (i v : Nat), i ≤ 9 → v < 128 ^ i → (tvL q i v).2.2 = 0 → (tvL q i v).2.1 ≤ i + q.length ∧ (tvL q i v).1 < 18446744073709551616 ∧ 1 ≤ (tvL q i v).2.1
  | [], i, v, _, _, h => by simp [tvL] at h
  | c :: q, i, v, hi, hv, h => by
    rw [tvL] at h ⊢
    by_cases h9 : i = 9 ∧ 1 < c.toNat
    · rw [if_pos h9] at h; simp at h
    · rw [if_neg h9] at h ⊢
      obtain ⟨s1, s2⟩ := step7 (c := c.toNat) hi hv h9
      by_cases h128 : 128 ≤ c.toNat
      · rw [if_pos h128] at h ⊢
        have ih := tvL_ok q (i + 1) _ (by omega) s1 h
        refine ⟨?_, ih.2.1, ih.2.2⟩
        have := ih.1
        simp only [List.length_cons]
        omega
      · rw [if_neg h128] at h ⊢
        by_cases h0 : c.toNat = 0 ∧ 0 < i
        · rw [if_pos h0] at h; simp at h
        · rw [if_neg h0]
          refine ⟨?_, s2, Nat.le_add_left 1 i⟩
          simp only [List.length_cons]
          omega
theorem tv_ok {l : List UInt8} (h : (tv l).2.2 = 0) : (tv l).2.1 ≤ l.length ∧ (tv l).1 < 18446744073709551616 ∧ 1 ≤ (tv l).2.1 := by
  have := tvL_ok l 0 0 (by omega) (by simp) h
  unfold tv
  omega
def ttL (l : List UInt8) : List UInt8 × Nat × Nat := if (tv l).2.2 = 0 then (if 1048576 < (tv l).1 then ([], 0, 3) else if l.length - (tv l).2.1 < (tv l).1 then ([], 0, 2) else ((l.drop (tv l).2.1).take (tv l).1, (tv l).2.1 + (tv l).1, 0)) else ([], 0, (tv l).2.2)
def ttg (x : List UInt8 × Nat × Nat) : R := (.tu [.sl (gB x.1), .int .i64 x.2.1, .int .i64 x.2.2], [])
theorem slice_eq (l : List UInt8) (k v : Nat) : ((gB l).take (k + v)).drop k = gB ((l.drop k).take v) := by
  rw [gB_take, gB_drop, List.drop_take]
  congr 2
  omega
theorem tt_le {n : Nat} (l : List UInt8) (hl : l.length ≤ 100000000) (hn : l.length + 20 ≤ n) : C n 55 [.val (.sl (gB l))] = some (ttg (ttL l)) ∧ C n 58 [.val (.sl (gB l))] = some (ttg (ttL l)) := by
  obtain ⟨m, rfl⟩ : ∃ m, n = m + 1 := ⟨n - 1, by omega⟩
  have hlen : ((G.sl (gB l)).toList.length : Int) = l.length := by show ((gB l).length : Int) = _; rw [gB_len]
  obtain ⟨t1, t2⟩ := take_eq (n := m) l (by omega) (by omega)
  rw [f55_eq, f58_eq, hlen]
  unfold ttL
  by_cases h0 : (tv l).2.2 = 0
  · rw [if_pos h0]
    obtain ⟨k1, k2, k3⟩ := tv_ok h0
    have g0 : (!decide ((G.fld (tvg (tv l)).1 2).toInt = 0)) = false := by
      show (!decide (((tv l).2.2 : Int) = 0)) = false
      rw [decide_eq_true (by omega)]; rfl
    have e1 : (G.fld (tvg (tv l)).1 1).toInt = ((tv l).2.1 : Int) := rfl
    have e0 : (G.fld (tvg (tv l)).1 0).toInt = ((tv l).1 : Int) := rfl
    by_cases h1 : 1048576 < (tv l).1
    · rw [if_pos h1]
      constructor
      · refine bind_of t1 (grd_f g0 (grd_t ?_ rfl))
        rw [e0]; exact decide_eq_true (by omega)
      · refine bind_of t2 (grd_f g0 (grd_t ?_ rfl))
        rw [e0]; exact decide_eq_true (by omega)
    · rw [if_neg h1]
      have w1 : IntKind.wrap .i64 ((l.length : Int) - ((tv l).2.1 : Int)) = ((l.length - (tv l).2.1 : Nat) : Int) := by
        rw [wr (by omega) (by omega)]; omega
      have w2 : IntKind.wrap .i64 ((tv l).1 : Int) = ((tv l).1 : Int) := wr (by omega) (by omega)
      by_cases h2 : l.length - (tv l).2.1 < (tv l).1
      · rw [if_pos h2]
        constructor
        · refine bind_of t1 (grd_f g0 (grd_f ?_ (grd_t ?_ rfl)))
          · rw [e0]; exact decide_eq_false (by omega)
          · rw [e0, e1, w1, wu (by omega) (by omega)]; exact decide_eq_true (by omega)
        · refine bind_of t2 (grd_f g0 (grd_f ?_ (grd_t ?_ rfl)))
          · rw [e0]; exact decide_eq_false (by omega)
          · rw [e0, e1, w1, w2]; exact decide_eq_true (by omega)
      · rw [if_neg h2]
        have w3 : IntKind.wrap .i64 (((tv l).2.1 : Int) + IntKind.wrap .i64 ((tv l).1 : Int)) = (((tv l).2.1 + (tv l).1 : Nat) : Int) := by
          rw [w2, wr (by omega) (by omega)]; omega
        have g3 : (decide (0 ≤ (G.fld (tvg (tv l)).1 1).toInt) && (decide ((G.fld (tvg (tv l)).1 1).toInt ≤ IntKind.wrap .i64 ((G.fld (tvg (tv l)).1 1).toInt + IntKind.wrap .i64 (G.fld (tvg (tv l)).1 0).toInt)) && decide (IntKind.wrap .i64 ((G.fld (tvg (tv l)).1 1).toInt + IntKind.wrap .i64 (G.fld (tvg (tv l)).1 0).toInt) ≤ (l.length : Int)))) = true := by
          rw [e0, e1, w3, decide_eq_true (by omega), decide_eq_true (by omega), decide_eq_true (by omega)]; rfl
        have sl : (((G.sl (gB l)).toList.take (IntKind.wrap .i64 ((G.fld (tvg (tv l)).1 1).toInt + IntKind.wrap .i64 (G.fld (tvg (tv l)).1 0).toInt)).toNat).drop (G.fld (tvg (tv l)).1 1).toInt.toNat) = gB ((l.drop (tv l).2.1).take (tv l).1) := by
          rw [e0, e1, w3, ← slice_eq]
          rfl
        have hll : ((l.drop (tv l).2.1).take (tv l).1).length ≤ l.length := by
          rw [List.length_take, List.length_drop]; omega
        constructor
        · refine bind_of t1 (grd_f g0 (grd_f ?_ (grd_f ?_ (grd_t g3 ?_))))
          · rw [e0]; exact decide_eq_false (by omega)
          · rw [e0, e1, w1, wu (by omega) (by omega)]; exact decide_eq_false (by omega)
          · rw [sl]
            refine bind_of (room_le (by omega) _ 0 (by omega) (by omega) (by omega)) ?_
            rw [e0, e1, w3]
            rfl
        · refine bind_of t2 (grd_f g0 (grd_f ?_ (grd_f ?_ (grd_t g3 (grd_t ?_ ?_)))))
          · rw [e0]; exact decide_eq_false (by omega)
          · rw [e0, e1, w1, w2]; exact decide_eq_false (by omega)
          · rw [sl, gB_len]; exact decide_eq_true (by omega)
          · rw [sl, e0, e1, w3]
            rfl
  · rw [if_neg h0]
    have g0 : (!decide ((G.fld (tvg (tv l)).1 2).toInt = 0)) = true := by
      show (!decide (((tv l).2.2 : Int) = 0)) = true
      rw [decide_eq_false (by omega)]; rfl
    exact ⟨bind_of t1 (grd_t g0 rfl), bind_of t2 (grd_t g0 rfl)⟩
/-! ## a value -/
def tk1 : List UInt8 → V × Nat × Nat
  | [] => (.z, 0, 2)
  | d :: _ => if 1 < d.toNat then (.z, 0, 9) else (⟨1, d.toNat, []⟩, 2, 0)
def tkL : List UInt8 → V × Nat × Nat
  | [] => (.z, 0, 2)
  | c :: l => if c.toNat = 0 then (.z, 1, 0) else if c.toNat = 1 then tk1 l else if c.toNat = 2 then (if (tv l).2.2 = 0 then (⟨2, zagN (tv l).1, []⟩, 1 + (tv l).2.1, 0) else (.z, 0, (tv l).2.2)) else if c.toNat = 3 then (if (ttL l).2.2 = 0 then (if 64 < (ttL l).1.length then (.z, 0, 3) else (⟨3, 0, (ttL l).1⟩, 1 + (ttL l).2.1, 0)) else (.z, 0, (ttL l).2.2)) else (.z, 0, 9)
def tkg (x : V × Nat × Nat) : R := (.tu [x.1.g, .int .i64 x.2.1, .int .i64 x.2.2], [])
theorem tt_ok {l : List UInt8} (h : (ttL l).2.2 = 0) : (ttL l).2.1 ≤ l.length := by
  unfold ttL at h ⊢
  by_cases h0 : (tv l).2.2 = 0
  · rw [if_pos h0] at h ⊢
    have := tv_ok h0
    by_cases h1 : 1048576 < (tv l).1
    · rw [if_pos h1] at h; simp at h
    · rw [if_neg h1] at h ⊢
      by_cases h2 : l.length - (tv l).2.1 < (tv l).1
      · rw [if_pos h2] at h; simp at h
      · rw [if_neg h2]
        show (tv l).2.1 + (tv l).1 ≤ l.length
        omega
  · rw [if_neg h0] at h; exact absurd h h0
theorem tk_ok {l : List UInt8} (h : (tkL l).2.2 = 0) : (tkL l).2.1 ≤ l.length := by
  cases l with
  | nil => simp [tkL] at h
  | cons c l =>
    simp only [List.length_cons]
    rw [tkL] at h ⊢
    by_cases c0 : c.toNat = 0
    · rw [if_pos c0]; show 1 ≤ _; omega
    rw [if_neg c0] at h ⊢
    by_cases c1 : c.toNat = 1
    · rw [if_pos c1] at h ⊢
      cases l with
      | nil => simp [tk1] at h
      | cons d l =>
        by_cases hd : 1 < d.toNat
        · simp [tk1, hd] at h
        · simp [tk1, hd]
    rw [if_neg c1] at h ⊢
    by_cases c2 : c.toNat = 2
    · rw [if_pos c2] at h ⊢
      by_cases e : (tv l).2.2 = 0
      · rw [if_pos e]
        have := (tv_ok e).1
        show 1 + (tv l).2.1 ≤ _
        omega
      · rw [if_neg e] at h; exact absurd h e
    rw [if_neg c2] at h ⊢
    by_cases c3 : c.toNat = 3
    · rw [if_pos c3] at h ⊢
      by_cases e : (ttL l).2.2 = 0
      · rw [if_pos e] at h ⊢
        by_cases h64 : 64 < (ttL l).1.length
        · rw [if_pos h64] at h; simp at h
        · rw [if_neg h64]
          have := tt_ok e
          show 1 + (ttL l).2.1 ≤ _
          omega
      · rw [if_neg e] at h; exact absurd h e
    rw [if_neg c3] at h; simp at h
theorem tk_le {n : Nat} (l : List UInt8) (hl : l.length ≤ 100000000) (hn : l.length + 30 ≤ n) : C n 36 [.val (.sl (gB l))] = some (tkg (tkL l)) ∧ C n 38 [.val (.sl (gB l))] = some (tkg (tkL l)) := by
  obtain ⟨m, rfl⟩ : ∃ m, n = m + 2 := ⟨n - 2, by omega⟩
  have hlen : ((G.sl (gB l)).toList.length : Int) = l.length := by show ((gB l).length : Int) = _; rw [gB_len]
  cases l with
  | nil =>
    rw [f36_eq, f38_eq, hlen]
    exact ⟨grd_t (decide_eq_true rfl) rfl, grd_t (decide_eq_true rfl) rfl⟩
  | cons c l =>
    have hJ : C (m + 2) 38 [.val (.sl (gB (c :: l)))] = J38_0 (m + 1) (.sl (gB (c :: l))) (G.sl (gB (c :: l))).toList ((c.toNat : Nat) : Int) (decide (((c.toNat : Nat) : Int) = 0) || decide (((c.toNat : Nat) : Int) = 1)) (.tu [.int .i64 0, .int .i64 0, .str []]) := by
      rw [f38_eq, hlen]
      refine grd_f (decide_eq_false (by rw [List.length_cons]; omega)) (grd_t (decide_eq_true (by rw [List.length_cons]; omega)) ?_)
      show cnd (decide (((c.toNat : Nat) : Int) = 0)) (J38_0 (m + 1) (.sl (gB (c :: l))) (G.sl (gB (c :: l))).toList ((c.toNat : Nat) : Int) true (.tu [.int .i64 0, .int .i64 0, .str []])) (J38_0 (m + 1) (.sl (gB (c :: l))) (G.sl (gB (c :: l))).toList ((c.toNat : Nat) : Int) (decide (((c.toNat : Nat) : Int) = 1)) (.tu [.int .i64 0, .int .i64 0, .str []])) = _
      cases decide (((c.toNat : Nat) : Int) = 0) <;> rfl
    rw [f36_eq, hJ, J38_0_eq, hlen]
    have hl' : l.length + 1 ≤ 100000000 := by simpa using hl
    have hn' : l.length + 1 + 30 ≤ m + 2 := by simpa using hn
    have hLn : ((c :: l).length : Int) = (l.length : Int) + 1 := by simp
    have hc := lt_byte c
    have hg : ((G.sl (gB (c :: l))).toList.getD 0 default).toInt = (c.toNat : Int) := rfl
    have hgw : IntKind.wrap .i64 ((G.sl (gB (c :: l))).toList.getD 0 default).toInt = (c.toNat : Int) := by rw [hg, wr (by omega) (by omega)]
    have hdr : ((G.sl (gB (c :: l))).toList.take ((c :: l).length : Int).toNat).drop 1 = gB l := by
      show ((gB (c :: l)).take ((c :: l).length : Int).toNat).drop 1 = gB l
      rw [show ((c :: l).length : Int).toNat = (gB (c :: l)).length by rw [gB_len]; omega, List.take_length]
      rfl
    rw [hgw, hdr, hLn]
    have a0 : decide ((l.length : Int) + 1 = 0) = false := decide_eq_false (by omega)
    have a1 : decide ((0 : Int) < (l.length : Int) + 1) = true := decide_eq_true (by omega)
    have a2 : (decide ((1 : Int) ≤ (l.length : Int) + 1) && decide ((l.length : Int) + 1 ≤ (l.length : Int) + 1)) = true := by
      rw [decide_eq_true (by omega), decide_eq_true (by omega)]; rfl
    rw [tkL]
    by_cases c0 : c.toNat = 0
    · rw [if_pos c0]
      have d0 : decide ((c.toNat : Int) = 0) = true := decide_eq_true (by omega)
      refine ⟨grd_f a0 (grd_t a1 (grd_t d0 rfl)), grd_t (by rw [d0]; rfl) ?_⟩
      refine bind_of (r := tkg (.z, 1, 0)) ?_ rfl
      first | (show C (m + 1) 56 [.val (.sl (gB (c :: l)))] = _) | (show C (m + 1) 56 [.val (.sl (gB [c]))] = _) | (show C (m + 1) 56 [.val (.sl (gB (c :: d :: l)))] = _)
      rw [f56_eq, hlen, hg, hLn]
      exact grd_f a0 (grd_t a1 (grd_t d0 rfl))
    rw [if_neg c0]
    have d0 : decide ((c.toNat : Int) = 0) = false := decide_eq_false (by omega)
    by_cases c1 : c.toNat = 1
    · rw [if_pos c1]
      have d1 : decide ((c.toNat : Int) = 1) = true := decide_eq_true (by omega)
      cases l with
      | nil =>
        refine ⟨grd_f a0 (grd_t a1 (grd_f d0 (grd_t d1 ?_))), grd_t (by rw [d1]; simp) ?_⟩
        · refine bind_of (r := tkg (.z, 0, 2)) ?_ rfl
          first | (show C (m + 1) 53 [.val (.sl (gB (c :: l)))] = _) | (show C (m + 1) 53 [.val (.sl (gB [c]))] = _) | (show C (m + 1) 53 [.val (.sl (gB (c :: d :: l)))] = _)
          rw [f53_eq, hlen]
          exact grd_t (decide_eq_true (by simp)) rfl
        · refine bind_of (r := tkg (.z, 0, 2)) ?_ rfl
          first | (show C (m + 1) 56 [.val (.sl (gB (c :: l)))] = _) | (show C (m + 1) 56 [.val (.sl (gB [c]))] = _) | (show C (m + 1) 56 [.val (.sl (gB (c :: d :: l)))] = _)
          rw [f56_eq, hlen, hg]
          exact grd_f (decide_eq_false (by simp)) (grd_t (decide_eq_true (by simp)) (grd_f d0 (grd_t d1 (grd_t (decide_eq_true (by simp)) rfl))))
      | cons d l =>
        have hd := lt_byte d
        have hg1 : ((G.sl (gB (c :: d :: l))).toList.getD 1 default).toInt = (d.toNat : Int) := rfl
        have hL2 : ((c :: d :: l).length : Int) = (l.length : Int) + 2 := by simp; omega
        have b0 : decide ((l.length : Int) + 2 < 2) = false := decide_eq_false (by omega)
        have b1 : decide ((1 : Int) < (l.length : Int) + 2) = true := decide_eq_true (by omega)
        have b2 : decide ((l.length : Int) + 2 = 0) = false := decide_eq_false (by omega)
        have b3 : decide ((0 : Int) < (l.length : Int) + 2) = true := decide_eq_true (by omega)
        have hw : IntKind.wrap .i64 (d.toNat : Int) = (d.toNat : Int) := wr (by omega) (by omega)
        by_cases h1 : 1 < d.toNat
        · have e1 : decide ((1 : Int) < (d.toNat : Int)) = true := decide_eq_true (by omega)
          refine ⟨grd_f a0 (grd_t a1 (grd_f d0 (grd_t d1 ?_))), grd_t (by rw [d1]; simp) ?_⟩
          · refine bind_of (r := tkg (.z, 0, 9)) ?_ (by rw [tk1, if_pos h1]; rfl)
            first | (show C (m + 1) 53 [.val (.sl (gB (c :: l)))] = _) | (show C (m + 1) 53 [.val (.sl (gB [c]))] = _) | (show C (m + 1) 53 [.val (.sl (gB (c :: d :: l)))] = _)
            rw [f53_eq, hlen, hg1, hL2]
            exact grd_f b0 (grd_t b1 (grd_t e1 rfl))
          · refine bind_of (r := tkg (.z, 0, 9)) ?_ (by rw [tk1, if_pos h1]; rfl)
            first | (show C (m + 1) 56 [.val (.sl (gB (c :: l)))] = _) | (show C (m + 1) 56 [.val (.sl (gB [c]))] = _) | (show C (m + 1) 56 [.val (.sl (gB (c :: d :: l)))] = _)
            rw [f56_eq, hlen, hg, hg1, hL2]
            exact grd_f b2 (grd_t b3 (grd_f d0 (grd_t d1 (grd_f b0 (grd_t b1 (grd_t e1 rfl))))))
        · have e1 : decide ((1 : Int) < (d.toNat : Int)) = false := decide_eq_false (by omega)
          refine ⟨grd_f a0 (grd_t a1 (grd_f d0 (grd_t d1 ?_))), grd_t (by rw [d1]; simp) ?_⟩
          · refine bind_of (r := tkg (⟨1, d.toNat, []⟩, 2, 0)) ?_ (by rw [tk1, if_neg h1]; rfl)
            first | (show C (m + 1) 53 [.val (.sl (gB (c :: l)))] = _) | (show C (m + 1) 53 [.val (.sl (gB [c]))] = _) | (show C (m + 1) 53 [.val (.sl (gB (c :: d :: l)))] = _)
            rw [f53_eq, hlen, hg1, hL2, hw]
            exact grd_f b0 (grd_t b1 (grd_f e1 (grd_t b1 rfl)))
          · refine bind_of (r := tkg (⟨1, d.toNat, []⟩, 2, 0)) ?_ (by rw [tk1, if_neg h1]; rfl)
            first | (show C (m + 1) 56 [.val (.sl (gB (c :: l)))] = _) | (show C (m + 1) 56 [.val (.sl (gB [c]))] = _) | (show C (m + 1) 56 [.val (.sl (gB (c :: d :: l)))] = _)
            rw [f56_eq, hlen, hg, hg1, hL2, hw]
            exact grd_f b2 (grd_t b3 (grd_f d0 (grd_t d1 (grd_f b0 (grd_t b1 (grd_f e1 (grd_t b1 rfl)))))))
    rw [if_neg c1]
    have d1 : decide ((c.toNat : Int) = 1) = false := decide_eq_false (by omega)
    by_cases c2 : c.toNat = 2
    · rw [if_pos c2]
      have d2 : decide ((c.toNat : Int) = 2) = true := decide_eq_true (by omega)
      obtain ⟨t1, t2⟩ := take_eq (n := m + 1) l (by omega) (by omega)
      have e2 : (G.fld (tvg (tv l)).1 2).toInt = ((tv l).2.2 : Int) := rfl
      by_cases e : (tv l).2.2 = 0
      · rw [if_pos e]
        obtain ⟨k1, k2, k3⟩ := tv_ok e
        have g0 : (!decide ((G.fld (tvg (tv l)).1 2).toInt = 0)) = false := by rw [e2, decide_eq_true (by omega)]; rfl
        have e1 : (G.fld (tvg (tv l)).1 1).toInt = ((tv l).2.1 : Int) := rfl
        refine ⟨grd_f a0 (grd_t a1 (grd_f d0 (grd_f d1 (grd_t d2 (grd_t a2 (bind_of t1 (grd_f g0 (bind_of (zag_le (by omega) k2) ?_)))))))), grd_f (by rw [d0, d1]; rfl) (grd_t d2 (grd_t a2 (bind_of t2 (grd_f g0 (bind_of (zagr_le (by omega) k2) ?_)))))⟩
        · have hw : IntKind.wrap .i64 (1 + ((tv l).2.1 : Int)) = ((1 + (tv l).2.1 : Nat) : Int) := by rw [wr (by omega) (by omega)]; omega
          rw [e1, hw]
          rfl
        · have hw : IntKind.wrap .i64 (((tv l).2.1 : Int) + 1) = ((1 + (tv l).2.1 : Nat) : Int) := by rw [wr (by omega) (by omega)]; omega
          rw [e1, hw]
          rfl
      · rw [if_neg e]
        have g0 : (!decide ((G.fld (tvg (tv l)).1 2).toInt = 0)) = true := by rw [e2, decide_eq_false (by omega)]; rfl
        exact ⟨grd_f a0 (grd_t a1 (grd_f d0 (grd_f d1 (grd_t d2 (grd_t a2 (bind_of t1 (grd_t g0 rfl))))))), grd_f (by rw [d0, d1]; rfl) (grd_t d2 (grd_t a2 (bind_of t2 (grd_t g0 rfl))))⟩
    rw [if_neg c2]
    have d2 : decide ((c.toNat : Int) = 2) = false := decide_eq_false (by omega)
    by_cases c3 : c.toNat = 3
    · rw [if_pos c3]
      have d3 : decide ((c.toNat : Int) = 3) = true := decide_eq_true (by omega)
      obtain ⟨t1, t2⟩ := tt_le (n := m + 1) l (by omega) (by omega)
      have e2 : (G.fld (ttg (ttL l)).1 2).toInt = ((ttL l).2.2 : Int) := rfl
      by_cases e : (ttL l).2.2 = 0
      · rw [if_pos e]
        have k1 := tt_ok e
        have g0 : (!decide ((G.fld (ttg (ttL l)).1 2).toInt = 0)) = false := by rw [e2, decide_eq_true (by omega)]; rfl
        have e1 : (G.fld (ttg (ttL l)).1 1).toInt = ((ttL l).2.1 : Int) := rfl
        have e3 : ((G.fld (ttg (ttL l)).1 0).toList.length : Int) = ((ttL l).1.length : Int) := by show ((gB (ttL l).1).length : Int) = _; rw [gB_len]
        have e4 : ((G.fld (ttg (ttL l)).1 0).toList.map fun g => UInt8.ofNat g.toInt.toNat) = (ttL l).1 := gB_back _
        by_cases h64 : 64 < (ttL l).1.length
        · rw [if_pos h64]
          have g1 : decide ((64 : Int) < ((G.fld (ttg (ttL l)).1 0).toList.length : Int)) = true := by rw [e3]; exact decide_eq_true (by omega)
          exact ⟨grd_f a0 (grd_t a1 (grd_f d0 (grd_f d1 (grd_f d2 (grd_t d3 (grd_t a2 (bind_of t1 (grd_f g0 (grd_t g1 rfl))))))))), grd_f (by rw [d0, d1]; rfl) (grd_f d2 (grd_t d3 (grd_t a2 (bind_of t2 (grd_f g0 (grd_t g1 rfl))))))⟩
        · rw [if_neg h64]
          have g1 : decide ((64 : Int) < ((G.fld (ttg (ttL l)).1 0).toList.length : Int)) = false := by rw [e3]; exact decide_eq_false (by omega)
          refine ⟨grd_f a0 (grd_t a1 (grd_f d0 (grd_f d1 (grd_f d2 (grd_t d3 (grd_t a2 (bind_of t1 (grd_f g0 (grd_f g1 ?_))))))))), grd_f (by rw [d0, d1]; rfl) (grd_f d2 (grd_t d3 (grd_t a2 (bind_of t2 (grd_f g0 (grd_f g1 ?_))))))⟩
          · have hw : IntKind.wrap .i64 (1 + ((ttL l).2.1 : Int)) = ((1 + (ttL l).2.1 : Nat) : Int) := by rw [wr (by omega) (by omega)]; omega
            rw [e1, e4, hw]
            rfl
          · have hw : IntKind.wrap .i64 (((ttL l).2.1 : Int) + 1) = ((1 + (ttL l).2.1 : Nat) : Int) := by rw [wr (by omega) (by omega)]; omega
            rw [e1, e4, hw]
            rfl
      · rw [if_neg e]
        have g0 : (!decide ((G.fld (ttg (ttL l)).1 2).toInt = 0)) = true := by rw [e2, decide_eq_false (by omega)]; rfl
        exact ⟨grd_f a0 (grd_t a1 (grd_f d0 (grd_f d1 (grd_f d2 (grd_t d3 (grd_t a2 (bind_of t1 (grd_t g0 rfl)))))))), grd_f (by rw [d0, d1]; rfl) (grd_f d2 (grd_t d3 (grd_t a2 (bind_of t2 (grd_t g0 rfl)))))⟩
    rw [if_neg c3]
    have d3 : decide ((c.toNat : Int) = 3) = false := decide_eq_false (by omega)
    exact ⟨grd_f a0 (grd_t a1 (grd_f d0 (grd_f d1 (grd_f d2 (grd_f d3 rfl))))), grd_f (by rw [d0, d1]; rfl) (grd_f d2 (grd_f d3 rfl))⟩
end Go.Proofs.Ytihipeicmbgegaa.Pure
