/- RowsBack: plain side. No conditions. -/
import Derived.Test.YtihipeicmbgegaaRa10
import Derived.Test.YtihipeicmbgegaaPureRowsReads
namespace Go.Proofs.Ytihipeicmbgegaa.Pure
open Go Go.Proofs Go.Proofs.Ytihipeicmbgegaa.Rf
set_option linter.unusedVariables false
set_option linter.unusedSimpArgs false
attribute [local irreducible] C J5_0 J5_1 J5_2 J5_3
def plc (t : Int) (row : List V) : Option Int := if t = 0 then (if (row.getD 0 V.z).n = 0 then some 0 else if (row.getD 0 V.z).n = 1 then some 1 else none) else some (t + 1)
def keyG (t : Int) (row : List V) : G := match plc t row with
  | some p => .tu [.int .i64 p, .str (byte (t + 1).toNat :: keyB (row.getD (kcol t) V.z)), .int .i64 0]
  | none => .tu [.int .i64 0, .str [], .int .i64 19]
theorem get_v (row : List V) (i : Nat) (h : i < row.length) : (row.map V.g).getD i default = (row.getD i V.z).g := by simp [List.getD, h]
theorem ok_get {row : List V} (ho : ∀ v ∈ row, v.ok) {i : Nat} (h : i < row.length) : (row.getD i V.z) ∈ row := by simp [List.getD, h]
theorem keyR_le {n : Nat} (hn : 500 ≤ n) {t : Int} (ht : 0 ≤ t ∧ t < 3) {row : List V} (ho : ∀ v ∈ row, v.ok) (hm : mayT (Tt t) row = 0) : C n 9 [.val Sc, .val (.int .i64 t), .val (.sl (row.map V.g))] = some (keyG t row, []) := by
  obtain ⟨m, rfl⟩ : ∃ m, n = m + 1 := ⟨n - 1, by omega⟩
  obtain ⟨f1, f2, f3, f4⟩ := may_facts ht hm
  obtain ⟨_, c2, _, _, c5, c6⟩ := tt_facts ht
  have hcn : colsN t ≤ 4 := by unfold colsN; split <;> (try split) <;> omega
  have hmay := mayT_le (n := m) (Tt t) row (by omega) (by omega)
  rw [hm] at hmay
  have hs3 : ((G.fld Sc 1).toList.length : Int) = 3 := rfl
  rw [f9_eq, hs3]
  show ((C m 26 [.val Sc, .val (.int .i64 t)]).bind fun r0 => cnd ((!r0.1.toBool)) (some ((G.tu [(G.int .i64 0), (.str []), (.int .i64 1)]), [])) (cnd ((decide (0 ≤ t) && decide (t < 3))) ((C m 15 [.val (Tt t), .val (.sl (row.map V.g))]).bind fun r1 => cnd ((!decide (r1.1.toInt = 0))) (some ((G.tu [(G.int .i64 0), (.str []), (.int .i64 r1.1.toInt)]), [])) (cnd (decide ((G.fld (Tt t) 3).toInt = 0)) (cnd (decide (0 < ((row.map V.g).length : Int))) ((C m 27 [.val Sc, .val (.int .i64 t), .val (.int .i64 (if (4 < (if ((-1) > (G.fld ((row.map V.g).getD 0 default) 1).toInt) then (-1) else (G.fld ((row.map V.g).getD 0 default) 1).toInt)) then 4 else (if ((-1) > (G.fld ((row.map V.g).getD 0 default) 1).toInt) then (-1) else (G.fld ((row.map V.g).getD 0 default) 1).toInt)))]).bind fun r2 => cnd ((!decide ((G.fld r2.1 1).toInt = 0))) (some ((G.tu [(G.int .i64 0), (.str []), (.int .i64 (G.fld r2.1 1).toInt)]), [])) (cnd ((decide (0 ≤ (G.fld (Tt t) 2).toInt) && decide ((G.fld (Tt t) 2).toInt < ((row.map V.g).length : Int)))) ((C m 13 [.val Sc, .val (.int .i64 t), .val ((row.map V.g).getD ((G.fld (Tt t) 2).toInt).toNat default)]).bind fun r3 => some ((G.tu [(G.int .i64 (G.fld r2.1 0).toInt), (.str r3.1.toStr), (.int .i64 0)]), [])) (none))) (none)) ((C m 27 [.val Sc, .val (.int .i64 t), .val (.int .i64 0)]).bind fun r4 => cnd ((!decide ((G.fld r4.1 1).toInt = 0))) (some ((G.tu [(G.int .i64 0), (.str []), (.int .i64 (G.fld r4.1 1).toInt)]), [])) (cnd ((decide (0 ≤ (G.fld (Tt t) 2).toInt) && decide ((G.fld (Tt t) 2).toInt < ((row.map V.g).length : Int)))) ((C m 13 [.val Sc, .val (.int .i64 t), .val ((row.map V.g).getD ((G.fld (Tt t) 2).toInt).toNat default)]).bind fun r5 => some ((G.tu [(G.int .i64 (G.fld r4.1 0).toInt), (.str r5.1.toStr), (.int .i64 0)]), [])) (none))))) (none))) = _
  have d1 : (decide (0 ≤ t) && decide (t < 3)) = true := by rw [decide_eq_true ht.1, decide_eq_true ht.2]; rfl
  have d2 : (decide ((0 : Int) ≤ (kcol t : Int)) && decide ((kcol t : Int) < ((row.map V.g).length : Int))) = true := by rw [List.length_map, decide_eq_true (by omega), decide_eq_true (by omega)]; rfl
  have hb := bound_le (n := m) (by omega) ht (ho _ (ok_get ho (show kcol t < row.length by omega)))
  have gk : (row.map V.g).getD ((kcol t : Int)).toNat default = (row.getD (kcol t) V.z).g := by rw [show ((kcol t : Int)).toNat = kcol t by omega]; exact get_v row _ (by omega)
  rw [c2, gk, get_v row 0 (by omega)]
  refine bind_of (has_le (by omega) ht) (grd_f rfl (grd_t d1 (bind_of hmay (grd_f rfl ?_))))
  by_cases h0 : t = 0
  · subst h0
    refine grd_t rfl (grd_t (decide_eq_true (by rw [List.length_map]; omega)) ?_)
    show ((C m 27 [.val Sc, .val (.int .i64 0), .val (.int .i64 (if (4 < (if ((-1) > (row.getD 0 V.z).n) then (-1) else (row.getD 0 V.z).n)) then 4 else (if ((-1) > (row.getD 0 V.z).n) then (-1) else (row.getD 0 V.z).n)))]).bind _) = _
    generalize hx : (row.getD 0 V.z).n = x
    generalize hr : (if (4 < (if ((-1) > x) then (-1) else x)) then 4 else (if ((-1) > x) then (-1) else x)) = r
    have hr1 : -1 ≤ r ∧ r ≤ 4 := by
      rw [← hr]; split <;> split <;> omega
    have hr2 : (r = 0 ↔ x = 0) ∧ (r = 1 ↔ x = 1) := by
      rw [← hr]; split <;> split <;> omega
    refine bind_of (rng0_le (by omega) hr1) ?_
    unfold keyG plc
    rw [if_pos rfl, hx]
    by_cases e0 : x = 0
    · have q0 : r = 0 := hr2.1.2 e0
      rw [if_pos e0]
      refine grd_f (by rw [q0]; rfl) (grd_t d2 (bind_of hb ?_))
      rw [q0]; rfl
    · rw [if_neg e0]
      by_cases e1 : x = 1
      · have q1 : r = 1 := hr2.2.2 e1
        rw [if_pos e1]
        refine grd_f (by rw [q1]; rfl) (grd_t d2 (bind_of hb ?_))
        rw [q1]; rfl
      · have q : ¬ (r = 0 ∨ r = 1) := by omega
        rw [if_neg e1]
        refine grd_t (by rw [if_neg q]; rfl) ?_
        rw [if_neg q]; rfl
  · have h12 : t = 1 ∨ t = 2 := by omega
    have hplc : plc t row = some (t + 1) := by rw [plc, if_neg h0]
    have hkey : keyG t row = .tu [.int .i64 (t + 1), .str (byte (t + 1).toNat :: keyB (row.getD (kcol t) V.z)), .int .i64 0] := by rw [keyG, hplc]
    rw [hkey]
    have hrng : C m 27 [.val Sc, .val (.int .i64 t), .val (.int .i64 0)] = some (.tu [.int .i64 (t + 1), .int .i64 0], []) := by
      rcases h12 with rfl | rfl
      · exact at_le (p := fun n => C n 27 [.val Sc, .val (.int .i64 1), .val (.int .i64 0)] = some (.tu [.int .i64 2, .int .i64 0], [])) (k := 40) (by omega) rng1
      · exact at_le (p := fun n => C n 27 [.val Sc, .val (.int .i64 2), .val (.int .i64 0)] = some (.tu [.int .i64 3, .int .i64 0], [])) (k := 40) (by omega) rng2
    refine grd_f (by rcases h12 with rfl | rfl <;> rfl) (bind_of hrng (grd_f rfl (grd_t d2 (bind_of hb rfl))))
/-! ## the law -/
theorem back_true {n : Nat} (hn : 5000 ≤ n) {z : Int} {a b : List V} (oa : ∀ v ∈ a, v.ok) (ob : ∀ v ∈ b, v.ok) (h6 : C n 6 [] = some (.bool true, [])) : C (n + 1) 5 [.val (.int .i64 z), .val (.sl (a.map V.g)), .val (.sl (b.map V.g))] = some (.bool true, []) := by
  have hs3 : ((G.fld Sc 1).toList.length : Int) = 3 := rfl
  rw [f5_eq]
  refine bind_of h6 (grd_f rfl (bind_of (sc_le (by omega)) ?_))
  generalize ht0 : Int.tmod (IntKind.wrap .i64 ((Int.tmod (G.int .i64 z).toInt 3) + 3)) 3 = t
  have ht : 0 ≤ t ∧ t < 3 := by
    have b1 : -3 < Int.tmod z 3 := Int.lt_tmod_of_pos z (by decide)
    have b2 : Int.tmod z 3 < 3 := Int.tmod_lt_of_pos z (by decide)
    rw [show (G.int .i64 z).toInt = z from rfl, wr (by omega) (by omega), Int.tmod_eq_emod_of_nonneg (by omega)] at ht0
    omega
  show cnd (decide (0 ≤ t) && decide (t < ((G.fld Sc 1).toList.length : Int))) _ _ = _
  rw [hs3]
  refine grd_t (by rw [decide_eq_true ht.1, decide_eq_true ht.2]; rfl) ?_
  obtain ⟨la, hla, hla2⟩ := light_le (n := n) a (by omega)
  obtain ⟨lb, hlb, hlb2⟩ := light_le (n := n) b (by omega)
  refine bind_of (show C n 8 [.val (.sl (G.sl (a.map V.g)).toList)] = some (.bool la, []) from hla) ?_
  cases la with
  | false => exact grd_t rfl rfl
  | true =>
  refine grd_f rfl (bind_of (show C n 8 [.val (.sl (G.sl (b.map V.g)).toList)] = some (.bool lb, []) from hlb) ?_)
  cases lb with
  | false => exact grd_t rfl rfl
  | true =>
  have hra := hla2 rfl
  have hrb := hlb2 rfl
  refine grd_f rfl (bind_of (show C n 15 [.val (Tt t), .val (.sl (G.sl (a.map V.g)).toList)] = _ from mayT_le (Tt t) a (by omega) (by omega)) ?_)
  by_cases ma : mayT (Tt t) a = 0
  case neg => exact grd_t (by show (!decide (mayT (Tt t) a = 0)) = true; rw [decide_eq_false ma]; rfl) rfl
  refine grd_f (by show (!decide (mayT (Tt t) a = 0)) = false; rw [decide_eq_true ma]; rfl) (bind_of (show C n 15 [.val (Tt t), .val (.sl (G.sl (b.map V.g)).toList)] = _ from mayT_le (Tt t) b (by omega) (by omega)) ?_)
  by_cases mb : mayT (Tt t) b = 0
  case neg => exact grd_t (by show (!decide (mayT (Tt t) b = 0)) = true; rw [decide_eq_false mb]; rfl) rfl
  refine grd_f (by show (!decide (mayT (Tt t) b = 0)) = false; rw [decide_eq_true mb]; rfl) ?_
  show J5_0 n _ _ _ t (a.map V.g) (b.map V.g) Sc (Tt t) = _
  obtain ⟨fa1, fa2, fa3, fa4⟩ := may_facts ht ma
  obtain ⟨fb1, fb2, fb3, fb4⟩ := may_facts ht mb
  obtain ⟨_, c2, _, _, c5, c6⟩ := tt_facts ht
  have hcn : colsN t ≤ 4 := by unfold colsN; split <;> (try split) <;> omega
  have hback := rowS_back ht fa1 (fun v hv => ⟨oa v hv, fa2 v hv⟩)
  have hD : (dataB a).length ≤ 2000 := by
    have : ∀ q : List V, (q.flatMap plainB).length ≤ 100 * q.length := by
      intro q
      induction q with
      | nil => simp
      | cons v q ih =>
        have := plainB_len (v := v)
        rw [List.flatMap_cons, List.length_append, List.length_cons]
        omega
    have h1 := this a
    have h2 := varB_len a.length
    unfold dataB
    rw [List.length_append]
    omega
  have hrow := (row_le (n := n) t (dataB a) hD (by omega)).1
  rw [hback] at hrow
  rw [J5_0_eq]
  refine bind_of (keyR_le (by omega) ht oa ma) (bind_of (keyR_le (by omega) ht ob mb) (bind_of (data_le a oa (by omega) (by omega)).1 (bind_of hrow (grd_f rfl (bind_of (same_le (a.map V.g) (by rw [List.length_map]; omega) (by rw [List.length_map]; omega)) (grd_f rfl ?_))))))
  have hka : kcol t < a.length := by omega
  have hkb : kcol t < b.length := by omega
  generalize hva : a.getD (kcol t) V.z = va at *
  generalize hvb : b.getD (kcol t) V.z = vb at *
  have iva : va ∈ a := hva ▸ ok_get oa hka
  have ivb : vb ∈ b := hvb ▸ ok_get ob hkb
  show J5_1 n _ _ _ t (a.map V.g) (b.map V.g) (G.fld (keyG t a) 0).toInt (G.fld (keyG t a) 1).toStr (G.fld (keyG t a) 2).toInt (G.fld (keyG t b) 0).toInt (G.fld (keyG t b) 1).toStr (G.fld (keyG t b) 2).toInt Sc (Tt t) = _
  cases hpa : plc t a with
  | none =>
    have e : keyG t a = .tu [.int .i64 0, .str [], .int .i64 19] := by rw [keyG, hpa]
    rw [e, J5_1_eq]
    refine grd_t rfl ?_
    rw [J5_2_eq]
    exact grd_t rfl (grd_t rfl rfl)
  | some p =>
  have ea : keyG t a = .tu [.int .i64 p, .str (byte (t + 1).toNat :: keyB va), .int .i64 0] := by rw [keyG, hpa, hva]
  cases hpb : plc t b with
  | none =>
    have e : keyG t b = .tu [.int .i64 0, .str [], .int .i64 19] := by rw [keyG, hpb]
    rw [e, ea, J5_1_eq]
    refine grd_f rfl ?_
    rw [J5_2_eq]
    exact grd_t rfl (grd_f rfl rfl)
  | some q =>
  have eb : keyG t b = .tu [.int .i64 q, .str (byte (t + 1).toNat :: keyB vb), .int .i64 0] := by rw [keyG, hpb, hvb]
  rw [ea, eb, J5_1_eq]
  refine grd_f rfl ?_
  rw [J5_2_eq]
  refine grd_f rfl ?_
  show J5_3 n _ _ _ t (a.map V.g) (b.map V.g) p (byte (t + 1).toNat :: keyB va) q (byte (t + 1).toNat :: keyB vb) Sc (Tt t) = _
  have gka : (a.map V.g).getD ((kcol t : Int)).toNat default = va.g := by rw [show ((kcol t : Int)).toNat = kcol t by omega, ← hva]; exact get_v a _ hka
  have gkb : (b.map V.g).getD ((kcol t : Int)).toNat default = vb.g := by rw [show ((kcol t : Int)).toNat = kcol t by omega, ← hvb]; exact get_v b _ hkb
  have da : (decide ((0 : Int) ≤ (kcol t : Int)) && decide ((kcol t : Int) < ((a.map V.g).length : Int))) = true := by rw [List.length_map, decide_eq_true (by omega), decide_eq_true (by omega)]; rfl
  have db : (decide ((0 : Int) ≤ (kcol t : Int)) && decide ((kcol t : Int) < ((b.map V.g).length : Int))) = true := by rw [List.length_map, decide_eq_true (by omega), decide_eq_true (by omega)]; rfl
  have kk : va.k = vb.k := by rw [fa3, fb3]
  have k13 : va.k = 1 ∨ va.k = 2 ∨ va.k = 3 := by
    rw [fa3]; unfold kkind; split
    · omega
    · split <;> omega
  obtain ⟨o1, o2⟩ := key_ord (oa _ iva) (ob _ ivb) (fa2 _ iva) (fb2 _ ivb) kk k13
  rw [J5_3_eq, c2, gka, gkb]
  refine bind_of (all_le (by omega) ht) (grd_t da (grd_t db (bind_of (cmp_le (by omega) va vb) ?_)))
  refine grd_t (by
    show (!Op.bytesLess (byte (t + 1).toNat :: keyB va) [byte (t + 1).toNat]) = true
    rw [less_cons, less_nil]; rfl) (grd_t (less_lt (by rw [byte_nat, byte_nat]; omega) _ _) (grd_t da (bind_of (bound_le (by omega) ht (oa _ iva)) (grd_t (decide_eq_true rfl) ?_))))
  refine grd_t (by
    show (Op.bytesLess (byte (t + 1).toNat :: keyB va) (byte (t + 1).toNat :: keyB vb) == decide (cmpV va vb < 0)) = true
    rw [less_cons, o1]; exact beq_self_eq_true _) (grd_t (by
    show (decide (byte (t + 1).toNat :: keyB va = byte (t + 1).toNat :: keyB vb) == decide (cmpV va vb = 0)) = true
    rw [decide_eq_decide.2 (show (byte (t + 1).toNat :: keyB va = byte (t + 1).toNat :: keyB vb) ↔ cmpV va vb = 0 by rw [← o2]; simp)]
    exact beq_self_eq_true _) ?_)
  by_cases h0 : t = 0
  case neg => exact grd_t (by rw [decide_eq_false h0]; rfl) rfl
  refine grd_f (by rw [decide_eq_true h0]; rfl) (grd_t (decide_eq_true (by rw [List.length_map]; omega)) (grd_t (decide_eq_true (by rw [List.length_map]; omega)) ?_))
  have ia : a.getD 0 V.z ∈ a := ok_get oa (by omega)
  have ib : b.getD 0 V.z ∈ b := ok_get ob (by omega)
  rw [get_v a 0 (by omega), get_v b 0 (by omega)]
  rw [plc, if_pos h0] at hpa hpb
  have ka0 := fa4 h0
  have kb0 := fb4 h0
  have sa0 := fa2 _ ia
  have sb0 := fb2 _ ib
  generalize a.getD 0 V.z = x at *
  generalize b.getD 0 V.z = y at *
  simp [may, ka0] at sa0
  simp [may, kb0] at sb0
  have np : p = x.n ∧ (x.n = 0 ∨ x.n = 1) := by
    split at hpa
    · cases hpa; omega
    · split at hpa
      · cases hpa; omega
      · cases hpa
  have nq : q = y.n ∧ (y.n = 0 ∨ y.n = 1) := by
    split at hpb
    · cases hpb; omega
    · split at hpb
      · cases hpb; omega
      · cases hpb
  show some (G.bool (decide (p = q) == (decide (x.k = y.k) && (decide (x.n = y.n) && decide (x.s = y.s)))), ([] : List G)) = _
  rw [ka0, kb0, sa0, sb0, np.1, nq.1]
  by_cases e : x.n = y.n <;> simp [e]
theorem RowsBack (xs : List G) (h : WGs tab Try.f5.params.toList xs) : ∃ n, C n 5 (xs.map A.val) = some (.bool true, []) := by
  rw [show Try.f5.params.toList = [3, 26, 26] by kernel_rfl] at h
  match xs, h with
  | [t, r, d], ⟨wt, wr, wd, _⟩ =>
    obtain ⟨a, oa, _, rfl⟩ := vs_of (show ty tab 26 = .sl 28 from rfl) wr
    obtain ⟨b, ob, _, rfl⟩ := vs_of (show ty tab 26 = .sl 28 from rfl) wd
    have e0 : ty tab 3 = .int .i64 := rfl
    obtain ⟨t, rfl⟩ : ∃ x : Int, t = .int .i64 x := by
      cases wt with
      | int h1 h2 => rw [e0] at h1; cases h1; exact ⟨_, rfl⟩
      | bool a => rw [e0] at a; cases a
      | str a _ => rw [e0] at a; cases a
      | tu a _ _ => rw [e0] at a; cases a
      | arr a _ _ => rw [e0] at a; cases a
      | sl a _ _ => rw [e0] at a; cases a
    obtain ⟨n, h6, hn⟩ := (begun_ev.and (Ev.ge 5000)).ex
    exact ⟨n + 1, back_true hn oa ob h6⟩
end Go.Proofs.Ytihipeicmbgegaa.Pure
