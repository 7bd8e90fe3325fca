/- Go functions of the program as plain functions, and that each call comes to them. Written by a program of this session (hprint.py) on the kit's print. No conditions. -/
import Derived.Test.YtpmecpmankpcbaaPKx0
import Derived.Test.YtpmecpmankpcbaaSq
namespace Go.Proofs.Ytpmecpmankpcbaa.PK
open Go.RowKit Go.Proofs.YtpmecpmankpcbaaW.PrintWords Go.Proofs.YtpmecpmankpcbaaW.PrintLast Go.Proofs.YtpmecpmankpcbaaW.PrintMore Go.Proofs.Ytpmecpmankpcbaa.Sq
set_option linter.unusedVariables false
set_option linter.unusedSimpArgs false

/-! ### schema_Col: function 33 -/
theorem wp_named {P : Program} {c : Code} {Q : Exit → Act → World → Prop} {a : Act} {w : World} (F : World → Prop) (hF : F w) (h : ∀ W, F W → Code.wp P c Q a W) : Code.wp P c Q a w := h w hF
/-- The place of a column, or -1. -/
def schema_Col.at (l : List S57) (s : ByteArray) : Int := match l.findIdx? (fun c => c.f0.toList == s.toList) with
 | some i => (i : Int)
 | none => -1
theorem schema_Col.at_miss {l : List S57} {s : ByteArray} (h : ∀ j, j < l.length → ((rd_T57 l (j : Int)).f0.toList == s.toList) = false) : schema_Col.at l s = -1 := by
 unfold schema_Col.at
 rw [List.findIdx?_eq_none_iff.2 (fun c hc => by
  obtain ⟨j, hj⟩ := List.getElem?_of_mem hc
  have hl := (List.getElem?_eq_some_iff.1 hj).1
  have := h j hl
  simpa [rd_T57, List.getD_eq_getElem?_getD, hj] using this)]
theorem schema_Col.at_hit {l : List S57} {s : ByteArray} {i : Nat} (hi : i < l.length) (h1 : ((rd_T57 l (i : Int)).f0.toList == s.toList) = true) (h : ∀ j, j < i → ((rd_T57 l (j : Int)).f0.toList == s.toList) = false) : schema_Col.at l s = i := by
 unfold schema_Col.at
 have e : l.findIdx? (fun c => c.f0.toList == s.toList) = some i := by
  rw [List.findIdx?_eq_some_iff_getElem]
  refine ⟨hi, ?_, fun j hj => ?_⟩
  ·simpa [rd_T57, List.getD_eq_getElem?_getD, List.getElem?_eq_getElem hi] using h1
  ·have := h j hj
   simpa [rd_T57, List.getD_eq_getElem?_getD, List.getElem?_eq_getElem (show j < l.length by omega)] using this
 rw [e]
def schema_Col.f (a0_0 : ByteArray) (l0_1 : List (S57)) (a0_2 : Int) (a0_3 : Int) (a0_4 : Int) (l0_5 : List Int) (l0_6 : List Int) (l0_7 : List Int) (a0_8 : Int) (a0_9 : Int) (a0_10 : Int) (a1 : ByteArray) : Option (Int) := some (schema_Col.at l0_1 a1)
/-- The closure: is a column's name the captured one? -/
theorem schema_Col.closure (s : ByteArray) (B : Nat) (x : S57) (w : World) (hc : w.cell? ⟨B, 0, none⟩ = some (.string s)) (hB : B < w.heap.size) :
  Calls Try.prog 46 #[.agg #[.string x.f0, .int .i64 x.f1, .bool x.f2], .pointer (some ⟨B, 0, none⟩)] w fun e w' => e = .returned (.bool (x.f0.toList == s.toList)) ∧ Below w.heap.size w w' := by
 have hne : B ≠ w.heap.size := by omega
 go_enter Try.func46, Try.ntmps46
 go_wp2
 all_goals (go_ret; exact ⟨by simp_all, (Below.refl _ w).alloc (Nat.le_refl _) _⟩)
set_option maxHeartbeats 2000000 in
set_option maxRecDepth 100000 in
theorem schema_Col.indexFunc (s : ByteArray) (B : Nat) (A : Option Addr) (c : Nat) (l : List S57) (w : World) (hr : Kd.C k57 w A l.length l) (hc : w.cell? ⟨B, 0, none⟩ = some (.string s)) (hB : B < w.heap.size) :
  Calls Try.prog 45 #[.slice A l.length c, .func (.func 46) #[] #[.pointer (some ⟨B, 0, none⟩)]] w fun e w' => e = .returned (.int .i64 (schema_Col.at l s)) ∧ Below w.heap.size w w' := by
 have hlen := hr.2.1
 have HR := aM hr
 clear hr
 have HC := aM hc
 clear hc
 go_enter Try.func45, Try.ntmps45
 go_wp2
 go_loopg [5, 8] l.length (fun gg _ s8 wr => ∃ kk : Nat, kk ≤ l.length ∧ l.length - kk ≤ gg ∧ s8 = .int .i64 kk ∧ Aside0 (Below w.heap.size w wr) ∧ Aside0 (∀ j, j < kk → ((rd_T57 l (j : Int)).f0.toList == s.toList) = false))
 case atStart => exact ⟨0, Nat.zero_le _, by omega, rfl, ⟨Below.refl _ w⟩, ⟨fun j hj => absurd hj (Nat.not_lt_zero _)⟩⟩
 case round =>
  obtain ⟨kk, hkk, hg, rfl, BW, HA⟩ := hrel
  by_cases hlt : kk < l.length
  ·have hltz : (kk : Int) < (l.length : Int) := by omega
   have hk0 : (0 : Int) ≤ (kk : Int) := by omega
   obtain ⟨ad, e0, hx0, hx1, hx2⟩ := at_T57 HR.out (kk : Int) hk0 hltz
   cases e0
   replace hx0 := pw_cell_below BW.out hx0
   replace hx1 := pw_cell_below BW.out hx1
   replace hx2 := pw_cell_below BW.out hx2
   simp only [Int.toNat_natCast] at hx0 hx1 hx2
   have hcall := schema_Col.closure s B (rd_T57 l (kk : Int)) wr (pw_cell_below BW.out HC.out) (Nat.lt_of_lt_of_le hB BW.out.size)
   have HN : Aside0 (∀ q, q = ((rd_T57 l (kk : Int)).f0.toList == s.toList) → ((rd_T57 l (kk : Int)).f0.toList == s.toList) = q) := ⟨fun q h => h.symm⟩
   generalize hq : ((rd_T57 l (kk : Int)).f0.toList == s.toList) = q at hcall
   have HQ := aM hq
   clear hq HN
   cases q with
   | true =>
    go_wp2_with (go_at_call 46; refine hcall.mono ?_; rintro e w' ⟨rfl, hb'⟩)
    go_ret
    refine ⟨?_, below_step BW.out hb'⟩
    rw [schema_Col.at_hit hlt HQ.out HA.out]
    rfl
   | false =>
    go_wp2_with (go_at_call 46; refine hcall.mono ?_; rintro e w' ⟨rfl, hb'⟩)
    go_roundg (l.length - (kk + 1))
    case measure => omega
    case rel =>
     refine ⟨kk + 1, by omega, by omega, by go_num, ⟨below_step BW.out hb'⟩, ⟨fun j hj => ?_⟩⟩
     by_cases e : j = kk
     ·subst e
      exact HQ.out
     ·exact HA.out j (by omega)
  ·have hltz : ¬ (kk : Int) < (l.length : Int) := by omega
   have ek : kk = l.length := by omega
   subst ek
   go_wp2
   go_ret
   refine ⟨?_, BW.out⟩
   rw [schema_Col.at_miss HA.out]
   rfl
set_option maxHeartbeats 2000000 in
set_option maxRecDepth 100000 in
theorem schema_Col.calls (a0_0 : ByteArray) (A0_1 : Option Addr) (c0_1 : Nat) (l0_1 : List (S57)) (a0_2 : Int) (a0_3 : Int) (a0_4 : Int) (A0_5 : Option Addr) (c0_5 : Nat) (l0_5 : List Int) (A0_6 : Option Addr) (c0_6 : Nat) (l0_6 : List Int) (A0_7 : Option Addr) (c0_7 : Nat) (l0_7 : List Int) (a0_8 : Int) (a0_9 : Int) (a0_10 : Int) (a1 : ByteArray) (r : Int) (w : World) (hr0_1 : Kd.C k57 w A0_1 l0_1.length l0_1) (hc0_1 : l0_1.length ≤ c0_1) (hr0_5 : Kd.C (Kd.int .i64) w A0_5 l0_5.length l0_5) (hc0_5 : l0_5.length ≤ c0_5) (hr0_6 : Kd.C (Kd.int .i64) w A0_6 l0_6.length l0_6) (hc0_6 : l0_6.length ≤ c0_6) (hr0_7 : Kd.C (Kd.int .i64) w A0_7 l0_7.length l0_7) (hc0_7 : l0_7.length ≤ c0_7) (h : schema_Col.f a0_0 l0_1 a0_2 a0_3 a0_4 l0_5 l0_6 l0_7 a0_8 a0_9 a0_10 a1 = some r) :
  Calls Try.prog 33 #[.agg #[.string a0_0, .slice A0_1 l0_1.length c0_1, .int .i64 a0_2, .int .i64 a0_3, .int .i64 a0_4, .slice A0_5 l0_5.length c0_5, .slice A0_6 l0_6.length c0_6, .slice A0_7 l0_7.length c0_7, .int .i64 a0_8, .int .i64 a0_9, .int .i64 a0_10], .string a1] w fun e w' => e = .returned (.int .i64 r) ∧ Below w.heap.size w w' := by
 obtain rfl := Option.some.inj h
 have hu := Try.underlying32
 have HR := aM hr0_1
 clear h hr0_1 hr0_5 hr0_6 hr0_7
 have hcon := schema_Col.indexFunc a1 (w.heap.size + 1) A0_1 c0_1 l0_1 ((w.alloc (.cells #[.string a0_0, .slice A0_1 l0_1.length c0_1, .int .i64 a0_2, .int .i64 a0_3, .int .i64 a0_4, .slice A0_5 l0_5.length c0_5, .slice A0_6 l0_6.length c0_6, .slice A0_7 l0_7.length c0_7, .int .i64 a0_8, .int .i64 a0_9, .int .i64 a0_10] 32)).alloc (.cells #[.string a1] 9)) (Kd.C_below HR.out (below_alloc (below_alloc (Below.refl _ _) _) _)) (by simp) (by simp)
 go_enter Try.func33, Try.ntmps33
 go_wp2_with (go_at_call 45; refine hcon.mono ?_; rintro e w' ⟨rfl, hb'⟩)
 go_ret
 exact ⟨rfl, below_step (below_alloc (below_alloc (Below.refl _ _) _) _) hb'⟩

end Go.Proofs.Ytpmecpmankpcbaa.PK
