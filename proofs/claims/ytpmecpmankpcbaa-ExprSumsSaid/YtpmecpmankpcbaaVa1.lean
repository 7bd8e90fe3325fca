/- Values and expressions as plain data; what the functions on values say of them. No conditions. -/
import Derived.Test.YtpmecpmankpcbaaPJa
namespace Go.Proofs.Ytpmecpmankpcbaa.Pure
open Go Go.Proofs Go.Proofs.Ytpmecpmankpcbaa.Rf
set_option linter.unusedVariables false
set_option linter.unusedSimpArgs false
/-! ## what holds from some number on -/
def Ev (p : Nat → Prop) : Prop := ∃ N, ∀ n, N ≤ n → p n
theorem Ev.and {p q : Nat → Prop} (h : Ev p) (g : Ev q) : Ev fun n => p n ∧ q n := by
  obtain ⟨a, ha⟩ := h
  obtain ⟨b, hb⟩ := g
  exact ⟨max a b, fun n hn => ⟨ha n (by omega), hb n (by omega)⟩⟩
theorem Ev.mono {p q : Nat → Prop} (h : Ev p) (g : ∀ n, p n → q n) : Ev q := by
  obtain ⟨a, ha⟩ := h
  exact ⟨a, fun n hn => g n (ha n hn)⟩
theorem Ev.ge (k : Nat) : Ev fun n => k ≤ n := ⟨k, fun _ h => h⟩
theorem Ev.of {p : Nat → Prop} (h : ∀ n, p n) : Ev p := ⟨0, fun n _ => h n⟩
theorem Ev.up {p : Nat → Prop} (h : Ev fun n => p (n + 1)) : Ev p := by
  obtain ⟨a, ha⟩ := h
  refine ⟨a + 1, fun n hn => ?_⟩
  obtain ⟨k, rfl⟩ : ∃ k, n = k + 1 := ⟨n - 1, by omega⟩
  exact ha k (by omega)
theorem Ev.ups {p : Nat → Prop} (k : Nat) (h : Ev fun n => p (n + k)) : Ev p := by
  obtain ⟨a, ha⟩ := h
  refine ⟨a + k, fun n hn => ?_⟩
  obtain ⟨j, rfl⟩ : ∃ j, n = j + k := ⟨n - k, by omega⟩
  exact ha j (by omega)
theorem Ev.all {α : Type} {p : α → Nat → Prop} : ∀ (l : List α), (∀ x ∈ l, Ev (p x)) → Ev fun n => ∀ x ∈ l, p x n
  | [], _ => ⟨0, fun n _ x hx => by cases hx⟩
  | y :: l, h => by
    obtain ⟨a, ha⟩ := h y (by simp)
    obtain ⟨b, hb⟩ := Ev.all l fun x hx => h x (List.mem_cons_of_mem _ hx)
    refine ⟨max a b, fun n hn x hx => ?_⟩
    rcases List.mem_cons.1 hx with rfl | hx
    · exact ha n (by omega)
    · exact hb n (by omega) x hx
theorem Ev.ex {p : Nat → Prop} (h : Ev p) : ∃ n, p n := by
  obtain ⟨a, ha⟩ := h
  exact ⟨a, ha a (Nat.le_refl _)⟩
/-! ## values -/
structure V where
  k : Int
  n : Int
  s : List UInt8
  deriving DecidableEq
def V.z : V := ⟨0, 0, []⟩
def V.g (v : V) : G := .tu [.int .i64 v.k, .int .i64 v.n, .str v.s]
def tr (b : Bool) : V := ⟨1, if b then 1 else 0, []⟩
def vg (x : V × Int) : R := (.tu [x.1.g, .int .i64 x.2], [])
def ng (x : Int × Int) : R := (.tu [.int .i64 x.1, .int .i64 x.2], [])
def I64 (n : Int) : Prop := -9223372036854775808 ≤ n ∧ n ≤ 9223372036854775807
instance (n : Int) : Decidable (I64 n) := by unfold I64; exact inferInstance
def V.ok (v : V) : Prop := I64 v.k ∧ I64 v.n ∧ v.s.length ≤ maxLen
theorem i64_of {n : Int} (h : (Lit.int .i64 n).wf = true) : I64 n := by
  simp only [Lit.wf, Bool.and_eq_true, decide_eq_true_eq, show IntKind.min .i64 = -9223372036854775808 from rfl, show IntKind.max .i64 = 9223372036854775807 from rfl] at h
  exact h
def may (v : V) : Bool :=
  if v.k = 0 then decide (v.n = 0) && decide (v.s = []) else if v.k = 1 then (decide (v.n = 0) || decide (v.n = 1)) && decide (v.s = []) else if v.k = 2 then decide (v.s = []) else if v.k = 3 then decide (v.n = 0) && decide (v.s.length ≤ 64) else false
theorem may_eq (n : Nat) (v : V) : C (n + 1) 28 [.val v.g] = some (G.bool (may v), []) := by
  rw [f28_eq]
  show cnd (decide (v.k = 0)) (cnd (decide (v.n = 0)) (some (G.bool (decide (v.s = [])), [])) (some (G.bool false, []))) (cnd (decide (v.k = 1)) (cnd (decide (v.n = 0)) (some (G.bool (decide (v.s = [])), [])) (cnd (decide (v.n = 1)) (some (G.bool (decide (v.s = [])), [])) (some (G.bool false, [])))) (cnd (decide (v.k = 2)) (some (G.bool (decide (v.s = [])), [])) (cnd (decide (v.k = 3)) (cnd (decide (v.n = 0)) (some (G.bool (decide ((v.s.length : Int) ≤ 64)), [])) (some (G.bool false, []))) (some (G.bool false, []))))) = _
  unfold may
  have e64 : decide ((v.s.length : Int) ≤ 64) = decide (v.s.length ≤ 64) := decide_eq_decide.2 (by omega)
  rw [e64]
  by_cases h0 : v.k = 0
  · by_cases h1 : v.n = 0 <;> simp [h0, h1, cnd]
  · by_cases h1 : v.k = 1
    · by_cases h2 : v.n = 0
      · simp [h1, h2, cnd]
      · by_cases h3 : v.n = 1 <;> simp [h1, h2, h3, cnd]
    · by_cases h2 : v.k = 2
      · simp [h2, cnd]
      · by_cases h3 : v.k = 3
        · by_cases h4 : v.n = 0 <;> simp [h3, h4, cnd]
        · simp [h0, h1, h2, h3, cnd]
theorem may_ref (n : Nat) (v : V) : C (n + 1) 35 [.val v.g] = some (.bool (may v), []) := by rw [← may_same n n]; exact may_eq n v
theorem tr_eq (n : Nat) (b : Bool) : C (n + 1) 32 [.val (.bool b)] = some ((tr b).g, []) := by rw [f32_eq]; cases b <;> rfl
theorem tr_ref (n : Nat) (b : Bool) : C (n + 1) 39 [.val (.bool b)] = some ((tr b).g, []) := by rw [f39_eq]; cases b <;> rfl
theorem true_eq (n : Nat) (v : V) : C (n + 2) 17 [.val v.g] = some (.bool (decide (v = tr true)), []) := by
  rw [f17_eq, tr_eq]
  show some (G.bool (decide (v.k = 1) && (decide (v.n = 1) && decide (v.s = []))), ([] : List G)) = _
  congr 3
  obtain ⟨a, b, c⟩ := v
  by_cases h0 : a = 1 <;> by_cases h1 : b = 1 <;> by_cases h2 : c = [] <;> simp [h0, h1, h2, tr]
theorem true_ref (n : Nat) (v : V) : C (n + 1) 18 [.val v.g] = some (.bool (decide (v = tr true)), []) := by
  rw [f18_eq]
  show some (G.bool (decide (v.k = 1) && (decide (v.n = 1) && decide (v.s = []))), ([] : List G)) = _
  congr 3
  obtain ⟨a, b, c⟩ := v
  by_cases h0 : a = 1 <;> by_cases h1 : b = 1 <;> by_cases h2 : c = [] <;> simp [h0, h1, h2, tr]
theorem null_eq (n : Nat) (v : V) : C (n + 1) 51 [.val v.g] = some (.bool (decide (v.k = 0)), []) := by rw [f51_eq]; rfl
/-! ## numbers -/
def rng (x : Int) : Int × Int := if I64 x then (x, 0) else (0, 5)
theorem rng_ok {x : Int} (h : I64 x) : rng x = (x, 0) := if_pos h
theorem rng_no {x : Int} (h : ¬ I64 x) : rng x = (0, 5) := if_neg h
theorem wrI {n : Int} (h : I64 n) : IntKind.wrap .i64 n = n := wr h.1 h.2
def num (x : Int × Int) : V × Int := if x.2 = 0 then (⟨2, x.1, []⟩, 0) else (.z, x.2)
theorem num_eq (n : Nat) (x : Int × Int) : C (n + 1) 53 [.val (.int .i64 x.1), .val (.int .i64 x.2)] = some (vg (num x)) := by
  rw [f53_eq]
  show cnd (!decide (x.2 = 0)) (_ : Option R) _ = _
  unfold num
  by_cases h : x.2 = 0
  · rw [decide_eq_true h, if_pos h]; rfl
  · rw [decide_eq_false h, if_neg h]; rfl
theorem add_tree {a b : Int} (ha : I64 a) (hb : I64 b) : (cnd (decide (0 < a)) (cnd (decide ((IntKind.wrap .i64 (9223372036854775807 - a)) < b)) (some ((G.tu [(G.int .i64 0), (G.int .i64 5)]), [])) (cnd (decide (a < 0)) (cnd (decide (b < (IntKind.wrap .i64 ((-9223372036854775808) - a)))) (some ((G.tu [(G.int .i64 0), (G.int .i64 5)]), [])) (some ((G.tu [(G.int .i64 (IntKind.wrap .i64 (a + b))), (G.int .i64 0)]), []))) (some ((G.tu [(G.int .i64 (IntKind.wrap .i64 (a + b))), (G.int .i64 0)]), [])))) (cnd (decide (a < 0)) (cnd (decide (b < (IntKind.wrap .i64 ((-9223372036854775808) - a)))) (some ((G.tu [(G.int .i64 0), (G.int .i64 5)]), [])) (some ((G.tu [(G.int .i64 (IntKind.wrap .i64 (a + b))), (G.int .i64 0)]), []))) (some ((G.tu [(G.int .i64 (IntKind.wrap .i64 (a + b))), (G.int .i64 0)]), []))) : Option R) = some (ng (rng (a + b))) := by
  unfold I64 at ha hb
  by_cases h0 : 0 < a
  · rw [decide_eq_true h0, wr (show -9223372036854775808 ≤ 9223372036854775807 - a by omega) (by omega)]
    by_cases h1 : 9223372036854775807 - a < b
    · rw [decide_eq_true h1, rng_no (by unfold I64; omega)]; rfl
    · rw [decide_eq_false h1, decide_eq_false (show ¬ a < 0 by omega), rng_ok (by unfold I64; omega), wr (show -9223372036854775808 ≤ a + b by omega) (by omega)]; rfl
  · rw [decide_eq_false h0]
    by_cases h1 : a < 0
    · rw [decide_eq_true h1, wr (show -9223372036854775808 ≤ -9223372036854775808 - a by omega) (by omega)]
      by_cases h2 : b < -9223372036854775808 - a
      · rw [decide_eq_true h2, rng_no (by unfold I64; omega)]; rfl
      · rw [decide_eq_false h2, rng_ok (by unfold I64; omega), wr (show -9223372036854775808 ≤ a + b by omega) (by omega)]; rfl
    · rw [decide_eq_false h1, rng_ok (by unfold I64; omega), wr (show -9223372036854775808 ≤ a + b by omega) (by omega)]; rfl
theorem add_eq' (n : Nat) {a b : Int} (ha : I64 a) (hb : I64 b) : C (n + 1) 61 [.val (.int .i64 a), .val (.int .i64 b)] = some (ng (rng (a + b))) := by
  rw [f61_eq]
  have := add_tree hb ha
  rw [Int.add_comm b a] at this
  exact this
theorem add_ref (n : Nat) {a b : Int} (ha : I64 a) (hb : I64 b) : C (n + 1) 58 [.val (.int .i64 a), .val (.int .i64 b)] = some (ng (rng (a + b))) := by
  rw [f58_eq]
  exact add_tree ha hb
theorem ng_again (x : Int × Int) : (some ((.tu [(.int .i64 (G.fld (ng x).1 0).toInt), (.int .i64 (G.fld (ng x).1 1).toInt)]), []) : Option R) = some (ng x) := rfl
theorem minus_eq (n : Nat) {a b : Int} (ha : I64 a) (hb : I64 b) : C (n + 2) 54 [.val (.int .i64 a), .val (.int .i64 b)] = some (ng (rng (a - b))) := by
  rw [f54_eq]
  show cnd (!decide (b = -9223372036854775808)) ((C (n + 1) 61 [.val (.int .i64 a), .val (.int .i64 (IntKind.wrap .i64 (0 - b)))]).bind _) (cnd (decide (0 ≤ a)) _ (some (ng (IntKind.wrap .i64 (a - b), 0)))) = _
  unfold I64 at ha hb
  by_cases h : b = -9223372036854775808
  · rw [decide_eq_true h]
    subst h
    by_cases h1 : 0 ≤ a
    · rw [decide_eq_true h1, rng_no (by unfold I64; omega)]; rfl
    · rw [decide_eq_false h1, rng_ok (by unfold I64; omega), wr (show -9223372036854775808 ≤ a - -9223372036854775808 by omega) (by omega)]; rfl
  · rw [decide_eq_false h, wr (show -9223372036854775808 ≤ 0 - b by omega) (by omega), add_eq' n ha (by unfold I64; omega)]
    have : a + (0 - b) = a - b := by omega
    rw [this]
    rfl
end Go.Proofs.Ytpmecpmankpcbaa.Pure
