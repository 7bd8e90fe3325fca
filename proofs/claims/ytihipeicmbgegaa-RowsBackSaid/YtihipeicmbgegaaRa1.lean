/- Plain facts for the Rows functions: fuel, numbers, bytes. No conditions. -/
import Derived.Test.YtihipeicmbgegaaEqR1
import Derived.Test.YtihipeicmbgegaaEqR2
import Derived.Test.YtihipeicmbgegaaExR
namespace Go.Proofs.Ytihipeicmbgegaa.Pure
open Go Go.Proofs Go.Proofs.Ytihipeicmbgegaa.Rf
set_option linter.unusedVariables false
set_option linter.unusedSimpArgs false
/-! ## what holds from some number on -/
def Ev (p : Nat → Prop) : Prop := ∃ N, ∀ n, N ≤ n → p n
theorem Ev.and {p q : Nat → Prop} (h : Ev p) (g : Ev q) : Ev fun n => p n ∧ q n := by
  obtain ⟨a, ha⟩ := h
  obtain ⟨b, hb⟩ := g
  exact ⟨max a b, fun n hn => ⟨ha n (by omega), hb n (by omega)⟩⟩
theorem Ev.mono {p q : Nat → Prop} (h : Ev p) (g : ∀ n, p n → q n) : Ev q := by
  obtain ⟨a, ha⟩ := h
  exact ⟨a, fun n hn => g n (ha n hn)⟩
theorem Ev.ge (k : Nat) : Ev fun n => k ≤ n := ⟨k, fun _ h => h⟩
theorem Ev.of {p : Nat → Prop} (h : ∀ n, p n) : Ev p := ⟨0, fun n _ => h n⟩
theorem Ev.up {p : Nat → Prop} (h : Ev fun n => p (n + 1)) : Ev p := by
  obtain ⟨a, ha⟩ := h
  refine ⟨a + 1, fun n hn => ?_⟩
  obtain ⟨k, rfl⟩ : ∃ k, n = k + 1 := ⟨n - 1, by omega⟩
  exact ha k (by omega)
theorem Ev.ups {p : Nat → Prop} (k : Nat) (h : Ev fun n => p (n + k)) : Ev p := by
  obtain ⟨a, ha⟩ := h
  refine ⟨a + k, fun n hn => ?_⟩
  obtain ⟨j, rfl⟩ : ∃ j, n = j + k := ⟨n - k, by omega⟩
  exact ha j (by omega)
theorem Ev.all {α : Type} {p : α → Nat → Prop} : ∀ (l : List α), (∀ x ∈ l, Ev (p x)) → Ev fun n => ∀ x ∈ l, p x n
  | [], _ => ⟨0, fun n _ x hx => by cases hx⟩
  | y :: l, h => by
    obtain ⟨a, ha⟩ := h y (by simp)
    obtain ⟨b, hb⟩ := Ev.all l fun x hx => h x (List.mem_cons_of_mem _ hx)
    refine ⟨max a b, fun n hn x hx => ?_⟩
    rcases List.mem_cons.1 hx with rfl | hx
    · exact ha n (by omega)
    · exact hb n (by omega) x hx
theorem Ev.ex {p : Nat → Prop} (h : Ev p) : ∃ n, p n := by
  obtain ⟨a, ha⟩ := h
  exact ⟨a, ha a (Nat.le_refl _)⟩
theorem at_le {p : Nat → Prop} {k n : Nat} (hn : k ≤ n) (h : ∀ m, p (m + k)) : p n := by
  obtain ⟨m, rfl⟩ : ∃ m, n = m + k := ⟨n - k, by omega⟩
  exact h m
theorem bind_of {x : Option R} {r : R} {K : R → Option R} {y : Option R} (h : x = some r) (hk : K r = y) : x.bind K = y := by rw [h]; exact hk
theorem grd {b : Bool} {x y : Option R} (h : b = false → x = y) : cnd b y x = y := by cases b with
  | true => rfl
  | false => exact h rfl
theorem grd_f {b : Bool} {x y z : Option R} (hb : b = false) (h : x = z) : cnd b y x = z := by subst hb; exact h
theorem grd_t {b : Bool} {x y z : Option R} (hb : b = true) (h : y = z) : cnd b y x = z := by subst hb; exact h
/-! ## numbers -/
theorem wr {n : Int} (h0 : -9223372036854775808 ≤ n) (h1 : n ≤ 9223372036854775807) : IntKind.wrap .i64 n = n := by
  simp only [IntKind.wrap, IntKind.bits, IntKind.signed]
  simp
  omega
theorem wu {n : Int} (h0 : 0 ≤ n) (h1 : n < 18446744073709551616) : IntKind.wrap .u64 n = n := by
  simp only [IntKind.wrap, IntKind.bits, IntKind.signed]
  simp
  omega
theorem w8 (n : Int) : IntKind.wrap .u8 n = n % 256 := rfl
theorem maxLen_le : (maxLen : Int) ≤ 9223372036854775807 := by
  unfold maxLen; decide
def I64 (n : Int) : Prop := -9223372036854775808 ≤ n ∧ n ≤ 9223372036854775807
theorem i64_of {n : Int} (h : (Lit.int .i64 n).wf = true) : I64 n := by
  simp only [Lit.wf, Bool.and_eq_true, decide_eq_true_eq, show IntKind.min .i64 = -9223372036854775808 from rfl, show IntKind.max .i64 = 9223372036854775807 from rfl] at h
  exact h
/-! ## bytes -/
def gB (l : List UInt8) : List G := l.map fun b => G.int .u8 b.toNat
theorem gB_len (l : List UInt8) : (gB l).length = l.length := by simp [gB]
theorem gB_app (a b : List UInt8) : gB (a ++ b) = gB a ++ gB b := by simp [gB]
theorem gB_at {l : List UInt8} {i : Nat} (h : i < l.length) : (gB l).getD i default = .int .u8 (l[i].toNat) := by simp [gB, List.getD, h]
theorem gB_drop (l : List UInt8) (i : Nat) : (gB l).drop i = gB (l.drop i) := by simp [gB]
theorem gB_take (l : List UInt8) (i : Nat) : (gB l).take i = gB (l.take i) := by simp [gB]
theorem gB_back (l : List UInt8) : ((gB l).map fun g => UInt8.ofNat g.toInt.toNat) = l := by
  simp only [gB, List.map_map]
  have : ((fun g : G => UInt8.ofNat g.toInt.toNat) ∘ fun b : UInt8 => G.int .u8 b.toNat) = id := by
    funext b
    simp [G.toInt]
  rw [this, List.map_id]
def byte (n : Nat) : UInt8 := UInt8.ofNat n
theorem byte_nat (n : Nat) : (byte n).toNat = n % 256 := by simp [byte]
theorem gB_one (n : Int) (h : 0 ≤ n) : [G.int .u8 (IntKind.wrap .u8 n)] = gB [byte n.toNat] := by
  simp only [gB, List.map_cons, List.map_nil, byte_nat, w8]
  congr 2
  omega
theorem lt_byte (b : UInt8) : b.toNat < 256 := b.toNat_lt
/-! ## numbers in seven bits a byte -/
def varK : Nat → Nat → List UInt8
  | 0, v => [byte v]
  | f + 1, v => if v < 128 then [byte v] else byte (v % 128 + 128) :: varK f (v / 128)
def varB (v : Nat) : List UInt8 := varK 9 v
theorem varK_len : ∀ f v, (varK f v).length ≤ f + 1
  | 0, v => by simp [varK]
  | f + 1, v => by
    have := varK_len f (v / 128)
    simp only [varK]
    split
    · simp
    · simp; omega
theorem or_top (x : Int) (h : 0 ≤ x) : IntKind.wrap .u8 ((((BitVec.ofInt 8 (IntKind.wrap .u8 x)) ||| (BitVec.ofInt 8 128))).toNat : Int) = ((x.toNat % 128 + 128 : Nat) : Int) := by
  have key : ∀ k : Fin 256, (BitVec.ofInt 8 (k.val : Int) ||| BitVec.ofInt 8 128).toNat = k.val % 128 + 128 := by decide +kernel
  have e : IntKind.wrap .u8 x = ((x.toNat % 256 : Nat) : Int) := by rw [w8]; omega
  have := key ⟨x.toNat % 256, Nat.mod_lt _ (by decide)⟩
  rw [e, this, w8]
  have : x.toNat % 256 % 128 = x.toNat % 128 := by omega
  rw [this]
  omega
theorem fdiv128 {x : Int} : Int.fdiv x 128 = x / 128 := Int.fdiv_eq_ediv_of_nonneg x (by decide)
theorem var_loop (n : Nat) (a0 a1 : G) : ∀ (f m : Nat) (v : Nat) (b : List UInt8), v < 128 ^ (f + 1) → f < m → b.length + f + 2 ≤ 68719476736 → L39_0 n m a0 a1 v (gB b) = some (.sl (gB (b ++ varK f v)), []) ∧ (v < 18446744073709551616 → L41_0 n m a0 a1 v (gB b) = some (.sl (gB (b ++ varK f v)), []))
  | 0, m + 1, v, b, hv, _, hb => by
    have hlt : ¬ ((128 : Int) ≤ (v : Int)) := by simp at hv; omega
    have e : decide ((gB b).length + 1 ≤ 68719476736) = true := decide_eq_true (by rw [gB_len]; omega)
    have e2 : gB b ++ [G.int .u8 (IntKind.wrap .u8 (v : Int))] = gB (b ++ [byte v]) := by
      rw [gB_app, gB_one _ (by omega)]
      simp
    rw [L39_0_eq, L41_0_eq, decide_eq_false hlt, e]
    simp only [cnd, varK]
    rw [e2]
    exact ⟨rfl, fun _ => rfl⟩
  | f + 1, m + 1, v, b, hv, hm, hb => by
    have e : decide ((gB b).length + 1 ≤ 68719476736) = true := decide_eq_true (by rw [gB_len]; omega)
    rw [L39_0_eq, L41_0_eq, e]
    by_cases h : v < 128
    · have hlt : ¬ ((128 : Int) ≤ (v : Int)) := by omega
      have e2 : gB b ++ [G.int .u8 (IntKind.wrap .u8 (v : Int))] = gB (b ++ [byte v]) := by
        rw [gB_app, gB_one _ (by omega)]
        simp
      rw [decide_eq_false hlt]
      simp only [cnd, varK]
      rw [e2, if_pos h]
      exact ⟨rfl, fun _ => rfl⟩
    · have hle : (128 : Int) ≤ (v : Int) := by omega
      rw [decide_eq_true hle]
      simp only [cnd, varK]
      rw [if_neg h]
      have hbyte : G.int .u8 (IntKind.wrap .u8 ((((BitVec.ofInt 8 (IntKind.wrap .u8 (v : Int))) ||| (BitVec.ofInt 8 128))).toNat : Int)) = .int .u8 ((byte (v % 128 + 128)).toNat) := by
        rw [or_top _ (by omega), byte_nat]
        congr 1
        omega
      have hbyte2 : G.int .u8 (IntKind.wrap .u8 ((IntKind.wrap .u8 (Int.tmod (v : Int) 128)) + 128)) = .int .u8 ((byte (v % 128 + 128)).toNat) := by
        rw [byte_nat, w8, w8]
        have : Int.tmod (v : Int) 128 = ((v % 128 : Nat) : Int) := by
          rw [Int.tmod_eq_emod_of_nonneg (by omega)]
          omega
        rw [this]
        congr 1
        omega
      have e3 : gB b ++ [G.int .u8 ((byte (v % 128 + 128)).toNat)] = gB (b ++ [byte (v % 128 + 128)]) := by rw [gB_app]; rfl
      have hd : (v : Int) / 128 = ((v / 128 : Nat) : Int) := by omega
      have hv' : v / 128 < 128 ^ (f + 1) := by
        rw [Nat.pow_succ] at hv
        exact Nat.div_lt_of_lt_mul (by omega)
      have ih := var_loop n a0 a1 f m (v / 128) (b ++ [byte (v % 128 + 128)]) hv' (by omega) (by simp; omega)
      rw [hbyte, hbyte2, e3, fdiv128, hd]
      have e4 : b ++ [byte (v % 128 + 128)] ++ varK f (v / 128) = b ++ byte (v % 128 + 128) :: varK f (v / 128) := by simp
      rw [e4] at ih
      refine ⟨ih.1, fun hv64 => ?_⟩
      have hq : IntKind.wrap .u64 (Int.tdiv (v : Int) 128) = ((v / 128 : Nat) : Int) := by
        rw [Int.tdiv_eq_ediv_of_nonneg (by omega), hd, wu (by omega) (by omega)]
      rw [hq]
      exact ih.2 (by omega)
theorem room_le {n : Nat} (hn : 1 ≤ n) (b : List UInt8) (k : Int) (h0 : 0 ≤ k) (h1 : k ≤ 1000) (hb : b.length ≤ 1000000000) : C n 59 [.val (.sl (gB b)), .val (.int .i64 k)] = some (.sl (gB b), []) := at_le (p := fun n => C n 59 [.val (.sl (gB b)), .val (.int .i64 k)] = some (.sl (gB b), [])) hn fun m => by
  rw [f59_eq]
  have e1 : IntKind.wrap .i64 (((G.sl (gB b)).toList.length : Int) + (G.int .i64 k).toInt) = (b.length : Int) + k := by
    show IntKind.wrap .i64 (((gB b).length : Int) + k) = _
    rw [gB_len, wr (by omega) (by omega)]
  have e2 : decide (0 + (G.sl (gB b)).toList.length ≤ 68719476736) = true := decide_eq_true (by show 0 + (gB b).length ≤ _; rw [gB_len]; omega)
  rw [e1, e2, decide_eq_true (show (0 : Int) ≤ (b.length : Int) + k by omega), decide_eq_true (show (b.length : Int) + k ≤ 68719476736 by omega)]
  rfl
theorem var_eq {n : Nat} (hn : 12 ≤ n) (b : List UInt8) (v : Nat) (hv : v < 18446744073709551616) (hb : b.length ≤ 1000000000) : C n 39 [.val (.sl (gB b)), .val (.int .u64 v)] = some (.sl (gB (b ++ varB v)), []) := by
  obtain ⟨m, rfl⟩ : ∃ m, n = m + 1 := ⟨n - 1, by omega⟩
  rw [f39_eq]
  refine bind_of (room_le (by omega) b 10 (by omega) (by omega) hb) ?_
  exact (var_loop m _ _ 9 m v b (by omega) (by omega) (by omega)).1
theorem var_ref {n : Nat} (hn : 12 ≤ n) (b : List UInt8) (v : Nat) (hv : v < 18446744073709551616) (hb : b.length ≤ 1000000000) : C n 41 [.val (.sl (gB b)), .val (.int .u64 v)] = some (.sl (gB (b ++ varB v)), []) := by
  obtain ⟨m, rfl⟩ : ∃ m, n = m + 1 := ⟨n - 1, by omega⟩
  have e2 : decide (0 + (G.sl (gB b)).toList.length ≤ 68719476736) = true := decide_eq_true (by show 0 + (gB b).length ≤ _; rw [gB_len]; omega)
  rw [f41_eq, e2]
  exact (var_loop m _ _ 9 m v b (by omega) (by omega) (by omega)).2 hv
end Go.Proofs.Ytihipeicmbgegaa.Pure
