/- A reading of Go's code over plain data: operations that come up in another order. No conditions. -/
import Derived.Test.YtihipeicmbgegaaRJc
import Derived.Orders
import Derived.LoopN
import Derived.Test.YtihipeicmbgegaaRJa
import Derived.WalkKit
import Derived.ProofKit
import Derived.OpenShut
import Derived.ShutString
import Derived.ChangeOld
import Derived.ChangeSlices
import Derived.Below
import Derived.SizedLaws
namespace Go.Proofs.Ytihipeicmbgegaa.Rf
open Go Go.RowKit
set_option linter.unusedVariables false
set_option linter.unusedSimpArgs false
/-- A state, as functions. -/
structure FS where
  tm : Nat → Option AV
  hp : Nat → Option Obj
def getF (tm : Nat → Option AV) : Operand → AV
  | .tmp t => (tm t).getD .undef
  | .const v => constAV v
  | .func f => .fn f []
  | .global _ => .undef
theorem getOp_eq (tm : List (Nat × AV)) : getOp tm = getF (look tm) := by funext x; cases x <;> rfl
def putF (tm : Nat → Option AV) : Option Nat → AV → Nat → Option AV
  | some d, v => updF tm d (some v)
  | none, _ => tm
theorem look_putD (tm : List (Nat × AV)) (d : Option Nat) (v : AV) : look (putD tm d v) = putF (look tm) d v := by
  cases d with
  | none => rfl
  | some d =>
    funext k
    simp only [putD, putF, look_put, updF]
    by_cases h : d = k
    · subst h; simp
    · rw [if_neg h, if_neg (fun e => h e.symm)]
def wantF (all : List Oper) (o : Oper) (tm : Nat → Option AV) : Option Bool :=
  match o.guard with
  | none => some true
  | some (j, want) => match (atL all j).bind (·.dst) with
    | none => none
    | some dj => match tm dj with
      | some (.bool b) => some (b == want)
      | some .no => some false
      | _ => none
def seenF (s : FS) (o : Oper) : List Nat := refsL (mp (getF s.tm) o.op.operands.toList)
/-- What an operation comes to in a state: a value and what it turns; or nothing, as its guard says no. -/
def Out (E : Env) (all : List Oper) (o : Oper) (s : FS) : Option (AV × Ws) → Prop
  | some (av, ws) => wantF all o s.tm = some true ∧ core E s.hp (getF s.tm) (numOf E o) o.type o.op (fun av ws => some (av, ws)) = some (av, ws) ∧ (∀ r ∈ refs av, r ∈ seenF s o ∨ r ∈ ws.map (·.1)) ∧ inFrame E o.dst = true
  | none => wantF all o s.tm = some false ∧ inFrame E o.dst = true
def stepF (o : Oper) (s : FS) : Option (AV × Ws) → FS
  | some (av, ws) => ⟨putF s.tm o.dst av, wrF ws s.hp⟩
  | none => ⟨putF s.tm o.dst .no, s.hp⟩
def ent (E : Env) (i : Nat) (o : Oper) (s : FS) : Option (AV × Ws) → Log
  | some (_, ws) => [(i, numOf E o :: seenF s o, ws.map (·.1))]
  | none => []
def Tr (E : Env) (all : List Oper) : List (Nat × Oper) → FS → FS → Log → Prop
  | [], s, s', log => s' = s ∧ log = []
  | (i, o) :: L, s, s', log => ∃ x, Out E all o s x ∧ ∃ log', log = ent E i o s x ++ log' ∧ Tr E all L (stepF o s x) s' log'
section
variable {E : Env} {all : List Oper}
theorem ent_id {i : Nat} {o : Oper} {s : FS} {x : Option (AV × Ws)} : ∀ e ∈ ent E i o s x, e.1 = i := by
  intro e he
  cases x with
  | none => cases he
  | some p => obtain rfl := List.mem_singleton.1 he; rfl
/-! ## bits -/
theorem tb_eq (m n : Nat) : tb m n = m.testBit n := by
  unfold tb
  show Nat.beq ((m >>> n) &&& 1) 1 = _
  rw [Nat.and_one_is_mod]
  have h1 : m.testBit n = decide ((m >>> n) % 2 = 1) := by rw [Nat.testBit_eq_decide_div_mod_eq, Nat.shiftRight_eq_div_pow]
  rw [h1]
  rcases Nat.mod_two_eq_zero_or_one (m >>> n) with h | h <;> rw [h] <;> rfl
theorem tb_lor (a b n : Nat) : tb (Nat.lor a b) n = (tb a n || tb b n) := by
  rw [tb_eq, tb_eq, tb_eq]
  exact Nat.testBit_or a b n
theorem tb_bit (d n : Nat) : tb (bit d) n = decide (d = n) := by
  rw [tb_eq]
  show (1 <<< d).testBit n = _
  rw [Nat.one_shiftLeft, Nat.testBit_two_pow]
theorem tb_zero (n : Nat) : tb 0 n = false := by rw [tb_eq]; simp
theorem foldl_bits : ∀ (xs : List Operand) (m n : Nat), tb (xs.foldl (fun m x => Nat.lor m (opndBit x)) m) n = true ↔ tb m n = true ∨ ∃ x ∈ xs, tb (opndBit x) n = true
  | [], m, n => by simp
  | x :: xs, m, n => by
    rw [List.foldl_cons, foldl_bits xs, tb_lor]
    simp only [Bool.or_eq_true, List.mem_cons]
    constructor
    · rintro ((h | h) | ⟨y, hy, h⟩)
      · exact .inl h
      · exact .inr ⟨x, .inl rfl, h⟩
      · exact .inr ⟨y, .inr hy, h⟩
    · rintro (h | ⟨y, rfl | hy, h⟩)
      · exact .inl (.inl h)
      · exact .inl (.inr h)
      · exact .inr ⟨y, hy, h⟩
theorem uses_tmp {o : Oper} {t : Nat} (h : Operand.tmp t ∈ o.op.operands.toList) : tb (usesOf o) t = true :=
  (foldl_bits _ _ _).2 (.inr ⟨_, h, by show tb (bit t) t = true; rw [tb_bit]; simp⟩)
/-! ## what an operation looks at -/
theorem Out.at {o : Oper} {s s' : FS} {i : Nat} {x : Option (AV × Ws)} (h : Out E all o s x) (ht : ∀ d, tb (Nat.lor (usesOf o) (guardBit all o)) d = true → s'.tm d = s.tm d) (hh : ∀ e ∈ ent E i o s x, ∀ r ∈ e.2.1, s'.hp r = s.hp r) : Out E all o s' x ∧ ent E i o s' x = ent E i o s x := by
  have hv : ∀ y ∈ o.op.operands.toList, getF s'.tm y = getF s.tm y := by
    intro y hy
    cases y with
    | tmp t => simp only [getF, ht t (by rw [tb_lor, uses_tmp hy]; rfl)]
    | _ => rfl
  have hseen : seenF s' o = seenF s o := by unfold seenF; rw [mp_local hv]
  have hw : wantF all o s'.tm = wantF all o s.tm := by
    unfold wantF
    split
    · rfl
    · rename_i j want hg
      split
      · rfl
      · rename_i dj hdj
        have : s'.tm dj = s.tm dj := ht dj (by
          rw [tb_lor]
          have : tb (guardBit all o) dj = true := by
            unfold guardBit
            rw [hg]
            simp only [hdj]
            rw [tb_bit]; simp
          rw [this]; simp)
        rw [this]
  cases x with
  | none => exact ⟨⟨hw.trans h.1, h.2⟩, rfl⟩
  | some p =>
    obtain ⟨av, ws⟩ := p
    obtain ⟨h1, h2, h3, h4⟩ := h
    have hh' := hh _ (List.mem_singleton.2 rfl)
    refine ⟨⟨hw.trans h1, ?_, ?_, h4⟩, ?_⟩
    · rw [← h2]
      refine core_local hv (fun r hr => hh' r ?_) (hh' _ ?_)
      · exact List.mem_cons_of_mem _ hr
      · exact List.mem_cons_self ..
    · rw [hseen]; exact h3
    · simp only [ent, hseen]
theorem wrF_congr : ∀ (ws : Ws) {H H' : Nat → Option Obj} {z : Nat}, H z = H' z → wrF ws H z = wrF ws H' z
  | [], _, _, _, h => h
  | (o, x) :: r, H, H', z, h => by
    simp only [wrF]
    refine wrF_congr r ?_
    simp only [updF]
    split
    · rfl
    · exact h
theorem wrF_out {ws : Ws} {H : Nat → Option Obj} {z : Nat} (h : z ∉ ws.map (·.1)) : wrF ws H z = H z :=
  wrF_other ws H z fun x hx => h (List.mem_map.2 ⟨_, hx, rfl⟩)
theorem wrF_comm {a b : Ws} {H : Nat → Option Obj} (h : ∀ z ∈ a.map (·.1), z ∉ b.map (·.1)) : wrF a (wrF b H) = wrF b (wrF a H) := by
  funext z
  by_cases hz : z ∈ a.map (·.1)
  · rw [wrF_out (h z hz)]
    exact wrF_congr a (wrF_out (h z hz))
  · rw [wrF_out hz]
    exact wrF_congr b (wrF_out hz).symm
def DP (x y : Nat × List Nat × List Nat) : Prop := (∀ z ∈ x.2.2, z ∉ y.2.1) ∧ (∀ z ∈ x.2.2, z ∉ y.2.2) ∧ (∀ z ∈ y.2.2, z ∉ x.2.1)
def SA (all : List Oper) (o p : Oper) : Prop := touches all o p.dst = false ∧ touches all p o.dst = false
theorem touches_not {o : Oper} {d : Nat} (h : touches all o (some d) = false) : tb (Nat.lor (usesOf o) (guardBit all o)) d = false ∧ o.dst ≠ some d := by
  simp only [touches, Bool.or_eq_false_iff] at h
  refine ⟨h.1, fun e => ?_⟩
  have := h.2
  rw [e] at this
  simp only at this
  rw [beqT] at this
  cases this
theorem putF_far {tm : Nat → Option AV} {dst : Option Nat} {v : AV} {d : Nat} (h : dst ≠ some d) : putF tm dst v d = tm d := by
  cases dst with
  | none => rfl
  | some k => simp only [putF, updF]; rw [if_neg (fun e => h (by rw [e]))]
theorem putF_comm {tm : Nat → Option AV} {a b : Option Nat} {x y : AV} (h : ∀ d, a = some d → b ≠ some d) : putF (putF tm a x) b y = putF (putF tm b y) a x := by
  funext k
  by_cases ha : a = some k
  · rw [putF_far (h k ha), ha]
    simp only [putF, updF, if_pos]
  · rw [putF_far (dst := a) ha]
    by_cases hb : b = some k
    · rw [hb]; simp only [putF, updF, if_pos]
    · rw [putF_far hb, putF_far hb, putF_far ha]
def valOf : Option (AV × Ws) → AV
  | some (av, _) => av
  | none => .no
def wsOf : Option (AV × Ws) → Ws
  | some (_, ws) => ws
  | none => []
theorem stepF_eq (o : Oper) (s : FS) (x : Option (AV × Ws)) : stepF o s x = ⟨putF s.tm o.dst (valOf x), wrF (wsOf x) s.hp⟩ := by
  cases x <;> rfl
theorem wsOf_ent {i : Nat} {o : Oper} {s : FS} {x : Option (AV × Ws)} {z : Nat} (h : z ∈ (wsOf x).map (·.1)) : ∃ e ∈ ent E i o s x, z ∈ e.2.2 := by
  cases x with
  | none => cases h
  | some p => exact ⟨_, List.mem_singleton.2 rfl, h⟩
/-- Two that have nothing to do with each other. -/
theorem Tr.swap {k i : Nat} {p o : Oper} {L : List (Nat × Oper)} {s s' : FS} {log : Log} (h : Tr E all ((k, p) :: (i, o) :: L) s s' log) (hs : SA all o p) (hd : ∀ x ∈ log, ∀ y ∈ log, x.1 = i → y.1 = k → DP x y) :
    ∃ log2, Tr E all ((i, o) :: (k, p) :: L) s s' log2 ∧ ∀ e, e ∈ log2 ↔ e ∈ log := by
  obtain ⟨xk, hk, log1, rfl, xi, hi, log2, rfl, hL⟩ := h
  have hD : ∀ a ∈ ent E i o (stepF p s xk) xi, ∀ b ∈ ent E k p s xk, DP a b := fun a ha b hb =>
    hd a (List.mem_append_right _ (List.mem_append_left _ ha)) b (List.mem_append_left _ hb) (ent_id a ha) (ent_id b hb)
  -- the later one, in the first state
  have h1 := hi.at (i := i) (s' := s) (fun d hd' => by
      rw [stepF_eq]
      refine (putF_far fun e => ?_).symm
      have := hs.1
      rw [e] at this
      rw [(touches_not this).1] at hd'
      cases hd') (fun e he r hr => by
      rw [stepF_eq]
      refine (wrF_out fun hz => ?_).symm
      obtain ⟨b, hb, hzb⟩ := wsOf_ent (E := E) (i := k) (o := p) (s := s) hz
      exact (hD e he b hb).2.2 r hzb hr)
  -- the other one, behind it
  have h2 := hk.at (i := k) (s' := stepF o s xi) (fun d hd' => by
      rw [stepF_eq]
      refine putF_far fun e => ?_
      have := hs.2
      rw [e] at this
      rw [(touches_not this).1] at hd'
      cases hd') (fun e he r hr => by
      rw [stepF_eq]
      refine wrF_out fun hz => ?_
      obtain ⟨a, ha, hza⟩ := wsOf_ent (E := E) (i := i) (o := o) (s := stepF p s xk) hz
      exact (hD a ha e he).1 r hza hr)
  have h3 : stepF p (stepF o s xi) xk = stepF o (stepF p s xk) xi := by
    simp only [stepF_eq]
    congr 1
    · exact putF_comm fun d e => by
        have := hs.2
        rw [e] at this
        exact (touches_not this).2
    · refine wrF_comm fun z hz hz' => ?_
      obtain ⟨b, hb, hzb⟩ := wsOf_ent (E := E) (i := k) (o := p) (s := s) hz
      obtain ⟨a, ha, hza⟩ := wsOf_ent (E := E) (i := i) (o := o) (s := stepF p s xk) hz'
      exact (hD a ha b hb).2.1 z hza hzb
  refine ⟨ent E i o s xi ++ (ent E k p (stepF o s xi) xk ++ log2), ⟨xi, h1.1, _, rfl, xk, h2.1, _, rfl, by rw [h3]; exact hL⟩, fun e => ?_⟩
  rw [h1.2, h2.2]
  simp only [List.mem_append]
  constructor
  · rintro (h | h | h)
    · exact .inr (.inl h)
    · exact .inl h
    · exact .inr (.inr h)
  · rintro (h | h | h)
    · exact .inr (.inl h)
    · exact .inl h
    · exact .inr (.inr h)
/-- One that has nothing to do with those ahead of it may come up first. -/
theorem Tr.bubble {i : Nat} {o : Oper} {post : List (Nat × Oper)} : ∀ (pre : List (Nat × Oper)) {s s' : FS} {log : Log}, Tr E all (pre ++ (i, o) :: post) s s' log → (∀ q ∈ pre, SA all o q.2) → (∀ x ∈ log, ∀ y ∈ log, x.1 = i → (∃ q ∈ pre, y.1 = q.1) → DP x y) →
    ∃ log2, Tr E all ((i, o) :: (pre ++ post)) s s' log2 ∧ ∀ e, e ∈ log2 ↔ e ∈ log
  | [], _, _, log, h, _, _ => ⟨log, h, fun _ => Iff.rfl⟩
  | (k, p) :: pre, s, s', log, h, hs, hd => by
    obtain ⟨xk, hk, log1, rfl, hL⟩ := h
    obtain ⟨log2, h2, h3⟩ := Tr.bubble pre hL (fun q hq => hs q (List.mem_cons_of_mem _ hq)) (fun x hx y hy e1 ⟨q, hq, e2⟩ => hd x (List.mem_append_right _ hx) y (List.mem_append_right _ hy) e1 ⟨q, List.mem_cons_of_mem _ hq, e2⟩)
    obtain ⟨log3, h4, h5⟩ := Tr.swap (k := k) (p := p) (log := ent E k p s xk ++ log2) ⟨xk, hk, log2, rfl, h2⟩ (hs (k, p) (by simp)) (fun x hx y hy e1 e2 => by
      have g : ∀ z, z ∈ ent E k p s xk ++ log2 → z ∈ ent E k p s xk ++ log1 := fun z hz => by
        simp only [List.mem_append, h3] at hz ⊢
        exact hz
      exact hd x (g x hx) y (g y hy) e1 ⟨(k, p), by simp, e2⟩)
    refine ⟨log3, h4, fun e => ?_⟩
    rw [h5]
    simp only [List.mem_append, h3]
end
end Go.Proofs.Ytihipeicmbgegaa.Rf

namespace Go.Proofs.Ytihipeicmbgegaa.Rf
open Go Go.RowKit
set_option linter.unusedVariables false
set_option linter.unusedSimpArgs false
section
variable {E : Env} {all : List Oper}
def numbered : Nat → List Oper → List (Nat × Oper)
  | _, [] => []
  | i, o :: r => (i, o) :: numbered (i + 1) r
def Desc (log : Log) : Prop := log.Pairwise fun x y => y.1 < x.1
theorem one_out {o : Oper} {s : St} {α : Type} {K : St → List Nat → Option α} {r : α} (hw : wantF all o (look s.tm) = some true) (hK : oneOp E o s K = some r) :
    ∃ av ws, Out E all o ⟨look s.tm, look s.hp⟩ (some (av, ws)) ∧ K { tm := putD s.tm o.dst av, hp := wrAll ws s.hp } (mp (·.1) ws) = some r := by
  unfold oneOp at hK
  obtain ⟨av, ws, h1, hK1⟩ := core_shape hK
  obtain ⟨hc, hK2⟩ := cnd_some hK1
  simp only [Bool.and_eq_true] at hc
  refine ⟨av, ws, ⟨hw, ?_, ?_, hc.2⟩, hK2⟩
  · rw [← getOp_eq]; exact h1 _
  · intro x hx
    have := (every_iff _ _).1 hc.1 x hx
    simp only [Bool.or_eq_true, has_iff] at this
    rw [mp_eq] at this
    unfold seenF
    rw [← getOp_eq]
    exact this
theorem seen_eq (s : St) (o : Oper) : seenBy s o = seenF ⟨look s.tm, look s.hp⟩ o := by
  unfold seenBy seenF
  rw [getOp_eq]
theorem ops_trace : ∀ (l : List Oper) (i : Nat) {s : St} {log : Log} {α : Type} {K : St → Log → Option α} {r : α}, ops E all i l log s K = some r → Desc log → (∀ x ∈ log, x.1 < i) →
    ∃ s' log' lg, K s' log' = some r ∧ Tr E all (numbered i l) ⟨look s.tm, look s.hp⟩ ⟨look s'.tm, look s'.hp⟩ lg ∧ (∀ e ∈ lg, e ∈ log') ∧ Desc log' ∧ ∀ e ∈ log, e ∈ log'
  | [], i, s, log, α, K, r, hK, hd, hi => ⟨s, log, [], hK, ⟨rfl, rfl⟩, fun _ h => (by cases h), hd, fun _ h => h⟩
  | o :: l, i, s, log, α, K, r, hK, hd, hi => by
    -- run it
    have run : wantF all o (look s.tm) = some true → oneOp E o s (fun s' ws => ops E all (i + 1) l ((i, numOf E o :: seenBy s o, ws) :: log) s' K) = some r →
        ∃ s' log' lg, K s' log' = some r ∧ Tr E all (numbered i (o :: l)) ⟨look s.tm, look s.hp⟩ ⟨look s'.tm, look s'.hp⟩ lg ∧ (∀ e ∈ lg, e ∈ log') ∧ Desc log' ∧ ∀ e ∈ log, e ∈ log' := by
      intro hw hK
      obtain ⟨av, ws, hout, hK1⟩ := one_out hw hK
      obtain ⟨s', log', lg, h1, h2, h4, h3, h5⟩ := ops_trace l (i + 1) hK1 (List.Pairwise.cons (fun y hy => hi y hy) hd) (fun x hx => by
        rcases List.mem_cons.1 hx with rfl | hx
        · exact Nat.lt_succ_self i
        · exact Nat.lt_succ_of_lt (hi x hx))
      refine ⟨s', log', ent E i o ⟨look s.tm, look s.hp⟩ (some (av, ws)) ++ lg, h1, ⟨_, hout, lg, rfl, ?_⟩, ?_, h3, fun e he => h5 e (List.mem_cons_of_mem _ he)⟩
      · rw [look_putD, look_wrAll] at h2
        exact h2
      · intro e he
        rcases List.mem_append.1 he with he | he
        · obtain rfl := List.mem_singleton.1 he
          refine h5 _ ?_
          rw [seen_eq, mp_eq]
          exact List.mem_cons_self ..
        · exact h4 e he
    have pass : wantF all o (look s.tm) = some false → inFrame E o.dst = true → ops E all (i + 1) l log { tm := putD s.tm o.dst .no, hp := s.hp } K = some r →
        ∃ s' log' lg, K s' log' = some r ∧ Tr E all (numbered i (o :: l)) ⟨look s.tm, look s.hp⟩ ⟨look s'.tm, look s'.hp⟩ lg ∧ (∀ e ∈ lg, e ∈ log') ∧ Desc log' ∧ ∀ e ∈ log, e ∈ log' := by
      intro hw hf hK
      obtain ⟨s', log', lg, h1, h2, h4, h3, h5⟩ := ops_trace l (i + 1) hK hd (fun x hx => Nat.lt_succ_of_lt (hi x hx))
      refine ⟨s', log', lg, h1, ⟨none, ⟨hw, hf⟩, lg, rfl, ?_⟩, h4, h3, h5⟩
      rw [look_putD] at h2
      exact h2
    simp only [ops] at hK
    cases hg : o.guard with
    | none =>
      simp only [hg] at hK
      exact run (by simp [wantF, hg]) hK
    | some jw =>
      obtain ⟨j, want⟩ := jw
      simp only [hg] at hK
      split at hK
      · cases hK
      · rename_i dj hdj
        split at hK
        · rename_i b hb
          have hw : wantF all o (look s.tm) = some (b == want) := by simp only [wantF, hg, hdj, hb]
          cases b with
          | true =>
            rw [said_same _ _ _ hb] at hK
            rw [cnd_true] at hK
            cases want with
            | true => exact run hw hK
            | false =>
              obtain ⟨hf, hK1⟩ := cnd_some hK
              exact pass hw hf hK1
          | false =>
            rw [said_same _ _ _ hb] at hK
            rw [cnd_false] at hK
            cases want with
            | false => exact run hw hK
            | true =>
              obtain ⟨hf, hK1⟩ := cnd_some hK
              exact pass hw hf hK1
        · rename_i hno
          obtain ⟨hf, hK1⟩ := cnd_some hK
          exact pass (by simp only [wantF, hg, hdj, hno]) hf hK1
        · cases hK
end
end Go.Proofs.Ytihipeicmbgegaa.Rf

namespace Go.Proofs.Ytihipeicmbgegaa.Rf
open Go Go.RowKit
set_option linter.unusedVariables false
set_option linter.unusedSimpArgs false
section
variable {E : Env} {all : List Oper}
theorem upto_eq : ∀ n, upto n = List.range n
  | 0 => rfl
  | n + 1 => by rw [upto, cat_eq, upto_eq n, List.range_succ]
theorem nth_mp {α β : Type} (d : β) (f : α → β) (l : List α) (i : Nat) : nth d (mp f l) i = ((l[i]?).map f).getD d := by
  rw [nth_eq, mp_eq]
  simp [List.getD]
theorem table_says {i k : Nat} (h : nth false (nth [] (table all) i) k = true) : tb (nth 0 (waits [] all) i) k = true := by
  unfold table at h
  rw [nth_mp] at h
  cases hi : (waits [] all)[i]? with
  | none => rw [hi] at h; simp [nth] at h
  | some m =>
    rw [hi] at h
    simp only [Option.map_some, Option.getD_some] at h
    rw [nth_mp, upto_eq] at h
    have e : nth 0 (waits [] all) i = m := by rw [nth_eq]; simp [hi]
    rw [e]
    cases hk : (List.range all.length)[k]? with
    | none => rw [hk] at h; simp at h
    | some k' =>
      rw [hk] at h
      have : k' = k := by
        obtain ⟨h1, h2⟩ := List.getElem?_eq_some_iff.1 hk
        simpa using h2.symm
      subst this
      simpa using h
/-- What an operation needs has come up. -/
def Served (all : List Oper) (f : Nat → Bool) (i : Nat) : Prop := ∀ o, all[i]? = some o → ∀ e ∈ o.after.toList, Region.binds .any e = true → f e.on = true
theorem waitsOf_says {f : Nat → Bool} {acc : List Nat} {k : Nat} : ∀ (es : List Edge), tb (waitsOf acc es) k = true → ∃ e ∈ es, Region.binds .any e = true ∧ (e.on = k ∨ tb (nth 0 acc e.on) k = true)
  | [], h => by
    simp only [waitsOf] at h
    rw [tb_zero] at h
    cases h
  | e :: r, h => by
    simp only [waitsOf] at h
    cases hb : Region.binds .any e with
    | true =>
      rw [hb, cnd_true, tb_lor, tb_lor, tb_bit] at h
      simp only [Bool.or_eq_true, decide_eq_true_eq] at h
      rcases h with h | h
      · exact ⟨e, by simp, hb, h⟩
      · obtain ⟨e', h1, h2⟩ := waitsOf_says (f := f) r h
        exact ⟨e', List.mem_cons_of_mem _ h1, h2⟩
    | false =>
      rw [hb, cnd_false] at h
      obtain ⟨e', h1, h2⟩ := waitsOf_says (f := f) r h
      exact ⟨e', List.mem_cons_of_mem _ h1, h2⟩
theorem waits_says {f : Nat → Bool} (hc : ∀ j, j < all.length → f j = true → Served all f j) : ∀ (l acc : List Oper) (ws : List Nat), acc ++ l = all → ws.length = acc.length → (∀ n, n < acc.length → Served all f n → ∀ k, tb (nth 0 ws n) k = true → f k = true) →
    ∀ n, Served all f n → ∀ k, tb (nth 0 (waits ws l) n) k = true → f k = true
  | [], acc, ws, ha, hl, h, n, hs, k, hk => by
    simp only [waits] at hk
    rcases Nat.lt_or_ge n acc.length with hn | hn
    · exact h n hn hs k hk
    · rw [nth_eq] at hk
      simp [List.getD, List.getElem?_eq_none (show ws.length ≤ n by omega), tb_zero] at hk
  | o :: l, acc, ws, ha, hl, h, n, hs, k, hk => by
    simp only [waits, cat_eq] at hk
    refine waits_says hc l (acc ++ [o]) (ws ++ [waitsOf ws o.after.toList]) (by simp [ha]) (by simp [hl]) (fun m hm hsm k' hk' => ?_) n hs k hk
    rw [nth_eq] at hk'
    rcases Nat.lt_or_ge m acc.length with h1 | h1
    · refine h m h1 hsm k' ?_
      rw [nth_eq]
      simp only [List.getD, List.getElem?_append_left (show m < ws.length by omega)] at hk' ⊢
      exact hk'
    · have hm' : m = acc.length := by simp at hm; omega
      subst hm'
      have hk2 : tb (waitsOf ws o.after.toList) k' = true := by
        have : (ws ++ [waitsOf ws o.after.toList]).getD acc.length 0 = waitsOf ws o.after.toList := by
          rw [← hl]; simp [List.getD]
        rwa [this] at hk'
      obtain ⟨e, he, hb, h2⟩ := waitsOf_says (f := f) _ hk2
      have ho : all[acc.length]? = some o := by rw [← ha]; simp
      have hfe := hsm o ho e he hb
      rcases h2 with h2 | h2
      · rw [← h2]; exact hfe
      · rcases Nat.lt_or_ge e.on acc.length with h3 | h3
        · exact h e.on h3 (hc e.on (by rw [← ha]; simp; omega) hfe) k' h2
        · rw [nth_eq] at h2
          simp [List.getD, List.getElem?_eq_none (show ws.length ≤ e.on by omega), tb_zero] at h2
/-- One that may come up does not wait for one that has not come up. -/
theorem waits_not {f : Nat → Bool} (hc : ∀ j, j < all.length → f j = true → Served all f j) {i k : Nat} (hi : Served all f i) (hk : f k = false) : nth false (nth [] (table all) i) k = false := by
  cases h : nth false (nth [] (table all) i) k with
  | false => rfl
  | true =>
    have := waits_says hc all [] [] rfl rfl (fun n hn => by simp at hn) i hi k (table_says h)
    rw [hk] at this
    cases this
theorem slotsWith_says {m : List Bool} {y : Oper} : ∀ (l : List Oper) (j : Nat), slotsOkWith all m y j l = true → ∀ n p, l[n]? = some p → nth false m (j + n) = false → SA all y p
  | [], _, _, _, _, h, _ => by simp at h
  | x :: r, j, h, n, p, hp, hm => by
    simp only [slotsOkWith, Bool.and_eq_true, Bool.or_eq_true, Bool.not_eq_true'] at h
    cases n with
    | zero =>
      obtain rfl : x = p := by simpa using hp
      rcases h.1 with h1 | h1
      · rw [Nat.add_zero, h1] at hm; cases hm
      · exact ⟨h1.2, h1.1⟩
    | succ n =>
      exact slotsWith_says r (j + 1) h.2 n p (by simpa using hp) (by rw [← hm]; congr 1; omega)
theorem slots_says {bf : List (List Bool)} : ∀ (l before : List Oper), before ++ l = all → slotsOk all bf before before.length l = true → ∀ i o k p, before.length ≤ i → all[i]? = some o → k < i → all[k]? = some p → nth false (nth [] bf i) k = false → SA all o p
  | [], before, ha, _, i, o, k, p, hi, ho, _, _, _ => by
    simp at ha
    rw [List.getElem?_eq_none (by rw [← ha]; exact hi)] at ho
    cases ho
  | y :: r, before, ha, h, i, o, k, p, hi, ho, hk, hp, hb => by
    simp only [slotsOk, Bool.and_eq_true, cat_eq] at h
    rcases Nat.lt_or_ge before.length i with h1 | h1
    · exact slots_says r (before ++ [y]) (by simp [ha]) (by simpa using h.2) i o k p (by simp; omega) ho hk hp hb
    · have e : i = before.length := by omega
      subst e
      have : y = o := by rw [← ha] at ho; simpa using ho
      subst this
      refine slotsWith_says before 0 h.1 k p ?_ (by rw [Nat.zero_add]; exact hb)
      rw [← ha, List.getElem?_append_left hk] at hp
      exact hp
theorem backs_says : ∀ (l : List Oper) (i : Nat), backs i l = true → ∀ n o, l[n]? = some o → ∀ e ∈ o.after.toList, Region.binds .any e = true → e.on < i + n
  | [], _, _, _, _, h, _, _, _ => by simp at h
  | x :: r, i, h, n, o, ho, e, he, hb => by
    simp only [backs, Bool.and_eq_true] at h
    cases n with
    | zero =>
      obtain rfl : x = o := by simpa using ho
      have := (every_iff _ _).1 h.1 e he
      rw [hb] at this
      simp only [Bool.not_true, Bool.false_or] at this
      have := Nat.le_of_ble_eq_true this
      omega
    | succ n =>
      have := backs_says r (i + 1) h.2 n o (by simpa using ho) e he hb
      omega
theorem disj_says {a b : List Nat} (h : disj a b = true) : ∀ z ∈ a, z ∉ b := by
  intro z hz hb
  have := (every_iff _ _).1 h z hz
  rw [(has_iff _ _).2 hb] at this
  cases this
theorem log_says {bf : List (List Bool)} : ∀ {log : Log}, logOk bf log = true → Desc log → ∀ x ∈ log, ∀ y ∈ log, y.1 < x.1 → nth false (nth [] bf x.1) y.1 = false → DP x y
  | [], _, _, _, h, _, _, _, _ => by cases h
  | z :: r, h, hd, x, hx, y, hy, hlt, hb => by
    simp only [logOk, Bool.and_eq_true] at h
    have hd' := List.pairwise_cons.1 hd
    rcases List.mem_cons.1 hx with rfl | hx
    · rcases List.mem_cons.1 hy with rfl | hy
      · omega
      · have := (every_iff _ _).1 h.1 y hy
        simp only [apart, hb, Bool.false_or, Bool.and_eq_true] at this
        exact ⟨disj_says this.1.1, disj_says this.1.2, disj_says this.2⟩
    · rcases List.mem_cons.1 hy with e | hy
      · have := hd'.1 x hx
        rw [e] at hlt
        omega
      · exact log_says h.2 hd'.2 x hx y hy hlt hb
/-! ## what has not come up -/
def rem : Nat → List Oper → (Nat → Bool) → List (Nat × Oper)
  | _, [], _ => []
  | i, o :: r, f => if f i = true then rem (i + 1) r f else (i, o) :: rem (i + 1) r f
theorem rem_none {f : Nat → Bool} : ∀ (l : List Oper) (i : Nat), (∀ j, i ≤ j → j < i + l.length → f j = false) → rem i l f = numbered i l
  | [], _, _ => rfl
  | o :: r, i, h => by
    simp only [List.length_cons] at h
    simp only [rem, numbered]
    rw [if_neg (by rw [h i (Nat.le_refl _) (by omega)]; simp), rem_none r (i + 1) (fun j h1 h2 => h j (by omega) (by omega))]
theorem rem_all {f : Nat → Bool} : ∀ (l : List Oper) (i : Nat), (∀ j, i ≤ j → j < i + l.length → f j = true) → rem i l f = []
  | [], _, _ => rfl
  | o :: r, i, h => by
    simp only [List.length_cons] at h
    simp only [rem]
    rw [if_pos (h i (Nat.le_refl _) (by omega)), rem_all r (i + 1) (fun j h1 h2 => h j (by omega) (by omega))]
theorem rem_far {f : Nat → Bool} {i : Nat} {b : Bool} : ∀ (l : List Oper) (j : Nat), i < j → rem j l (updF f i b) = rem j l f
  | [], _, _ => rfl
  | o :: r, j, h => by
    have e : updF f i b j = f j := updF_ne f b (by omega)
    simp only [rem, e, rem_far r (j + 1) (show i < j + 1 by omega)]
theorem rem_split {f : Nat → Bool} {i : Nat} {o : Oper} (hf : f i = false) : ∀ (l : List Oper) (j : Nat), j ≤ i → l[i - j]? = some o → ∃ pre post, rem j l f = pre ++ (i, o) :: post ∧ rem j l (updF f i true) = pre ++ post ∧ ∀ q ∈ pre, q.1 < i ∧ j ≤ q.1 ∧ l[q.1 - j]? = some q.2 ∧ f q.1 = false
  | [], j, hj, h => by simp at h
  | x :: r, j, hj, h => by
    by_cases e : j = i
    · subst e
      rw [Nat.sub_self] at h
      obtain rfl : x = o := by simpa using h
      refine ⟨[], rem (j + 1) r f, ?_, ?_, fun _ h => by cases h⟩
      · simp only [rem]
        rw [if_neg (by rw [hf]; simp)]
        rfl
      · simp only [rem]
        rw [if_pos (by simp [updF]), rem_far r (j + 1) (by omega)]
        rfl
    · have h1 : i - j = (i - (j + 1)) + 1 := by omega
      rw [h1, List.getElem?_cons_succ] at h
      obtain ⟨pre, post, a1, a2, a3⟩ := rem_split hf r (j + 1) (by omega) h
      have up : ∀ q ∈ pre, q.1 < i ∧ j ≤ q.1 ∧ (x :: r)[q.1 - j]? = some q.2 ∧ f q.1 = false := by
        intro q hq
        obtain ⟨b1, b2, b3, b4⟩ := a3 q hq
        refine ⟨b1, by omega, ?_, b4⟩
        rw [show q.1 - j = (q.1 - (j + 1)) + 1 by omega, List.getElem?_cons_succ]
        exact b3
      cases c : f j with
      | true =>
        refine ⟨pre, post, ?_, ?_, up⟩
        · simp only [rem]; rw [if_pos c]; exact a1
        · simp only [rem]; rw [if_pos (by rw [updF_ne f true (show j ≠ i by omega)]; exact c)]; exact a2
      | false =>
        refine ⟨(j, x) :: pre, post, ?_, ?_, fun q hq => ?_⟩
        · simp only [rem]; rw [if_neg (by rw [c]; simp), a1]; rfl
        · simp only [rem]; rw [if_neg (by rw [updF_ne f true (show j ≠ i by omega), c]; simp), a2]; rfl
        · rcases List.mem_cons.1 hq with rfl | hq
          · exact ⟨by show j < i; omega, Nat.le_refl _, by simp, c⟩
          · exact up q hq
end
end Go.Proofs.Ytihipeicmbgegaa.Rf

namespace Go.Proofs.Ytihipeicmbgegaa.Rf
open Go Go.RowKit
set_option linter.unusedVariables false
set_option linter.unusedSimpArgs false
structure SRF (E : Env) (B : List Nat) (I0 : Nat → Nat → Option Value) (w0 : World) (gh : Gh) (a : Act) (w : World) (s : FS) : Prop where
  hr : HR E.P E.T B I0 w0 gh w s.hp
  sl : ∀ t av, s.tm t = some av → AVR E.P E.T gh (a.tmps.getD t undef) av
  rf : ∀ t av, s.tm t = some av → ∀ o ∈ refs av, (s.hp o).isSome = true
  nd : a.defers = []
  nt : a.tmps.size = E.nt
section
variable {E : Env} {B : List Nat} {I0 : Nat → Nat → Option Value} {w0 : World} {gh : Gh} {a : Act} {w : World} {Q : Exit → Act → World → Prop} {all : List Oper}
theorem SR.toF {s : St} (h : SR E B I0 w0 gh a w s) : SRF E B I0 w0 gh a w ⟨look s.tm, look s.hp⟩ := ⟨h.hr, h.sl, h.rf, h.nd, h.nt⟩
theorem SRF.toS {s : St} (h : SRF E B I0 w0 gh a w ⟨look s.tm, look s.hp⟩) : SR E B I0 w0 gh a w s := ⟨h.hr, h.sl, h.rf, h.nd, h.nt⟩
theorem SRF.get {s : FS} (h : SRF E B I0 w0 gh a w s) (x : Operand) : AVR E.P E.T gh (a.eval x) (getF s.tm x) := by
  cases x with
  | tmp t =>
    show AVR E.P E.T gh (a.eval (.tmp t)) ((s.tm t).getD .undef)
    cases hl : s.tm t with
    | none => trivial
    | some av => exact h.sl t av hl
  | const v =>
    show AVR E.P E.T gh v (constAV v)
    unfold constAV
    split
    · rfl
    · rfl
    · rfl
    · rfl
    · trivial
  | global g => trivial
  | func f => exact ⟨[], rfl, trivial⟩
theorem SRF.refs {s : FS} (h : SRF E B I0 w0 gh a w s) (x : Operand) : ∀ o ∈ refs (getF s.tm x), (s.hp o).isSome = true := by
  cases x with
  | tmp t =>
    show ∀ o ∈ Rf.refs ((s.tm t).getD .undef), _
    cases hl : s.tm t with
    | none => intro o ho; cases ho
    | some av => exact h.rf t av hl
  | const v =>
    show ∀ o ∈ Rf.refs (constAV v), _
    unfold constAV
    split <;> (intro o ho; cases ho)
  | global g => intro o ho; cases ho
  | func f => intro o ho; cases ho
theorem SRF.after {s : FS} (h : SRF E B I0 w0 gh a w s) {dst : Option Nat} {av : AV} {hp' : Nat → Option Obj} {val : Value} {w' : World} {gh' : Gh} (hle : Gh.le s.hp gh gh') (hr : HR E.P E.T B I0 w0 gh' w' hp') (hs : ∀ o, (s.hp o).isSome = true → (hp' o).isSome = true) (hv : AVR E.P E.T gh' val av) (hrf : ∀ o ∈ Rf.refs av, (hp' o).isSome = true) (hd : inFrame E dst = true) :
    SRF E B I0 w0 gh' (a.put dst val) w' { tm := putF s.tm dst av, hp := hp' } where
  hr := hr
  sl := by
    intro t av' ht
    cases dst with
    | none => exact AVR.mono hle av' (h.rf t av' ht) (h.sl t av' ht)
    | some d =>
      have hd' : d < a.tmps.size := by rw [h.nt]; simpa [inFrame] using hd
      rw [put_getD hd']
      by_cases e : t = d
      · subst e
        simp only [putF, updF_same] at ht
        rw [if_pos rfl]
        obtain rfl : av = av' := by simpa using ht
        exact hv
      · simp only [putF] at ht
        rw [updF_ne _ _ e] at ht
        rw [if_neg e]
        exact AVR.mono hle av' (h.rf t av' ht) (h.sl t av' ht)
  rf := by
    intro t av' ht
    cases dst with
    | none => exact fun o ho => hs o (h.rf t av' ht o ho)
    | some d =>
      by_cases e : t = d
      · subst e
        simp only [putF, updF_same] at ht
        obtain rfl : av = av' := by simpa using ht
        exact hrf
      · simp only [putF] at ht
        rw [updF_ne _ _ e] at ht
        exact fun o ho => hs o (h.rf t av' ht o ho)
  nd := by rw [put_defers]; exact h.nd
  nt := by rw [put_size]; exact h.nt
theorem SRF.yielded {s : FS} (h : SRF E B I0 w0 gh a w s) {j dj : Nat} {b : Bool} (hd : (atL all j).bind (·.dst) = some dj) (hl : s.tm dj = some (.bool b)) : Go.yielded all.toArray a.tmps j = some b := by
  have hv : a.tmps.getD dj undef = .bool b := h.sl dj _ hl
  rw [atL_eq] at hd
  have ht : a.tmps[dj]? = some (.bool b) := by
    rcases Nat.lt_or_ge dj a.tmps.size with hlt | hge
    · simp [hlt] at hv ⊢
      exact hv
    · simp [Array.getElem?_eq_none hge] at hv
      cases hv
  unfold Go.yielded
  simp only [List.getElem?_toArray, hd, Option.bind_some, ht]
theorem SRF.yieldedNo {s : FS} (h : SRF E B I0 w0 gh a w s) {j dj : Nat} (hd : (atL all j).bind (·.dst) = some dj) (hl : s.tm dj = some .no) : Go.yielded all.toArray a.tmps j = none := by
  have hv : a.tmps.getD dj undef = undef := h.sl dj _ hl
  rw [atL_eq] at hd
  unfold Go.yielded
  simp only [List.getElem?_toArray, hd, Option.bind_some]
  cases ht : a.tmps[dj]? with
  | none => rfl
  | some x =>
    have : x = undef := by rw [← hv]; simp [Array.getD_eq_getD_getElem?, ht]
    subst this
    rfl
theorem SRF.wanted {s : FS} (h : SRF E B I0 w0 gh a w s) {o : Oper} {b : Bool} (hw : wantF all o s.tm = some b) : Region.wanted o (Go.yielded all.toArray a.tmps) = b := by
  unfold wantF at hw
  unfold Region.wanted
  split at hw
  · rename_i hg
    rw [hg]
    simpa using hw
  · rename_i j want hg
    rw [hg]
    split at hw
    · cases hw
    · rename_i dj hdj
      split at hw
      · rename_i c hc
        have hy := h.yielded hdj hc
        simp only [hy]
        simpa using hw
      · rename_i hc
        have hy := h.yieldedNo hdj hc
        simp only [hy]
        simpa using hw
      · cases hw
/-- One operation. -/
theorem SRF.step (hE : Fits E) {s : FS} (h : SRF E B I0 w0 gh a w s) {i : Nat} {o : Oper} (ho : all[i]? = some o) {x : Option (AV × Ws)} (hx : Out E all o s x) {K : Act → World → Prop} (hn : ∀ a' w' gh', SRF E B I0 w0 gh' a' w' (stepF o s x) → K a' w') : wpOp E.P all.toArray Q i K a w := by
  unfold wpOp
  rw [List.getElem?_toArray, ho]
  simp only
  cases x with
  | none =>
    rw [h.wanted hx.1, if_neg (by simp)]
    exact hn _ _ _ (h.after (Gh.le.refl _ _) h.hr (fun _ h => h) (val := undef) rfl (fun _ h => by cases h) hx.2)
  | some p =>
    obtain ⟨av, ws⟩ := p
    obtain ⟨h1, h2, h3, h4⟩ := hx
    rw [h.wanted h1, if_pos rfl]
    obtain ⟨av', ws', h5, h6⟩ := do_core (Q := Q) (a := a) (o := o) hE.tab h.hr h.get h.refs hE.good hE.names h2
    have : some (av', ws') = some (av, ws) := (h5 _).symm.trans h2
    cases this
    refine .inl (h6 K fun val w' gh' hle hr hv => hn _ _ _ (h.after hle hr (fun z hz => wrF_some _ _ _ hz) hv (fun z hz => ?_) h4))
    rcases h3 z hz with h7 | h7
    · exact wrF_some _ _ _ (refsL_mp h.refs _ z h7)
    · obtain ⟨p, hp, rfl⟩ := List.mem_map.1 h7
      exact wrF_mem ws _ p.1 p.2 hp
/-! ## any order -/
def left (l : Array Bool) : Nat := l.toList.count false
theorem left_set {l : Array Bool} {i : Nat} (hi : l.getD i true = false) : left (l.setIfInBounds i true) + 1 = left l := by
  have hlt : i < l.size := by
    rcases Nat.lt_or_ge i l.size with h | h
    · exact h
    · simp [Array.getElem?_eq_none h] at hi
  have hv : l[i] = false := by simpa [hlt] using hi
  unfold left
  rw [Array.toList_setIfInBounds]
  have hl : i < l.toList.length := by simpa using hlt
  have hv' : l.toList[i] = false := by simpa using hv
  have hc := List.count_set (a := true) (b := false) (l := l.toList) (i := i) hl
  have hp : 0 < l.toList.count false := List.count_pos_iff.2 (hv' ▸ List.getElem_mem hl)
  rw [hc, hv']
  have e1 : (true == false) = false := rfl
  have e2 : (false == false) = true := rfl
  rw [e1, e2]
  simp only [if_true, Bool.false_eq_true, if_false]
  omega
theorem mem_ready' {md : Region.Mode} {ops : Array Oper} {l : Array Bool} {i : Nat} : i ∈ Region.ready md ops l ↔ l.getD i true = false ∧ ∃ o, ops[i]? = some o ∧ ∀ e ∈ o.after.toList, Region.binds md e = true → l.getD e.on false = true := by
  unfold Region.ready
  simp only [List.mem_filter, List.mem_range, Bool.and_eq_true, Bool.not_eq_true']
  constructor
  · rintro ⟨h1, h2, h3⟩
    refine ⟨h2, ops[i], by simp [h1], fun e he hb => ?_⟩
    simp only [Array.getElem?_eq_getElem h1, Option.map_some, Option.getD_some, Array.all_eq_true'] at h3
    have := h3 e (Array.mem_toList_iff.1 he)
    simpa [hb] using this
  · rintro ⟨h1, o, h2, h3⟩
    have hlt : i < ops.size := by
      rcases Nat.lt_or_ge i ops.size with h | h
      · exact h
      · rw [Array.getElem?_eq_none h] at h2; cases h2
    refine ⟨hlt, h1, ?_⟩
    simp only [h2, Option.map_some, Option.getD_some, Array.all_eq_true']
    intro e he
    cases hb : Region.binds md e with
    | false => rfl
    | true => simpa [hb] using h3 e (Array.mem_toList_iff.2 he) hb
theorem any_inv {P : Program} {md : Region.Mode} {ops : Array Oper} {I : Array Bool → Act → World → Prop} (hend : ∀ l a w, I l a w → Region.ready md ops l = [] → Q .normal a w)
    (hstep : ∀ l a w i, I l a w → i ∈ Region.ready md ops l → wpOp P ops Q i (I (l.setIfInBounds i true)) a w) :
    ∀ (fuel : Nat) (l : Array Bool) (a : Act) (w : World), left l ≤ fuel → I l a w → wpAny P md ops Q fuel l a w
  | 0, l, a, w, hf, h => by
    have hr : Region.ready md ops l = [] := by
      cases hr : Region.ready md ops l with
      | nil => rfl
      | cons i r =>
        have hi : i ∈ Region.ready md ops l := by rw [hr]; simp
        have := left_set (mem_ready'.1 hi).1
        omega
    exact ⟨hr, hend l a w h hr⟩
  | fuel + 1, l, a, w, hf, h => ⟨fun hr => hend l a w h hr, fun i hi => wpOp_mono (fun a' w' h' => any_inv hend hstep fuel _ a' w' (by have := left_set (mem_ready'.1 hi).1; omega) h') (hstep l a w i h hi)⟩
theorem getD_set {l : Array Bool} {i : Nat} (hi : i < l.size) : (fun j => (l.setIfInBounds i true).getD j true) = updF (fun j => l.getD j true) i true := by
  funext j
  unfold updF
  by_cases h : j = i
  · subst h; simp [hi]
  · rw [if_neg h]
    simp [Array.getElem?_setIfInBounds_ne (Ne.symm h)]
/-- A region that draws its order. -/
theorem region_any (hE : Fits E) {id : Nat} {ops : Array Oper} {s : St} (h : SR E B I0 w0 gh a w s) {s' : St} {lg log : Log} (hT : Tr E ops.toList (numbered 0 ops.toList) ⟨look s.tm, look s.hp⟩ ⟨look s'.tm, look s'.hp⟩ lg) (hd : Desc log) (hl : ∀ e ∈ lg, e ∈ log)
    (hb : backs 0 ops.toList = true) (hs : slotsOk ops.toList (table ops.toList) [] 0 ops.toList = true) (ho : logOk (table ops.toList) log = true)
    (hend : ∀ a' w' gh', SR E B I0 w0 gh' a' w' s' → Q .normal a' w') : (Code.region id ops true).wp E.P Q a w := by
  have hsize : ops.toList.length = ops.size := by simp
  have hLOK := log_says (bf := table ops.toList) ho hd
  refine wp_region_any hE.mixed (any_inv (I := fun l a w => l.size = ops.size ∧ (∀ j, j < ops.toList.length → l.getD j true = true → Served ops.toList (fun j => l.getD j true) j) ∧
    ∃ gh fs log', SRF E B I0 w0 gh a w fs ∧ Tr E ops.toList (rem 0 ops.toList fun j => l.getD j true) fs ⟨look s'.tm, look s'.hp⟩ log' ∧ ∀ e ∈ log', e ∈ log) ?_ ?_ _ _ _ _ ?_ ?_)
  · -- nothing is left
    rintro l a w ⟨hsz, hc, gh, fs, log', hsr, htr, _⟩ hr
    have hall : ∀ n j, j < n → j < l.size → l.getD j true = true := by
      intro n
      induction n with
      | zero => intro j h; omega
      | succ n ih =>
        intro j h hj
        cases hcj : l.getD j true with
        | true => rfl
        | false =>
          have hjo : ops[j]? = some ops[j] := Array.getElem?_eq_getElem (by omega)
          have : j ∈ Region.ready .any ops l := mem_ready'.2 ⟨hcj, ops[j], hjo, fun e he hbe => by
            have hlt := backs_says ops.toList 0 hb j ops[j] (by rw [Array.getElem?_toList, hjo]) e he hbe
            have := ih e.on (by omega) (by omega)
            have hz : e.on < l.size := by omega
            simpa [hz] using this⟩
          rw [hr] at this
          cases this
    rw [rem_all _ _ (fun j _ h2 => hall (j + 1) j (by omega) (by omega))] at htr
    obtain ⟨rfl, _⟩ := htr
    exact hend _ _ _ hsr.toS
  · rintro l a w i ⟨hsz, hc, gh, fs, log', hsr, htr, hsub⟩ hi
    obtain ⟨hli, o, hio, hn⟩ := mem_ready'.1 hi
    have hio' : ops.toList[i]? = some o := by rw [Array.getElem?_toList]; exact hio
    have hlt : i < l.size := by
      rcases Nat.lt_or_ge i l.size with h | h
      · exact h
      · simp [Array.getElem?_eq_none h] at hli
    have hsv : Served ops.toList (fun j => l.getD j true) i := by
      intro o' ho' e he hbe
      obtain rfl : o = o' := by rw [hio'] at ho'; simpa using ho'
      have := hn e he hbe
      show l.getD e.on true = true
      rcases Nat.lt_or_ge e.on l.size with h | h
      · simpa [h] using this
      · simp [Array.getElem?_eq_none h]
    obtain ⟨pre, post, h1, h2, h3⟩ := rem_split (f := fun j => l.getD j true) (i := i) (o := o) hli ops.toList 0 (Nat.zero_le _) (by simpa using hio')
    rw [h1] at htr
    have hno : ∀ k, l.getD k true = false → nth false (nth [] (table ops.toList) i) k = false := fun k hk => waits_not (f := fun j => l.getD j true) hc hsv hk
    obtain ⟨log2, h4, h5⟩ := Tr.bubble pre htr (fun q hq => by
        obtain ⟨a1, a2, a3, a4⟩ := h3 q hq
        exact slots_says ops.toList [] rfl hs i o q.1 q.2 (Nat.zero_le _) hio' a1 (by simpa using a3) (hno _ a4)) (fun x hx y hy e1 ⟨q, hq, e2⟩ => by
        obtain ⟨a1, a2, a3, a4⟩ := h3 q hq
        exact hLOK x (hsub x hx) y (hsub y hy) (by rw [e1, e2]; exact a1) (by rw [e1, e2]; exact hno _ a4))
    obtain ⟨x, hx, log3, rfl, h6⟩ := h4
    have hio2 : ops.toList[i]? = some o := hio'
    have := hsr.step (Q := Q) (all := ops.toList) hE hio' hx (K := fun a w => (l.setIfInBounds i true).size = ops.size ∧ (∀ j, j < ops.toList.length → (l.setIfInBounds i true).getD j true = true → Served ops.toList (fun j => (l.setIfInBounds i true).getD j true) j) ∧
      ∃ gh fs log', SRF E B I0 w0 gh a w fs ∧ Tr E ops.toList (rem 0 ops.toList fun j => (l.setIfInBounds i true).getD j true) fs ⟨look s'.tm, look s'.hp⟩ log' ∧ ∀ e ∈ log', e ∈ log) (fun a' w' gh' hsr' => by
      refine ⟨by simpa using hsz, fun j hj hjt => ?_, gh', _, log3, hsr', ?_, fun e he => hsub e ((h5 e).1 (List.mem_append_right _ he))⟩
      · intro o' ho' e he hbe
        show (l.setIfInBounds i true).getD e.on true = true
        have hmono : ∀ k, l.getD k true = true → (l.setIfInBounds i true).getD k true = true := fun k hk => by
          have : (l.setIfInBounds i true).getD k true = updF (fun j => l.getD j true) i true k := congrFun (getD_set hlt) k
          rw [this]
          unfold updF
          split
          · rfl
          · exact hk
        refine hmono _ ?_
        by_cases e1 : j = i
        · subst e1; exact hsv o' ho' e he hbe
        · have : l.getD j true = true := by
            have h7 : (l.setIfInBounds i true).getD j true = updF (fun j => l.getD j true) i true j := congrFun (getD_set hlt) j
            rw [h7, updF_ne _ _ e1] at hjt
            exact hjt
          exact hc j hj this o' ho' e he hbe
      · rw [getD_set hlt, h2]
        exact h6)
    simpa using this
  · unfold left
    exact Nat.le_trans List.count_le_length (by simp)
  · have hz : ∀ j, j < ops.size → (Array.replicate ops.size false).getD j true = false := fun j hj => by simp [hj]
    refine And.intro (by simp) (And.intro (fun j hj hjt => by rw [hz j (by omega)] at hjt; cases hjt) ⟨gh, ⟨look s.tm, look s.hp⟩, lg, ?_, ?_, hl⟩)
    · have := h.toF
      exact ⟨this.hr.quiet (Upto.drew w), this.sl, this.rf, this.nd, this.nt⟩
    · rw [rem_none _ _ (fun j _ h2 => hz j (by omega))]
      exact hT
/-- A region. -/
theorem do_region (hE : Fits E) {id : Nat} {ops : Array Oper} {draw : Bool} {s : St} (h : SR E B I0 w0 gh a w s) {α : Type} {K : St → Option α} {r : α} (hK : region E ops.toList draw s K = some r)
    (hend : ∀ s' a' w' gh', SR E B I0 w0 gh' a' w' s' → K s' = some r → Q .normal a' w') : (Code.region id ops draw).wp E.P Q a w := by
  unfold region at hK
  have h' := h.fresh (news E ops.toList)
  cases draw with
  | false =>
    refine wp_region ?_
    have := ops_seq (Q := Q) hE ops.toList 0 (log := []) rfl h' hK (fun s' log' a' w' gh' hs hk => hend s' a' w' gh' hs hk)
    rw [List.range_eq_range']
    simpa using this
  | true =>
    obtain ⟨s', log', lg, h1, h2, h3, h4, _⟩ := ops_trace ops.toList 0 hK (List.Pairwise.nil) (fun x hx => by cases hx)
    obtain ⟨hc, h1⟩ := cnd_some h1
    simp only [Bool.and_eq_true] at hc
    exact region_any hE h' h2 h4 h3 hc.1.1 hc.1.2 hc.2 (fun a' w' gh' hs => hend s' a' w' gh' hs h1)
end
end Go.Proofs.Ytihipeicmbgegaa.Rf

namespace Go.Proofs.Ytihipeicmbgegaa.Rf
open Go Go.RowKit
set_option linter.unusedVariables false
set_option linter.unusedSimpArgs false
section
variable {E : Env} {B : List Nat} {I0 : Nat → Nat → Option Value} {w0 : World} {α : Type} {r : α}
/-- What is known of what follows. -/
structure KOk (E : Env) (B : List Nat) (I0 : Nat → Nat → Option Value) (w0 : World) (k : Ks α) (r : α) (Q : Exit → Act → World → Prop) : Prop where
  nx : ∀ gh a w s, SR E B I0 w0 gh a w s → k.nx s = some r → Q .normal a w
  ex : ∀ id x, look k.ex id = some x → ∀ gh a w s, SR E B I0 w0 gh a w s → x s = some r → Q (.exit id) a w
  rt : ∀ gh a w s, SR E B I0 w0 gh a w s → k.rt s = some r → Q .ret a w
theorem saidOp_true {c : Operand} {s : St} {b : Bool} (h : getOp s.tm c = .bool b) : saidOp c b s = s := by
  cases c with
  | tmp t =>
    simp only [saidOp]
    have : look s.tm t = some (.bool b) := by
      have h : (look s.tm t).getD .undef = .bool b := h
      cases hl : look s.tm t with
      | none => rw [hl] at h; cases h
      | some x => rw [hl] at h; simp at h; rw [h]
    rw [said_same _ _ _ this]
  | _ => rfl
theorem saidOp_cnd {c : Operand} {s : St} {b : Bool} (h : getOp s.tm c = .bool b) {f g : St → Option α} : cnd b (f (saidOp c true s)) (g (saidOp c false s)) = cnd b (f s) (g s) := by
  cases b with
  | true => rw [cnd_true, cnd_true, saidOp_true h]
  | false => rw [cnd_false, cnd_false, saidOp_true h]
theorem do_code (hE : Fits E) (n rt : Nat) : ∀ (c : Code) (ex : List (Nat × Nat)) (m : Nat) (p : List Nat) {k : Ks α} {s : St} {Q : Exit → Act → World → Prop} {gh : Gh} {a : Act} {w : World}, KOk E B I0 w0 k r Q → SR E B I0 w0 gh a w s → code E n (annot rt c ex m p) k s = some r → c.wp E.P Q a w
  | .skip, ex, m, p, k, s, Q, gh, a, w, hk, h, hK => by
    obtain ⟨gh', h'⟩ := h.clean m
    exact wp_skip (hk.nx _ _ _ _ h' hK)
  | .region id ops d, ex, m, p, k, s, Q, gh, a, w, hk, h, hK => by
    refine do_region (K := fun s => k.nx (clean m s)) hE h hK fun s' a' w' gh' h' hK' => ?_
    obtain ⟨gh2, h2⟩ := h'.clean m
    exact hk.nx _ _ _ _ h2 hK'
  | .seq x y, ex, m, p, k, s, Q, gh, a, w, hk, h, hK => by
    refine wp_seq (do_code hE n rt x ex (live rt y ex m) (0 :: p) (k := { nx := fun s => code E n (annot rt y ex m (1 :: p)) k s, ex := k.ex, rt := k.rt }) ⟨fun gh' a' w' s' h' hK' => ?_, fun id z hz gh' a' w' s' h' hK' => ?_, fun gh' a' w' s' h' hK' => ?_⟩ h hK)
    · exact do_code hE n rt y ex m (1 :: p) hk h' hK'
    · exact hk.ex id z hz _ _ _ _ h' hK'
    · exact hk.rt _ _ _ _ h' hK'
  | .cond c x y, ex, m, p, k, s, Q, gh, a, w, hk, h, hK => by
    simp only [annot, code] at hK
    split at hK
    · rename_i b hb
      have hc : a.eval c = .bool b := by
        have := h.get c
        rw [hb] at this
        exact this
      refine wp_cond hc ?_
      rw [saidOp_cnd (f := fun s => code E n _ k (clean _ s)) (g := fun s => code E n _ k (clean _ s)) hb] at hK
      cases b with
      | true =>
        obtain ⟨gh', h'⟩ := h.clean (live rt x ex m)
        exact do_code hE n rt x ex m (0 :: p) hk h' hK
      | false =>
        obtain ⟨gh', h'⟩ := h.clean (live rt y ex m)
        exact do_code hE n rt y ex m (1 :: p) hk h' hK
    · cases hK
  | .block id c, ex, m, p, k, s, Q, gh, a, w, hk, h, hK => by
    refine wp_block (do_code hE n rt c ((id, m) :: ex) m (1 :: p) (k := { nx := k.nx, ex := (id, k.nx) :: k.ex, rt := k.rt }) ⟨fun gh' a' w' s' h' hK' => ?_, fun id' z hz gh' a' w' s' h' hK' => ?_, fun gh' a' w' s' h' hK' => ?_⟩ h hK)
    · exact hk.nx _ _ _ _ h' hK'
    · rw [look_cons] at hz
      simp only [Exit.inBlock]
      by_cases e : id = id'
      · rw [if_pos e] at hz
        rw [if_pos e.symm]
        obtain rfl : k.nx = z := by simpa using hz
        exact hk.nx _ _ _ _ h' hK'
      · rw [if_neg e] at hz
        rw [if_neg (Ne.symm e)]
        exact hk.ex id' z hz _ _ _ _ h' hK'
    · exact hk.rt _ _ _ _ h' hK'
  | .loop c, ex, m, p, k, s, Q, gh, a, w, hk, h, hK => by
    simp only [annot, code] at hK
    obtain ⟨gh0, h0⟩ := h.clean (live rt (.loop c) ex m)
    refine wp_loop_rounds n ?_
    have key : ∀ (j : Nat) (gh : Gh) (a : Act) (w : World) (s : St), SR E B I0 w0 gh a w s → iter j p (fun ih s => code E n (annot rt c ex (live rt (.loop c) ex m) (0 :: p)) { nx := ih, ex := k.ex, rt := k.rt } s) s = some r → Code.rounds E.P c Q j a w := by
      intro j
      induction j with
      | zero => intro gh a w s _ hK; cases hK
      | succ j ih =>
        intro gh a w s h hK
        refine do_code hE n rt c ex (live rt (.loop c) ex m) (0 :: p) (k := { nx := iter j p (fun ih s => code E n (annot rt c ex (live rt (.loop c) ex m) (0 :: p)) { nx := ih, ex := k.ex, rt := k.rt } s), ex := k.ex, rt := k.rt }) ⟨fun gh' a' w' s' h' hK' => ih gh' a' w' s' h' hK', fun id z hz gh' a' w' s' h' hK' => ?_, fun gh' a' w' s' h' hK' => ?_⟩ h hK
        · exact hk.ex id z hz _ _ _ _ h' hK'
        · exact hk.rt _ _ _ _ h' hK'
    exact key n _ _ _ _ h0 hK
  | .exit id, ex, m, p, k, s, Q, gh, a, w, hk, h, hK => by
    simp only [annot, code] at hK
    split at hK
    · rename_i x hx
      obtain ⟨gh', h'⟩ := h.clean ((look ex id).getD 0)
      exact wp_exit (hk.ex id x hx _ _ _ _ h' hK)
    · cases hK
  | .ret, ex, m, p, k, s, Q, gh, a, w, hk, h, hK => by
    obtain ⟨gh', h'⟩ := h.clean rt
    exact wp_ret (hk.rt _ _ _ _ h' hK)
  | .label _, ex, m, p, k, s, Q, gh, a, w, hk, h, hK => by cases hK
  | .goto _, ex, m, p, k, s, Q, gh, a, w, hk, h, hK => by cases hK
  | .scope _, ex, m, p, k, s, Q, gh, a, w, hk, h, hK => by cases hK
end
end Go.Proofs.Ytihipeicmbgegaa.Rf

namespace Go.Proofs.Ytihipeicmbgegaa.Rf
open Go Go.RowKit
set_option linter.unusedVariables false
set_option linter.unusedSimpArgs false
def rvSem (tmps : Array Value) : ResultVar → Sem Value
  | .tmp t => pure (tmps.getD t undef)
  | .cell a t => do loadVar t (← asAddr (tmps.getD a undef))
theorem results_eq (fn : Func) (tmps : Array Value) : results fn tmps = (do let vs ← fn.results.mapM (rvSem tmps); pure (if h : vs.size = 1 then vs[0] else .tuple vs)) := by
  unfold results
  congr 1
section
variable {E : Env} {B : List Nat} {I0 : Nat → Nat → Option Value} {w0 : World} {gh : Gh} {a : Act} {w : World} {s : St}
theorem refs_view (T : Tab) (t : TypeId) (g : G) : refs (view T t g) = [] := by
  unfold view
  split <;> rfl
/-- A result, and what is read of it. -/
theorem res_one (hT : tabOk E.P E.T = true) (h : SR E B I0 w0 gh a w s) {rv : ResultVar} {t : TypeId} {g : G} (hc : conv E.T (look s.hp) t (resOf E.T s rv) = some g) :
    ∃ val, (rvSem a.tmps rv).run E.P w = .ok val w ∧ AVR E.P E.T gh val (resOf E.T s rv) := by
  cases rv with
  | tmp t' => exact ⟨_, rfl, h.get (.tmp t')⟩
  | cell t' ct =>
    simp only [resOf] at hc ⊢
    split at hc
    · rename_i o t1 ht
      split at hc
      · rename_i t2 g0 m ho
        cases hk : Nat.beq ct t1 && Nat.beq ct t2 with
        | false => rw [hk] at hc; cases hc
        | true =>
          have hk0 := hk
          simp only [Bool.and_eq_true] at hk
          have e1 := beqI hk.1
          have e2 := beqI hk.2
          subst e1
          subst e2
          rw [cnd_true]
          obtain ⟨b, off, n, d, hb, hp, hx⟩ := h.sl t' _ ht
          obtain ⟨val, hrun, hVR⟩ := load_VR (w := w) hT (obj_read hT h.hr ho rfl hb hp)
          refine ⟨val, ?_, view_AVR hT hVR⟩
          simp only [Instr.loadAt, Instr.sureAddr, Sem.run_bind, Sem.run_pure, Result.andThen_ok] at hrun
          simp only [rvSem, hx, asAddr, Sem.run_bind, Sem.run_pure, Result.andThen_ok, hrun]
      · cases hc
    · cases hc
/-- Results, and what is read of them. -/
theorem res_all {gh1 : Gh} {H1 H2 : Nat → Option Obj} (hT : tabOk E.P E.T = true) (h1 : HR E.P E.T B I0 w0 gh1 w H1) (hs : ∀ o e es, look s.hp o = some (.row e es .fz) → H1 o = some (.row e es .fz)) (hbk : ∀ o e es, H1 o = some (.row e es .own) → look s.hp o = some (.row e es .own)) (h2 : H2 = H1) (gv : ResultVar → Value) {own : Option Nat} {g : G} :
    ∀ (i : Nat) (ts : List TypeId) (rvs : List ResultVar) (gs : List G), convs E.T (look s.hp) H2 own i ts (mp (resOf E.T s) rvs) = some gs → (∀ p ∈ sharesOf E.T (look s.hp) own i ts (mp (resOf E.T s) rvs), H1 p.1 = some p.2) →
      (∀ rv ∈ rvs, AVR E.P E.T gh1 (gv rv) (resOf E.T s rv)) → (∀ k (hk : k < gs.length), g.fld (i + k) = gs[k]) → ResRs E.P E.T gh1.I w w0.heap.size own g i ts (rvs.map gv) ∧ gs.length = ts.length
  | i, [], [], gs, hc, _, _, _ => by
    simp only [mp, convs, Option.some.injEq] at hc
    subst hc
    exact ⟨trivial, rfl⟩
  | i, t :: ts, rv :: rvs, gs, hc, hsh, hav, hg => by
    simp only [mp, convs] at hc
    split at hc
    · rename_i g0 gs0 hc0 hcs
      obtain ⟨hown, hc⟩ := cnd_some hc
      cases hc
      simp only [mp, sharesOf, cat_eq] at hsh
      obtain ⟨ih, hl⟩ := res_all hT h1 hs hbk h2 gv (i + 1) ts rvs gs0 hcs (fun p hp => hsh p (List.mem_append_right _ hp)) (fun rv hrv => hav rv (List.mem_cons_of_mem _ hrv)) (fun k hk => by
        have := hg (k + 1) (by simp; omega)
        rw [show i + 1 + k = i + (k + 1) by omega, this]
        rfl)
      refine ⟨⟨?_, ih⟩, by simp [hl]⟩
      have hg0 : g.fld i = g0 := hg 0 (by simp)
      rw [hg0]
      have hv := hav rv (by simp)
      unfold ResAt
      cases ho : isOwn E.T own i t with
      | false =>
        simp only [Bool.false_eq_true, if_false]
        rw [ho, cnd_false] at hsh
        exact conv_VR hT h1 hv hc0 (fun p hp => hsh p (List.mem_append_left _ hp)) hs
      | true =>
        simp only [if_true]
        obtain ⟨e, he, _⟩ := isOwn_sl ho
        refine ⟨e, he, ?_⟩
        rw [ho] at hown
        generalize resOf E.T s rv = av at hv hc0 hown
        cases av with
        | emp =>
          simp only [conv, he, Option.some.injEq] at hc0
          subst hc0
          exact .inl ⟨none, hv, rfl⟩
        | row o =>
          simp only [ownOk] at hown
          split at hown
          · rename_i e2 es2 ho2
            rw [h2] at ho2
            obtain ⟨hY, hcase⟩ := h1.obj o _ ho2
            have hv' : gv rv = gh1.V o := hv
            simp only [conv, hbk o _ _ ho2, he] at hc0
            obtain ⟨hk, hc0⟩ := cnd_some hc0
            cases hc0
            have := beqI hk
            subst this
            rw [hv']
            exact hcase
          · cases hown
        | _ => cases hown
    · cases hc
  | i, [], _ :: _, gs, hc, _, _, _ => by simp [mp, convs] at hc
  | i, _ :: _, [], gs, hc, _, _, _ => by simp [mp, convs] at hc
end
end Go.Proofs.Ytihipeicmbgegaa.Rf

namespace Go.Proofs.Ytihipeicmbgegaa.Rf
open Go Go.RowKit
set_option linter.unusedVariables false
set_option linter.unusedSimpArgs false
section
variable {E : Env} {B : List Nat} {I0 : Nat → Nat → Option Value} {w0 : World} {gh : Gh} {a : Act} {w : World} {s : St}
theorem sharesOf_ok {T : Tab} {H : Nat → Option Obj} {own : Option Nat} : ∀ (i : Nat) (ts : List TypeId) (vs : List AV), Sharing H (sharesOf T H own i ts vs)
  | i, t :: ts, v :: vs => by
    simp only [sharesOf, cat_eq]
    refine Sharing.append ?_ (sharesOf_ok (i + 1) ts vs)
    cases isOwn T own i t with
    | true => intro p hp; cases hp
    | false => exact share_ok _ _
  | _, [], _ => fun p hp => by simp [sharesOf] at hp
  | _, _ :: _, [] => fun p hp => by simp [sharesOf] at hp
theorem wrF_back {ws : Ws} {H : Nat → Option Obj} (hs : Sharing H ws) {o : Nat} {e : TypeId} {es : List G} (h : wrF ws H o = some (.row e es .own)) : H o = some (.row e es .own) := by
  by_cases hm : ∃ x, (o, x) ∈ ws
  · obtain ⟨x, hx⟩ := hm
    rw [hs.at hx] at h
    rcases hs _ hx with ⟨e1, es1, a1, b1⟩ | ⟨t1, g1, a1, b1⟩ <;> simp only at a1 b1 <;> subst a1 <;> cases h
  · rwa [wrF_other _ _ _ (fun x hx => hm ⟨x, hx⟩)] at h
theorem convs_each {T : Tab} {H H2 : Nat → Option Obj} {own : Option Nat} : ∀ {i : Nat} {ts : List TypeId} {vs : List AV} {gs : List G}, convs T H H2 own i ts vs = some gs → ∀ v ∈ vs, ∃ t g, conv T H t v = some g
  | _, [], [], _, _, v, hv => by cases hv
  | i, t :: ts, x :: vs, gs, h, v, hv => by
    simp only [convs] at h
    split at h
    · rename_i g gs' h1 h2
      rcases List.mem_cons.1 hv with rfl | hv
      · exact ⟨t, g, h1⟩
      · exact convs_each h2 v hv
    · cases h
  | _, [], _ :: _, _, h, _, _ => by simp [convs] at h
  | _, _ :: _, [], _, h, _, _ => by simp [convs] at h
theorem refB_none : ∀ (vs : List Value) (as : List A), noRefs as = true → refB vs as = []
  | [], as, _ => by simp [refB]
  | v :: vs, [], _ => by simp [refB]
  | v :: vs, .ref t g :: as, h => by cases h
  | v :: vs, .val g :: as, h => by
    have : refB (v :: vs) (.val g :: as) = refB vs as := by cases v <;> first | rfl | (rename_i x; cases x <;> rfl)
    rw [this]; exact refB_none vs as h
  | v :: vs, .ro t g :: as, h => by
    have : refB (v :: vs) (.ro t g :: as) = refB vs as := by cases v <;> first | rfl | (rename_i x; cases x <;> rfl)
    rw [this]; exact refB_none vs as h
  | v :: vs, .fn f c :: as, h => by
    have : refB (v :: vs) (.fn f c :: as) = refB vs as := by cases v <;> first | rfl | (rename_i x; cases x <;> rfl)
    rw [this]; exact refB_none vs as h
theorem fins_none {P : Program} {T : Tab} {I : Nat → Nat → Option Value} {w' : World} : ∀ (vs : List Value) (as : List A) (gs : List G), noRefs as = true → FinsR P T I w' vs as gs
  | [], [], _, _ => trivial
  | [], _ :: _, _, _ => trivial
  | v :: vs, [], _, _ => trivial
  | v :: vs, .ref t g :: as, _, h => by cases h
  | v :: vs, .val g :: as, gs, h => fins_none vs as gs h
  | v :: vs, .ro t g :: as, gs, h => fins_none vs as gs h
  | v :: vs, .fn f c :: as, gs, h => fins_none vs as gs h
/-- What the object has become that was handed in. -/
theorem given_ok {P : Program} {T : Tab} {I : Nat → Nat → Option Value} {w' : World} {H : Nat → Option Obj} (h : HR P T B I0 w0 gh w' H) {wa : World} : ∀ (i : Nat) (ts : List TypeId) (vs : List Value) (as : List A) (fs : List G), given H i as = some fs → ArgsR P T I wa ts vs as → refB vs as = B → FinsR P T gh.I w' vs as fs
  | i, ts, [], [], fs, _, _, _ => trivial
  | i, ts, [], _ :: _, fs, _, h', _ => trivial
  | i, ts, v :: vs, [], fs, _, h', _ => trivial
  | i, [], v :: vs, _ :: _, fs, _, h', _ => h'.elim
  | i, t :: ts, v :: vs, .ref t1 g1 :: as, fs, hg, h', hB => by
    simp only [given] at hg
    split at hg
    · rename_i t2 g2 ho
      obtain ⟨hk, hg⟩ := cnd_some hg
      cases hg
      simp only [Bool.and_eq_true] at hk
      have := beqI hk.1
      subst this
      obtain ⟨⟨b, rfl, _⟩, _⟩ := h'
      have hB' : B = [b] := by
        rw [← hB]
        simp only [refB, refB_none vs as hk.2]
      obtain ⟨_, b', hV, hb', hva⟩ := h.obj i _ ho
      rw [hB'] at hb'
      obtain rfl := List.mem_singleton.1 hb'
      exact ⟨⟨b', rfl, hva⟩, fins_none vs as _ hk.2⟩
    · cases hg
  | i, t :: ts, v :: vs, .val g :: as, fs, hg, h', hB => by
    have : refB (v :: vs) (.val g :: as) = refB vs as := by cases v <;> first | rfl | (rename_i x; cases x <;> rfl)
    exact given_ok h (i + 1) ts vs as fs hg h'.2 (this ▸ hB)
  | i, t :: ts, v :: vs, .ro t1 g :: as, fs, hg, h', hB => by
    have : refB (v :: vs) (.ro t1 g :: as) = refB vs as := by cases v <;> first | rfl | (rename_i x; cases x <;> rfl)
    exact given_ok h (i + 1) ts vs as fs hg h'.2 (this ▸ hB)
  | i, t :: ts, v :: vs, .fn f c :: as, fs, hg, h', hB => by
    have : refB (v :: vs) (.fn f c :: as) = refB vs as := by cases v <;> first | rfl | (rename_i x; cases x <;> rfl)
    exact given_ok h (i + 1) ts vs as fs hg h'.2 (this ▸ hB)
/-- What a call leaves behind. -/
def After (E : Env) (f : FuncId) (fn : Func) (w0 : World) (I0 : Nat → Nat → Option Value) (vs : List Value) (as : List A) (r : R) (e : Ending) (w' : World) : Prop :=
  ∃ v I', e = .returned v ∧ (∀ b off v, I0 b off = some v → I' b off = some v) ∧ (∀ b off, b < w0.heap.size → I' b off = I0 b off) ∧ (∀ b off v, I' b off = some v → w'.cell? ⟨b, off, none⟩ = some v) ∧
      Upto (refB vs as) w0 w' ∧ ResR E.P E.T I' w' w0.heap.size (E.own f) fn.resultTypes.toList v r.1 ∧ FinsR E.P E.T I' w' vs as r.2
theorem do_finish (hT : tabOk E.P E.T = true) {f : FuncId} {fn : Func} {vs : List Value} {as : List A} {r : R} {ts : List TypeId} {wa : World} {I : Nat → Nat → Option Value} (hA : ArgsR E.P E.T I wa ts vs as) (h : SR E (refB vs as) I0 w0 gh a w s) (hf : finish E f fn as s = some r) :
    a.defers = [] ∧ ∃ v, (results fn a.tmps).run E.P w = .ok v w ∧ After E f fn w0 I0 vs as r (.returned v) w := by
  refine ⟨h.nd, ?_⟩
  unfold finish at hf
  split at hf
  · rename_i gs fs hc hg
    cases hf
    have hval : ∀ rv, ∃ val, rv ∈ fn.results.toList → (rvSem a.tmps rv).run E.P w = .ok val w ∧ AVR E.P E.T gh val (resOf E.T s rv) := by
      intro rv
      by_cases hm : rv ∈ fn.results.toList
      · obtain ⟨t, g, hcv⟩ := convs_each hc (resOf E.T s rv) (by rw [mp_eq]; exact List.mem_map.2 ⟨rv, hm, rfl⟩)
        obtain ⟨val, h1, h2⟩ := res_one hT h hcv
        exact ⟨val, fun _ => ⟨h1, h2⟩⟩
      · exact ⟨undef, fun h => absurd h hm⟩
    obtain ⟨gv, hgv⟩ := Classical.axiomOfChoice hval
    have hrun : (fn.results.mapM (rvSem a.tmps)).run E.P w = .ok (fn.results.map gv) w := run_arrMapM _ gv w fn.results fun x hx => (hgv x (Array.mem_toList_iff.2 hx)).1
    have hsh : Sharing (look s.hp) (sharesOf E.T (look s.hp) (E.own f) 0 fn.resultTypes.toList (mp (resOf E.T s) fn.results.toList)) := sharesOf_ok _ _ _
    obtain ⟨I', hI, h1⟩ := h.hr.shares hsh
    rw [look_wrAll] at hc
    have hle : Gh.le (fun _ => some Obj.dead) gh { gh with I := I' } := Gh.le_I hI
    obtain ⟨hres, hlen⟩ := res_all (g := .tu gs) hT h1 (wrF_fz hsh) (fun o e es ho => wrF_back hsh ho) rfl gv 0 _ _ _ hc (fun p hp => hsh.at hp) (fun rv hrv => AVR.mono hle _ (fun _ _ => rfl) (hgv rv hrv).2) (fun k hk => by rw [Nat.zero_add]; exact fld_tu gs k hk)
    have hfin := given_ok h.hr 0 ts vs as fs hg hA rfl
    -- handing back leaves the objects
    have hfin' : FinsR E.P E.T I' w vs as fs := by
      have hg' : given (wrF (sharesOf E.T (look s.hp) (E.own f) 0 fn.resultTypes.toList (mp (resOf E.T s) fn.results.toList)) (look s.hp)) 0 as = some fs := by
        have key : ∀ (as : List A) (i : Nat), given (look s.hp) i as = some fs → given (wrF (sharesOf E.T (look s.hp) (E.own f) 0 fn.resultTypes.toList (mp (resOf E.T s) fn.results.toList)) (look s.hp)) i as = some fs := by
          intro as
          induction as with
          | nil => intro i h; exact h
          | cons x as ih =>
            intro i h
            cases x with
            | ref t g =>
              simp only [given] at h ⊢
              split at h
              · rename_i t2 g2 ho
                have : wrF (sharesOf E.T (look s.hp) (E.own f) 0 fn.resultTypes.toList (mp (resOf E.T s) fn.results.toList)) (look s.hp) i = some (.var t2 g2 .ref) := by
                  rw [wrF_other, ho]
                  intro x hx
                  rcases hsh _ hx with ⟨e1, es1, a1, b1⟩ | ⟨t1, g1, a1, b1⟩ <;> simp only at b1 <;> rw [ho] at b1 <;> simp at b1
                rw [this]
                exact h
              · cases h
            | val g => exact ih _ h
            | ro t g => exact ih _ h
            | fn f c => exact ih _ h
        exact key as 0 hg
      exact given_ok h1 0 ts vs as fs hg' hA rfl
    refine ⟨_, by rw [results_eq, Sem.run_bind, hrun]; rfl, _, I', rfl, fun b off v hv => hI _ _ _ (h.hr.ext b off v hv), fun b off hb => h1.old b off hb, h1.imm, h.hr.up, ?_, hfin'⟩
    -- the results
    have hl2 : fn.resultTypes.toList.length = (fn.results.toList.map gv).length := by
      have : ∀ (i : Nat) (ts : List TypeId) (vs : List Value), ResRs E.P E.T I' w w0.heap.size (E.own f) (.tu gs) i ts vs → ts.length = vs.length := by
        intro i ts
        induction ts generalizing i with
        | nil => intro vs h; cases vs with
          | nil => rfl
          | cons _ _ => exact h.elim
        | cons t ts ih => intro vs h; cases vs with
          | nil => exact h.elim
          | cons v vs => simp [ih _ _ h.2]
      exact this _ _ _ hres
    unfold ResR
    have hm : (fn.results.map gv).toList = fn.results.toList.map gv := by simp
    split
    · rename_i t ht
      rw [ht] at hres hlen hl2
      match hrt : fn.results.toList.map gv with
      | [v] =>
        rw [hrt] at hres
        have hsz : (fn.results.map gv) = #[v] := by
          apply Array.toList_inj.1
          rw [hm, hrt]
        match gs, hlen with
        | [g0], _ =>
          rw [hsz]
          simpa [one, G.fld, G.parts] using hres.1
      | [] => rw [hrt] at hl2; simp at hl2
      | _ :: _ :: _ => rw [hrt] at hl2; simp at hl2
    · rename_i hne
      have hsz : (fn.results.map gv).size ≠ 1 := by
        intro he
        have h3 : fn.resultTypes.toList.length = 1 := by rw [hl2, ← hm]; simpa using he
        match hrt : fn.resultTypes.toList with
        | [t] => exact hne t hrt
        | [] => rw [hrt] at h3; simp at h3
        | _ :: _ :: _ => rw [hrt] at h3; simp at h3
      refine ⟨fn.results.toList.map gv, ?_, ?_⟩
      · rw [dif_neg hsz, ← hm]
      · have : one gs = .tu gs := by
          match gs, hlen with
          | [], _ => rfl
          | [g0], hlen =>
            match hrt : fn.resultTypes.toList with
            | [t] => exact absurd hrt (hne t)
            | [] => rw [hrt] at hlen; simp at hlen
            | _ :: _ :: _ => rw [hrt] at hlen; simp at hlen
          | _ :: _ :: _, _ => rfl
        rw [this]
        exact hres
  · cases hf
end
end Go.Proofs.Ytihipeicmbgegaa.Rf

namespace Go.Proofs.Ytihipeicmbgegaa.Rf
open Go Go.RowKit
set_option linter.unusedVariables false
set_option linter.unusedSimpArgs false
def avOf (T : Tab) (k : Nat) (t : TypeId) : A → AV
  | .val g => view T t g
  | .ref t' _ => .ptr k t' []
  | .ro t' g => .ro t' g
  | .fn f cs => .fn f (mp capOf cs)
def obOf : A → Option Obj
  | .ref t g => some (.var t g .ref)
  | _ => none
theorem enter_says {T : Tab} : ∀ (ts : List TypeId) (as : List A) (i : Nat) (s : St), ts.length = as.length →
    (∀ k, look (enter T i ts as s).tm k = if i ≤ k ∧ k < i + as.length then some (avOf T k (ts.getD (k - i) 0) (as.getD (k - i) default)) else look s.tm k) ∧
    (∀ k, look (enter T i ts as s).hp k = if i ≤ k ∧ k < i + as.length ∧ (obOf (as.getD (k - i) default)).isSome = true then obOf (as.getD (k - i) default) else look s.hp k)
  | [], [], i, s, _ => by
    refine ⟨fun k => ?_, fun k => ?_⟩
    · rw [if_neg (by simp)]; rfl
    · rw [if_neg (by simp; omega)]; rfl
  | t :: ts, x :: as, i, s, hl => by
    have hl' : ts.length = as.length := by simpa using hl
    -- one argument
    have one : ∀ (tm' : List (Nat × AV)) (hp' : Heap), (∀ k, look tm' k = if k = i then some (avOf T i t x) else look s.tm k) → (∀ k, look hp' k = if k = i ∧ (obOf x).isSome = true then obOf x else look s.hp k) →
        (∀ k, look (enter T (i + 1) ts as ⟨tm', hp'⟩).tm k = if i ≤ k ∧ k < i + (x :: as).length then some (avOf T k ((t :: ts).getD (k - i) 0) ((x :: as).getD (k - i) default)) else look s.tm k) ∧
        (∀ k, look (enter T (i + 1) ts as ⟨tm', hp'⟩).hp k = if i ≤ k ∧ k < i + (x :: as).length ∧ (obOf ((x :: as).getD (k - i) default)).isSome = true then obOf ((x :: as).getD (k - i) default) else look s.hp k) := fun tm' hp' h1 h2 => by
      obtain ⟨a1, a2⟩ := enter_says (T := T) ts as (i + 1) ⟨tm', hp'⟩ hl'
      refine ⟨fun k => ?_, fun k => ?_⟩
      · rw [a1]
        by_cases h : k = i
        · subst h
          rw [if_neg (by omega), h1, if_pos rfl, if_pos (by simp), Nat.sub_self]
          rfl
        · by_cases hk : i + 1 ≤ k ∧ k < i + 1 + as.length
          · rw [if_pos hk, if_pos (by simp; omega)]
            rw [show k - i = (k - (i + 1)) + 1 by omega]
            rfl
          · rw [if_neg hk, h1, if_neg h, if_neg (by simp; omega)]
      · rw [a2]
        by_cases h : k = i
        · subst h
          rw [if_neg (by omega), h2, Nat.sub_self]
          by_cases hx : (obOf x).isSome = true
          · rw [if_pos ⟨rfl, hx⟩, if_pos ⟨Nat.le_refl _, by simp, hx⟩]; rfl
          · rw [if_neg (fun h => hx h.2), if_neg (fun h => hx h.2.2)]
        · rw [show k - i = (k - i) by rfl]
          by_cases hk : i + 1 ≤ k ∧ k < i + 1 + as.length
          · have e : k - i = (k - (i + 1)) + 1 := by omega
            rw [e, List.getD_cons_succ]
            by_cases ho : (obOf (as.getD (k - (i + 1)) default)).isSome = true
            · rw [if_pos ⟨hk.1, hk.2, ho⟩, if_pos ⟨by omega, by simp; omega, ho⟩]
            · rw [if_neg (fun h => ho h.2.2), if_neg (fun h => ho h.2.2), h2, if_neg (fun e => h e.1)]
          · rw [if_neg (fun h => hk ⟨h.1, h.2.1⟩), h2, if_neg (fun e => h e.1), if_neg (fun e => by
              have h1 := e.1
              have h2 := e.2.1
              simp at h2
              omega)]
    cases x with
    | val g =>
      refine one (put s.tm i (view T t g)) s.hp (fun k => ?_) (fun k => ?_)
      · rw [look_put]
        by_cases h : k = i
        · subst h; simp [avOf]
        · rw [if_neg (fun e => h e.symm), if_neg h]
      · rw [if_neg (fun h => by cases h.2)]
    | ref t' g =>
      refine one (put s.tm i (.ptr i t' [])) (put s.hp i (.var t' g .ref)) (fun k => ?_) (fun k => ?_)
      · rw [look_put]
        by_cases h : k = i
        · subst h; simp [avOf]
        · rw [if_neg (fun e => h e.symm), if_neg h]
      · rw [look_put]
        by_cases h : k = i
        · subst h; simp [obOf]
        · rw [if_neg (fun e => h e.symm), if_neg (fun e => h e.1)]
    | ro t' g =>
      refine one (put s.tm i (.ro t' g)) s.hp (fun k => ?_) (fun k => ?_)
      · rw [look_put]
        by_cases h : k = i
        · subst h; simp [avOf]
        · rw [if_neg (fun e => h e.symm), if_neg h]
      · rw [if_neg (fun h => by cases h.2)]
    | fn f cs =>
      refine one (put s.tm i (.fn f (mp capOf cs))) s.hp (fun k => ?_) (fun k => ?_)
      · rw [look_put]
        by_cases h : k = i
        · subst h; simp [avOf]
        · rw [if_neg (fun e => h e.symm), if_neg h]
      · rw [if_neg (fun h => by cases h.2)]
  | [], _ :: _, _, _, h => by cases h
  | _ :: _, [], _, _, h => by cases h
section
variable {P : Program} {T : Tab} {I : Nat → Nat → Option Value} {w : World}
theorem ArgsR.lens : ∀ {ts : List TypeId} {vs : List Value} {as : List A}, ArgsR P T I w ts vs as → ts.length = as.length ∧ vs.length = as.length
  | [], [], [], _ => ⟨rfl, rfl⟩
  | t :: ts, v :: vs, x :: as, h => by
    obtain ⟨a, b⟩ := ArgsR.lens h.2
    exact ⟨by simp [a], by simp [b]⟩
  | [], [], _ :: _, h => h.elim
  | [], _ :: _, [], h => h.elim
  | [], _ :: _, _ :: _, h => h.elim
  | _ :: _, [], [], h => h.elim
  | _ :: _, [], _ :: _, h => h.elim
  | _ :: _, _ :: _, [], h => h.elim
theorem ArgsR.at : ∀ {ts : List TypeId} {vs : List Value} {as : List A}, ArgsR P T I w ts vs as → ∀ k, k < as.length → AR P T I w (ts.getD k 0) (vs.getD k undef) (as.getD k default)
  | t :: ts, v :: vs, x :: as, h, 0, _ => h.1
  | t :: ts, v :: vs, x :: as, h, k + 1, hk => by
    have := ArgsR.at h.2 k (by simpa using hk)
    simpa using this
  | [], [], [], _, k, hk => by simp at hk
  | [], [], _ :: _, h, _, _ => h.elim
  | [], _ :: _, [], h, _, _ => h.elim
  | [], _ :: _, _ :: _, h, _, _ => h.elim
  | _ :: _, [], [], h, _, _ => h.elim
  | _ :: _, [], _ :: _, h, _, _ => h.elim
  | _ :: _, _ :: _, [], h, _, _ => h.elim
/-- A pointer that is handed in. -/
def RefAt (vs : List Value) (as : List A) (k b : Nat) : Prop := vs.getD k undef = .pointer (some ⟨b, 0, none⟩) ∧ ∃ t g, as.getD k default = .ref t g ∧ k < as.length
theorem refB_cons (v : Value) (vs : List Value) (x : A) (as : List A) : refB (v :: vs) (x :: as) = refB vs as ∨ ∃ ad t g, v = .pointer (some ad) ∧ x = .ref t g ∧ refB (v :: vs) (x :: as) = ad.block :: refB vs as := by
  cases x with
  | val g => exact .inl (by cases v <;> first | rfl | (rename_i x; cases x <;> rfl))
  | ro t g => exact .inl (by cases v <;> first | rfl | (rename_i x; cases x <;> rfl))
  | fn f c => exact .inl (by cases v <;> first | rfl | (rename_i x; cases x <;> rfl))
  | ref t g =>
    cases v with
    | pointer o => cases o with
      | none => exact .inl rfl
      | some ad => exact .inr ⟨ad, t, g, rfl, rfl, rfl⟩
    | _ => exact .inl rfl
theorem RefAt.mem : ∀ {vs : List Value} {as : List A} {k b : Nat}, RefAt vs as k b → b ∈ refB vs as
  | [], as, k, b, h => by have := h.1; simp at this; cases this
  | v :: vs, [], k, b, h => by obtain ⟨_, t, g, _, h3⟩ := h; simp at h3
  | v :: vs, x :: as, 0, b, h => by
    obtain ⟨h1, t, g, h2, _⟩ := h
    simp at h1 h2
    subst h1 h2
    simp [refB]
  | v :: vs, x :: as, k + 1, b, h => by
    obtain ⟨h1, t, g, h2, h3⟩ := h
    have := RefAt.mem (vs := vs) (as := as) (k := k) (b := b) ⟨by simpa using h1, t, g, by simpa using h2, by simpa using h3⟩
    rcases refB_cons v vs x as with e | ⟨ad, t, g, _, _, e⟩
    · rw [e]; exact this
    · rw [e]; exact List.mem_cons_of_mem _ this
theorem RefAt.one : ∀ {vs : List Value} {as : List A} {k k' b : Nat}, (refB vs as).Nodup → RefAt vs as k b → RefAt vs as k' b → k = k'
  | [], as, k, k', b, _, h, _ => by have := h.1; simp at this; cases this
  | v :: vs, [], k, k', b, _, h, _ => by obtain ⟨_, t, g, _, h3⟩ := h; simp at h3
  | v :: vs, x :: as, 0, 0, b, _, _, _ => rfl
  | v :: vs, x :: as, 0, k + 1, b, hn, h, h' => by
    obtain ⟨h1, t, g, h2, _⟩ := h
    simp at h1 h2
    subst h1 h2
    obtain ⟨h1, t, g, h2, h3⟩ := h'
    have := RefAt.mem (vs := vs) (as := as) (k := k) (b := b) ⟨by simpa using h1, t, g, by simpa using h2, by simpa using h3⟩
    simp only [refB] at hn
    exact absurd this (List.nodup_cons.1 hn).1
  | v :: vs, x :: as, k + 1, 0, b, hn, h', h => by
    obtain ⟨h1, t, g, h2, _⟩ := h
    simp at h1 h2
    subst h1 h2
    obtain ⟨h1, t, g, h2, h3⟩ := h'
    have := RefAt.mem (vs := vs) (as := as) (k := k) (b := b) ⟨by simpa using h1, t, g, by simpa using h2, by simpa using h3⟩
    simp only [refB] at hn
    exact absurd this (List.nodup_cons.1 hn).1
  | v :: vs, x :: as, k + 1, k' + 1, b, hn, h, h' => by
    obtain ⟨h1, t, g, h2, h3⟩ := h
    obtain ⟨h1', t', g', h2', h3'⟩ := h'
    have hn' : (refB vs as).Nodup := by
      rcases refB_cons v vs x as with e | ⟨ad, t, g, _, _, e⟩
      · rw [e] at hn; exact hn
      · rw [e] at hn; exact (List.nodup_cons.1 hn).2
    have := RefAt.one (vs := vs) (as := as) (k := k) (k' := k') (b := b) hn' ⟨by simpa using h1, t, g, by simpa using h2, by simpa using h3⟩ ⟨by simpa using h1', t', g', by simpa using h2', by simpa using h3'⟩
    omega
theorem refB_lt : ∀ {ts : List TypeId} {vs : List Value} {as : List A}, ArgsR P T I w ts vs as → ∀ b ∈ refB vs as, b < w.heap.size
  | [], [], [], _, b, hb => by simp [refB] at hb
  | t :: ts, v :: vs, x :: as, h, b, hb => by
    rcases refB_cons v vs x as with e | ⟨ad, t1, g, rfl, rfl, e⟩
    · rw [e] at hb; exact refB_lt h.2 b hb
    · rw [e] at hb
      rcases List.mem_cons.1 hb with rfl | hb
      · obtain ⟨b', h1, cs, t', h2, _⟩ := h.1
        cases h1
        exact blk_lt_of h2
      · exact refB_lt h.2 b hb
  | [], [], _ :: _, h, _, _ => h.elim
  | [], _ :: _, [], h, _, _ => h.elim
  | [], _ :: _, _ :: _, h, _, _ => h.elim
  | _ :: _, [], [], h, _, _ => h.elim
  | _ :: _, [], _ :: _, h, _, _ => h.elim
  | _ :: _, _ :: _, [], h, _, _ => h.elim
theorem caps_AVRs {gh : Gh} (hI : gh.I = I) : ∀ {vs : List Value} {cs : List A}, CapsR P T I vs cs → AVRs P T gh vs (mp capOf cs)
  | [], [], _ => trivial
  | v :: vs, c :: cs, h => by
    refine ⟨?_, caps_AVRs hI h.2⟩
    have h1 := h.1
    cases c with
    | ro t g => obtain ⟨b, off, h2, h3⟩ := h1; exact ⟨b, off, h2, by rw [hI]; exact h3⟩
    | _ => exact h1.elim
  | [], _ :: _, h => h.elim
  | _ :: _, [], h => h.elim
theorem refs_caps : ∀ (cs : List A), refsL (mp capOf cs) = []
  | [] => rfl
  | c :: cs => by
    simp only [mp, refsL, cat_eq, refs_caps cs, List.append_nil]
    cases c <;> rfl
def rootOf : A → Root
  | .ref t _ => .var t
  | _ => .var 0
/-- The state that a call begins with. -/
theorem enter_SR {E : Env} (hT : tabOk E.P E.T = true) {ts : List TypeId} {vs : List Value} {as : List A} (hA : ArgsR E.P E.T I w ts vs as) (hI : ∀ b off v, I b off = some v → w.cell? ⟨b, off, none⟩ = some v) (hn : (refB vs as).Nodup) {tmps : Array Value} (hs : tmps.size = E.nt) (hv : ∀ k, k < vs.length → tmps.getD k undef = vs.getD k undef) :
    SR E (refB vs as) I w { I := I, V := fun o => vs.getD o undef, Y := fun o => rootOf (as.getD o default) } { tmps := tmps, defers := [] } w (Rf.enter E.T 0 ts as { tm := [], hp := [] }) := by
  obtain ⟨hl1, hl2⟩ := hA.lens
  obtain ⟨e1, e2⟩ := enter_says (T := E.T) ts as 0 { tm := [], hp := [] } hl1
  have hobj : ∀ o ob, look (Rf.enter E.T 0 ts as { tm := [], hp := [] }).hp o = some ob → o < as.length ∧ ∃ t g b, as.getD o default = .ref t g ∧ ob = .var t g .ref ∧ RefAt vs as o b ∧ VarAt E.P E.T I w b t g := by
    intro o ob ho
    rw [e2] at ho
    split at ho
    · rename_i hc
      obtain ⟨_, h2, h3⟩ := hc
      rw [Nat.sub_zero] at ho h3
      have hlt : o < as.length := by omega
      have hA' := hA.at o hlt
      cases hx : as.getD o default with
      | ref t g =>
        rw [hx] at ho hA'
        obtain ⟨b, h4, h5⟩ := hA'
        simp only [obOf, Option.some.injEq] at ho
        exact ⟨hlt, t, g, b, rfl, ho.symm, ⟨h4, t, g, hx, hlt⟩, h5⟩
      | val g => rw [hx] at ho; cases ho
      | ro t g => rw [hx] at ho; cases ho
      | fn f c => rw [hx] at ho; cases ho
    · simp [look] at ho
  have htm : ∀ t av, look (Rf.enter E.T 0 ts as { tm := [], hp := [] }).tm t = some av → t < as.length ∧ av = avOf E.T t (ts.getD t 0) (as.getD t default) := by
    intro t av ht
    rw [e1] at ht
    split at ht
    · rename_i hc
      rw [Nat.sub_zero] at ht
      exact ⟨by omega, by simpa using ht.symm⟩
    · simp [look] at ht
  refine ⟨⟨Upto.refl _ _, hI, fun _ _ _ h => h, fun _ _ _ => rfl, fun b hb => refB_lt hA b hb, fun o ob ho => ?_, fun o o' ob ob' b hne h1 h2 _ _ hb hb' => ?_⟩, fun t av ht => ?_, fun t av ht o ho => ?_, rfl, hs⟩
  · obtain ⟨hlt, t, g, b, h1, rfl, h2, h3⟩ := hobj o ob ho
    refine ⟨?_, b, h2.1, h2.mem, h3⟩
    show rootOf (as.getD o default) = _
    rw [h1]; rfl
  · obtain ⟨_, t, g, b1, _, _, r1, _⟩ := hobj o ob h1
    obtain ⟨_, t', g', b2, _, _, r2, _⟩ := hobj o' ob' h2
    have x1 : b1 = b := by
      have : blkV (vs.getD o undef) = some b := hb
      rw [r1.1] at this
      simpa [blkV] using this
    have x2 : b2 = b := by
      have : blkV (vs.getD o' undef) = some b := hb'
      rw [r2.1] at this
      simpa [blkV] using this
    subst x1
    subst x2
    exact hne (RefAt.one hn r1 r2)
  · obtain ⟨hlt, rfl⟩ := htm t av ht
    have hA' := hA.at t hlt
    show AVR E.P E.T _ (tmps.getD t undef) _
    rw [hv t (by omega)]
    cases hx : as.getD t default with
    | val g =>
      rw [hx] at hA'
      exact view_AVR hT hA'
    | ref t' g =>
      rw [hx] at hA'
      obtain ⟨b, h4, h5⟩ := hA'
      refine ⟨b, 0, 1, 0, ?_, ?_, h4⟩
      · show baseV (vs.getD t undef) = _
        rw [h4]; rfl
      · show pathD _ _ (rootOf (as.getD t default)) _ _ = _
        rw [hx]; rfl
    | ro t' g =>
      rw [hx] at hA'
      exact hA'
    | fn f cs =>
      rw [hx] at hA'
      obtain ⟨cvs, h4, h5⟩ := hA'
      exact ⟨cvs, h4, caps_AVRs rfl h5⟩
  · obtain ⟨hlt, rfl⟩ := htm t av ht
    cases hx : as.getD t default with
    | val g => rw [hx] at ho; simp only [avOf, refs_view] at ho; cases ho
    | ref t' g =>
      rw [hx] at ho
      simp only [avOf, refs, List.mem_singleton] at ho
      subst ho
      rw [e2, Nat.sub_zero, hx, if_pos ⟨Nat.zero_le _, by omega, rfl⟩]
      rfl
    | ro t' g => rw [hx] at ho; cases ho
    | fn f cs =>
      rw [hx] at ho
      simp only [avOf, refs, refs_caps] at ho
      cases ho
end
/-! ## calls -/
def fnOk (fn : Func) : Bool :=
  !(fn.name == "runtime.NumGoroutine") && (match fn.body with | none => true | some _ => Nat.ble (fn.params.size + fn.nfree) fn.ntmps)
def progOk (P : Program) : Bool := every fnOk P.funcs.toList && P.follows .mixedOrders
theorem progOk_at {P : Program} (h : progOk P = true) {f : FuncId} {fn : Func} (hf : P.funcs[f]? = some fn) : (fn.name == "runtime.NumGoroutine") = false ∧ (∀ c, fn.body = some c → fn.params.size + fn.nfree ≤ fn.ntmps) := by
  simp only [progOk, Bool.and_eq_true] at h
  have := (every_iff _ _).1 h.1 fn (Array.mem_toList_iff.2 (Array.mem_of_getElem? hf))
  simp only [fnOk, Bool.and_eq_true, Bool.not_eq_true'] at this
  refine ⟨this.1, fun c hc => ?_⟩
  have h2 := this.2
  rw [hc] at h2
  exact Nat.le_of_ble_eq_true h2
theorem run_good {P : Program} {T : Tab} {own : FuncId → Option Nat} {ext : FuncId → Option (List A → Option R)} (hP : progOk P = true) (hT : tabOk P T = true) (hext : ∀ f F, ext f = some F → ∀ as r, F as = some r → Good P T own f as r) : ∀ (n : Nat) (f : FuncId) (as : List A) (r : R), run P T own ext n f as = some r → Good P T own f as r
  | 0, f, as, r, h => by cases h
  | n + 1, f, as, r, h => by
    have h' : step P T own ext (run P T own ext n) n f as = some r := h
    unfold step at h'
    split at h'
    · rename_i F hF
      exact hext f F hF as r h'
    · split at h'
      · cases h'
      · rename_i fn0 hfn0
        split at h'
        · cases h'
        · rename_i c hc
          intro fn hfn w I vs hA hI hn
          have : fn0 = fn := by
            rw [atL_eq] at hfn0
            have : P.funcs.toList[f]? = some fn := by simpa using hfn
            rw [this] at hfn0
            exact (Option.some.inj hfn0).symm
          subst this
          have hE : Fits { P := P, T := T, call := run P T own ext n, own := own, nt := fn0.ntmps } := {
            tab := hT
            good := fun f as r h => run_good hP hT hext n f as r h
            names := fun f fn hf => (progOk_at hP hf).1
            mixed := by simp only [progOk, Bool.and_eq_true] at hP; exact hP.2 }
          obtain ⟨hl1, hl2⟩ := hA.lens
          have hlen : vs.length ≤ fn0.ntmps := by
            have h1 := (progOk_at hP hfn).2 c hc
            have h2 : (fn0.params.toList ++ List.replicate fn0.nfree 0).length = fn0.params.size + fn0.nfree := by simp
            omega
          refine calls_of_wp hfn hc ?_
          rw [cat_eq] at h'
          have hst := enter_SR (E := { P := P, T := T, call := run P T own ext n, own := own, nt := fn0.ntmps }) hT hA hI hn (tmps := vs.toArray ++ Array.replicate (fn0.ntmps - vs.toArray.size) undef) (by simp; omega) (fun k hk => by
            simp [Array.getElem?_append, hk])
          refine do_code hE n _ c [] _ [] ⟨fun gh a w' s hs hf => ?_, fun id x hx => (by cases hx), fun gh a w' s hs hf => ?_⟩ hst h'
          · exact do_finish hT hA hs hf
          · exact do_finish hT hA hs hf
end Go.Proofs.Ytihipeicmbgegaa.Rf

namespace Go.Proofs.Ytihipeicmbgegaa.Rf
open Go Go.RowKit Go.ChangeShapes Go.WideShapes
set_option linter.unusedVariables false
set_option linter.unusedSimpArgs false
/-- What data of a type may be. -/
inductive WG (T : Tab) : TypeId → G → Prop
  | int {t k n} : ty T t = .int k → (Lit.int k n).wf = true → WG T t (.int k n)
  | bool {t b} : ty T t = .bool → WG T t (.bool b)
  | str {t l} : ty T t = .str → l.length ≤ maxLen → WG T t (.str l)
  | tu {t ts gs} : ty T t = .tu ts → gs.length = ts.length → (∀ i (h : i < ts.length) (h' : i < gs.length), WG T ts[i] gs[i]) → WG T t (.tu gs)
  | arr {t n e gs} : ty T t = .arr n e → gs.length = n → (∀ i (h : i < gs.length), WG T e gs[i]) → WG T t (.tu gs)
  | sl {t e es} : ty T t = .sl e → es.length ≤ maxLen → (∀ g ∈ es, WG T e g) → WG T t (.sl es)
/-- Are all parts of the table's types in the table? -/
def tabShut (T : Tab) : Bool := every (fun x => match x.2 with | .tu ts => every (known T) ts | .arr _ e => known T e | .sl e => known T e | _ => true) T
def I0of (w : World) : Nat → Nat → Option Value := fun b off => w.cell? ⟨b, off, none⟩
section
variable {P : Program} {T : Tab} {w : World} {H : Type} {enc : TypeId × Value → H} {base : Nat} {spare : Nat → Bool} {held : Bool}
theorem known_iff {t : TypeId} : known T t = true ↔ ty T t ≠ .other := by
  unfold known
  cases ty T t <;> simp
theorem shut_at (h : tabShut T = true) {t : TypeId} : (∀ ts, ty T t = .tu ts → ∀ i (hi : i < ts.length), ty T ts[i] ≠ .other) ∧ (∀ n e, ty T t = .arr n e → ty T e ≠ .other) ∧ (∀ e, ty T t = .sl e → ty T e ≠ .other) := by
  have key : ∀ y, ty T t = y → y ≠ .other → (t, y) ∈ T := by
    intro y hy hne
    unfold ty at hy
    cases hl : look T t with
    | none => rw [hl] at hy; exact absurd hy.symm hne
    | some z =>
      rw [hl] at hy
      obtain rfl : z = y := hy
      exact mem_of_look hl
  refine ⟨fun ts ht i hi => ?_, fun n e ht => ?_, fun e ht => ?_⟩
  · have := (every_iff _ _).1 h _ (key _ ht (by simp))
    exact known_iff.1 ((every_iff _ _).1 this _ (List.getElem_mem hi))
  · exact known_iff.1 ((every_iff _ _).1 h _ (key _ ht (by simp)))
  · exact known_iff.1 ((every_iff _ _).1 h _ (key _ ht (by simp)))
theorem choose_gs {n : Nat} {Q : Nat → G → Prop} (h : ∀ i, i < n → ∃ g, Q i g) : ∃ gs : List G, gs.length = n ∧ ∀ i (hi : i < gs.length), Q i gs[i] := by
  induction n with
  | zero => exact ⟨[], rfl, fun i hi => by simp at hi⟩
  | succ n ih =>
    obtain ⟨gs, h1, h2⟩ := ih fun i hi => h i (by omega)
    obtain ⟨g, hg⟩ := h n (by omega)
    refine ⟨gs ++ [g], by simp [h1], fun i hi => ?_⟩
    by_cases e : i < gs.length
    · rw [List.getElem_append_left e]; exact h2 i e
    · have : i = n := by simp at hi; omega
      subst this
      rw [List.getElem_append_right (by omega)]
      simp [h1, hg]
theorem cell_spot {a : Addr} {v : Value} (h : w.cell? a = some v) : a.spot = none := by
  unfold World.cell? at h
  split at h
  · split at h
    · cases h
    · rename_i hs
      cases hq : a.spot with
      | none => rfl
      | some x => rw [hq] at hs; simp at hs
  · cases h
theorem add_eq {a : Addr} (h : a.spot = none) (n : Nat) : a.add n = ⟨a.block, a.off + n, none⟩ := by
  obtain ⟨b, o, s⟩ := a
  simp only at h
  subst h
  unfold Addr.add
  split
  · subst_vars; rfl
  · rfl
theorem trod_CR (hT : tabOk P T = true) (hS : tabShut T = true) : ∀ (fuel : Nat) (t : TypeId) (cs : List Value) (x : DataW H × List MemPlace), ty T t ≠ .other → DataW.trod enc P w base spare held fuel t cs = some x → ∃ g, CR P T (I0of w) t (fun j => cs[j]?) g ∧ WG T t g := by
  intro fuel
  induction fuel using Nat.strongRecOn with
  | _ fuel ih =>
    intro t cs x hk h
    cases hy : ty T t with
    | int k =>
      obtain ⟨n, rfl, _, hw⟩ := DataW.trod_int (und_int hT hy) h
      exact ⟨.int k n, .int hy rfl, .int hy hw⟩
    | bool =>
      obtain ⟨b, rfl, _⟩ := DataW.trod_bool (und_bool hT hy) h
      exact ⟨.bool b, .bool hy rfl, .bool hy⟩
    | str =>
      obtain ⟨s, rfl, _, hw⟩ := DataW.trod_string (und_str hT hy) h
      refine ⟨.str s.data.toList, .str hy ?_, .str hy ?_⟩
      · obtain ⟨⟨l⟩⟩ := s; rfl
      · rw [Array.length_toList]; exact hw
    | tu ts =>
      obtain ⟨fs, hu, hts, _, hf⟩ := und_tu hT hy
      obtain ⟨xs, n, rfl, _, hlen, hxl, hx⟩ := DataW.trod_struct hu h
      have hfl : fs.size = ts.length := by rw [← hts]; simp
      have each : ∀ i, i < ts.length → ∃ g, ∀ (hi : i < ts.length), CR P T (I0of w) ts[i] (fun j => cs[offs P ts i + j]?) g ∧ WG T ts[i] g := by
        intro i hi
        have hfi : fs[i]? = some fs[i] := Array.getElem?_eq_getElem (by omega)
        obtain ⟨ho, hti, _, _⟩ := hf i _ hfi
        have htt : fs[i].type = ts[i] := by
          have := List.getElem?_eq_some_iff.1 hti
          exact this.2.symm
        have hxi := hx i _ hfi
        rw [htt, ho] at hxi
        obtain ⟨z, hz⟩ : ∃ z, xs[i]? = some z := ⟨xs[i]'(by omega), List.getElem?_eq_getElem (by omega)⟩
        rw [hz] at hxi
        obtain ⟨g, h1, h2⟩ := ih n (by omega) ts[i] _ z ((shut_at hS).1 ts hy i hi) hxi
        refine ⟨g, fun _ => ⟨h1.mono (fun _ _ _ h => h) fun j v hv => ?_, h2⟩⟩
        rw [List.getElem?_take] at hv
        split at hv
        · rwa [List.getElem?_drop] at hv
        · cases hv
      obtain ⟨gs, hl, hg⟩ := choose_gs each
      exact ⟨.tu gs, .tu hy hl fun i h1 h2 => (hg i h2 h1).1, .tu hy hl fun i h1 h2 => (hg i h2 h1).2⟩
    | arr n e =>
      have hu := und_arr hT hy
      obtain ⟨xs, m, rfl, _, hlen, hxl, hx⟩ := DataW.trod_array hu h
      have each : ∀ i, i < n → ∃ g, CR P T (I0of w) e (fun j => cs[i * sz P e + j]?) g ∧ WG T e g := by
        intro i hi
        have hxi := hx i hi
        obtain ⟨z, hz⟩ : ∃ z, xs[i]? = some z := ⟨xs[i]'(by omega), List.getElem?_eq_getElem (by omega)⟩
        rw [hz] at hxi
        obtain ⟨g, h1, h2⟩ := ih m (by omega) e _ z ((shut_at hS).2.1 n e hy) hxi
        refine ⟨g, h1.mono (fun _ _ _ h => h) fun j v hv => ?_, h2⟩
        rw [List.getElem?_take] at hv
        split at hv
        · rwa [List.getElem?_drop] at hv
        · cases hv
      obtain ⟨gs, hl, hg⟩ := choose_gs each
      exact ⟨.tu gs, .arr hy hl fun i h => (hg i h).1, .arr hy hl fun i h => (hg i h).2⟩
    | sl e =>
      obtain ⟨hu, hpos, _⟩ := und_sl hT hy
      rcases DataW.trod_slice hu h with ⟨rfl, _⟩ | ⟨a, len, cap, elems, rest, n, rfl, rfl, _, _, hl, hm, hlen, hel, _, _⟩
      · exact ⟨.sl [], .nil hy rfl, .sl hy (Nat.zero_le _) fun g hg => by cases hg⟩
      · cases len with
        | zero => exact ⟨.sl [], .nil hy rfl, .sl hy (Nat.zero_le _) fun g hg => by cases hg⟩
        | succ len =>
          have cells : ∀ i, i < len + 1 → ∃ cs' z, (w.cells? base (a.add (i * sz P e)) (sz P e)) = some cs' ∧ DataW.trod enc P w base spare held n e cs' = some z := by
            intro i hi
            have hb := hel i hi
            obtain ⟨z, hz⟩ : ∃ z, elems[i]? = some z := ⟨elems[i]'(by omega), List.getElem?_eq_getElem (by omega)⟩
            rw [hz, Option.bind_eq_some_iff] at hb
            obtain ⟨cs', h1, h2⟩ := hb
            exact ⟨cs', z, h1, h2⟩
          have hspot : a.spot = none := by
            obtain ⟨cs', z, h1, _⟩ := cells 0 (by omega)
            obtain ⟨_, h2, h3⟩ := World.cells?_some h1
            have := h3 0 hpos
            rw [Nat.zero_mul] at this
            have h4 : (a.add 0).add 0 = a := by simp [Addr.add]
            rw [h4] at this
            obtain ⟨v, hv⟩ : ∃ v, cs'[0]? = some v := ⟨cs'[0]'(by omega), List.getElem?_eq_getElem (by omega)⟩
            rw [hv] at this
            exact cell_spot this
          have each : ∀ i, i < len + 1 → ∃ g, CR P T (I0of w) e (fun j => I0of w a.block (a.off + i * sz P e + j)) g ∧ WG T e g := by
            intro i hi
            obtain ⟨cs', z, h1, h2⟩ := cells i hi
            obtain ⟨g, h3, h4⟩ := ih n (by omega) e _ z ((shut_at hS).2.2 e hy) h2
            obtain ⟨_, h5, h6⟩ := World.cells?_some h1
            refine ⟨g, h3.mono (fun _ _ _ h => h) fun j v hv => ?_, h4⟩
            have hj : j < sz P e := by
              have := (List.getElem?_eq_some_iff.1 hv).1
              omega
            have h7 := h6 j hj
            rw [hv, add_eq hspot, add_eq rfl] at h7
            exact h7
          obtain ⟨gs, hgl, hg⟩ := choose_gs each
          obtain ⟨b, off, sp⟩ := a
          simp only at hspot
          subst hspot
          refine ⟨.sl gs, .sl (b := b) (off := off) (c := cap) hy ?_ (by omega) fun i h => (hg i h).1, .sl hy (by omega) fun g hgm => ?_⟩
          · rw [hgl]; rfl
          · obtain ⟨i, hi, rfl⟩ := List.getElem_of_mem hgm
            exact (hg i hi).2
    | other => exact absurd hy hk
theorem trod_VR (hT : tabOk P T = true) (hS : tabShut T = true) {t : TypeId} {v : Value} {d : DataW H} {p : List MemPlace} {r : Reach} {b : Nat} (hk : ty T t ≠ .other) (h : DataW.Trod enc P w base spare held t v d p) (ho : Value.okWide P w r b t v) : ∃ g, VR P T (I0of w) t v g ∧ WG T t g := by
  obtain ⟨fuel, hf⟩ := h
  obtain ⟨g, h1, h2⟩ := trod_CR hT hS fuel t _ _ hk hf
  refine ⟨g, ⟨by simpa using h1, ?_, ?_⟩, h2⟩
  · cases hy : ty T t with
    | int k => obtain ⟨n, rfl⟩ := okWide_int (und_int hT hy) ho; rw [scalar_size hT hy (by simp) rfl]; rfl
    | bool => obtain ⟨n, rfl⟩ := okWide_bool (und_bool hT hy) ho; rw [scalar_size hT hy (by simp) rfl]; rfl
    | str => obtain ⟨n, rfl⟩ := okWide_string (und_str hT hy) ho; rw [scalar_size hT hy (by simp) rfl]; rfl
    | sl e => obtain ⟨a, l, c, rfl⟩ := okWide_slice (und_sl hT hy).1 ho; rw [scalar_size hT hy (by simp) rfl]; rfl
    | tu ts =>
      obtain ⟨fs, hu, _⟩ := und_tu hT hy
      obtain ⟨cs, rfl, h3⟩ := okWide_struct hu ho
      exact h3
    | arr n e =>
      have hu := und_arr hT hy
      simp only [Value.okWide, hu] at ho
      obtain ⟨cs, rfl, h3, _⟩ := ho
      exact h3
    | other => exact absurd hy hk
  · cases hy : ty T t with
    | int k => obtain ⟨n, rfl⟩ := okWide_int (und_int hT hy) ho; rfl
    | bool => obtain ⟨n, rfl⟩ := okWide_bool (und_bool hT hy) ho; rfl
    | str => obtain ⟨n, rfl⟩ := okWide_string (und_str hT hy) ho; rfl
    | sl e => obtain ⟨a, l, c, rfl⟩ := okWide_slice (und_sl hT hy).1 ho; rfl
    | tu ts =>
      obtain ⟨fs, hu, _⟩ := und_tu hT hy
      obtain ⟨cs, rfl, h3⟩ := okWide_struct hu ho
      rfl
    | arr n e =>
      have hu := und_arr hT hy
      simp only [Value.okWide, hu] at ho
      obtain ⟨cs, rfl, h3, _⟩ := ho
      rfl
    | other => exact absurd hy hk
/-- The arguments of a row. -/
def WGs (T : Tab) : List TypeId → List G → Prop
  | [], [] => True
  | t :: ts, g :: gs => WG T t g ∧ WGs T ts gs
  | _, _ => False
theorem trods_ArgsR (hT : tabOk P T = true) (hS : tabShut T = true) {r : Reach} {b : Nat} : ∀ (ts : List TypeId) (vs : List Value) (ds : List (DataW H)) (p : List MemPlace), every (known T) ts = true → DataW.TrodAll enc P w base spare held ts vs ds p → (∀ (j : Nat) t v, ts[j]? = some t → vs[j]? = some v → Value.okWide P w r b t v) →
    ∃ gs, ArgsR P T (I0of w) w ts vs (gs.map A.val) ∧ WGs T ts gs
  | [], vs, ds, p, _, h, _ => by
    obtain ⟨rfl, rfl, rfl⟩ := trodAll_nil h
    exact ⟨[], trivial, trivial⟩
  | t :: ts, vs, ds, p, hk, h, ho => by
    obtain ⟨v, vs', d, ds', p', q, rfl, rfl, rfl, h1, h2⟩ := trodAll_cons h
    simp only [every, Bool.and_eq_true] at hk
    obtain ⟨g, h3, h4⟩ := trod_VR hT hS (known_iff.1 hk.1) h1 (ho 0 t v rfl rfl)
    obtain ⟨gs, h5, h6⟩ := trods_ArgsR hT hS ts vs' ds' q hk.2 h2 (fun j t v a b => ho (j + 1) t v (by simpa using a) (by simpa using b))
    exact ⟨g :: gs, ⟨h3, h5⟩, h4, h6⟩
theorem refB_vals : ∀ (vs : List Value) (gs : List G), refB vs (gs.map A.val) = []
  | [], gs => by simp [refB]
  | v :: vs, [] => by simp [refB]
  | v :: vs, g :: gs => by
    have : refB (v :: vs) ((g :: gs).map A.val) = refB vs (gs.map A.val) := by cases v <;> first | rfl | (rename_i x; cases x <;> rfl)
    rw [this, refB_vals vs gs]
theorem below_of_upto {w' : World} (h : Upto [] w w') : Below w.heap.size w w' :=
  ⟨h.os, h.tape, h.output, h.size, fun k hk => h.block k hk (by simp)⟩
/-- What a law that answers with a Bool comes to. -/
theorem law_calls {own : FuncId → Option Nat} {f : FuncId} {fn : Func} {vs : List Value} {gs : List G} {b : Bool} {fs : List G} (hT : tabOk P T = true) (hg : Good P T own f (gs.map A.val) (.bool b, fs)) (hf : P.funcs[f]? = some fn) (hn : fn.nfree = 0) {tb : TypeId} (hr : fn.resultTypes.toList = [tb]) (htb : ty T tb = .bool)
    (hA : ArgsR P T (I0of w) w fn.params.toList vs (gs.map A.val)) : Calls P f vs.toArray w fun e w' => e = .returned (.bool b) ∧ Below w.heap.size w w' := by
  have := hg fn hf w (I0of w) vs (by rw [hn]; simpa using hA) (fun _ _ _ h => h) (by rw [refB_vals]; exact List.nodup_nil)
  refine this.mono fun e w' ⟨v, I', he, _, _, _, hup, hres, _⟩ => ?_
  rw [refB_vals] at hup
  refine ⟨?_, below_of_upto hup⟩
  subst he
  rw [hr] at hres
  have ho : isOwn T (own f) 0 tb = false := by
    unfold isOwn
    cases own f with
    | none => rfl
    | some j => rw [htb]
  have h2 : VR P T I' tb v (.bool b) := by
    have h3 : ResAt P T I' w' w.heap.size (own f) 0 tb v (.bool b) := hres
    unfold ResAt at h3
    rw [ho] at h3
    simpa using h3
  have h4 : view T tb (.bool b) = .bool b := by simp [view, htb, G.toBool]
  have h5 := view_AVR (gh := { I := I', V := fun _ => undef, Y := fun _ => .var 0 }) hT h2
  rw [h4] at h5
  exact congrArg _ h5
end
end Go.Proofs.Ytihipeicmbgegaa.Rf

