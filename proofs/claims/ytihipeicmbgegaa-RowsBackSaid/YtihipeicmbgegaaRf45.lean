/- A reading of Go's code over plain data: code with places at which it is cut (joins), so that what follows is not said twice. No conditions. -/
import Derived.Test.YtihipeicmbgegaaRJa
namespace Go.Proofs.Ytihipeicmbgegaa.Rf
open Go
set_option linter.unusedVariables false
variable {α : Type}
def inL : List (List Nat) → List Nat → Bool
  | [], _ => false
  | x :: r, q => eqL x q || inL r q
/-- Code, as it is, but for the second parts of sequences whose places are named: there T is asked. (q: the place, p: the place with the rounds of the loops around.) -/
def codeS (E : Env) (n : Nat) (st : List (List Nat)) (T : List Nat → St → Option α) : AC → List Nat → List Nat → Ks α → St → Option α
  | .skip m, _, _, k, s => k.nx (clean m s)
  | .region ops d m, _, _, k, s => region E ops d s fun s => k.nx (clean m s)
  | .seq a b, q, p, k, s => codeS E n st T a (0 :: q) (0 :: p) { nx := fun s => cnd (inL st (1 :: q)) (T (1 :: p) s) (codeS E n st T b (1 :: q) (1 :: p) k s), ex := k.ex, rt := k.rt } s
  | .cond c a b ma mb, q, p, k, s => match getOp s.tm c with
    | .bool x => cnd x (codeS E n st T a (0 :: q) (0 :: p) k (clean ma (saidOp c true s))) (codeS E n st T b (1 :: q) (1 :: p) k (clean mb (saidOp c false s)))
    | _ => none
  | .block id c, q, p, k, s => codeS E n st T c (1 :: q) (1 :: p) { nx := k.nx, ex := (id, k.nx) :: k.ex, rt := k.rt } s
  | .loop c m l, _, _, k, s => iter n l (fun ih s => code E n c { nx := ih, ex := k.ex, rt := k.rt } s) (clean m s)
  | .exit id m, _, _, k, s => match look k.ex id with
    | some x => x (clean m s)
    | none => none
  | .ret m, _, _, k, s => k.rt (clean m s)
  | .bad, _, _, _, _ => none
def zeroB : Nat → Bool
  | 0 => true
  | _ + 1 => false
/-- The code at a place, and what follows it: as place says, but looked at by the code first. -/
def placeC (E : Env) (n : Nat) : AC → List Nat → Ks α → AC × Ks α
  | .seq a b, p, k => match p with
    | [] => (.seq a b, k)
    | i :: r => match zeroB i with
      | true => placeC E n a r { nx := fun s => code E n b k s, ex := k.ex, rt := k.rt }
      | false => placeC E n b r k
  | .cond c a b ma mb, p, k => match p with
    | [] => (.cond c a b ma mb, k)
    | i :: r => match zeroB i with
      | true => placeC E n a r k
      | false => placeC E n b r k
  | .block id c, p, k => match p with
    | [] => (.block id c, k)
    | _ :: r => placeC E n c r { nx := k.nx, ex := (id, k.nx) :: k.ex, rt := k.rt }
  | .loop c m l, p, k => match p with
    | [] => (.loop c m l, k)
    | i :: r => placeC E n c r (loopKs E n i c l k)
  | c, _, k => (c, k)
def placeS (E : Env) (n : Nat) (st : List (List Nat)) (T : List Nat → St → Option α) : AC → List Nat → List Nat → List Nat → Ks α → AC × List Nat × List Nat × Ks α
  | .seq a b, r, q, p, k => match r with
    | [] => (.seq a b, q, p, k)
    | i :: r => match zeroB i with
      | true => placeS E n st T a r (0 :: q) (0 :: p) { nx := fun s => cnd (inL st (1 :: q)) (T (1 :: p) s) (codeS E n st T b (1 :: q) (1 :: p) k s), ex := k.ex, rt := k.rt }
      | false => placeS E n st T b r (1 :: q) (1 :: p) k
  | .cond c a b ma mb, r, q, p, k => match r with
    | [] => (.cond c a b ma mb, q, p, k)
    | i :: r => match zeroB i with
      | true => placeS E n st T a r (0 :: q) (0 :: p) k
      | false => placeS E n st T b r (1 :: q) (1 :: p) k
  | .block id c, r, q, p, k => match r with
    | [] => (.block id c, q, p, k)
    | _ :: r => placeS E n st T c r (1 :: q) (1 :: p) { nx := k.nx, ex := (id, k.nx) :: k.ex, rt := k.rt }
  | .loop c m l, r, q, p, k => match r with
    | [] => (.loop c m l, q, p, k)
    | i :: r => placeS E n st T c r (0 :: q) (i :: p) (loopKs E n i c l k)
  | c, _, q, p, k => (c, q, p, k)
section
variable {E : Env} {n : Nat}
theorem place_nil (c : AC) (k : Ks α) : place E n [] c k = (c, k) := by cases c <;> rfl
theorem place_append : ∀ (p p' : List Nat) (c : AC) (k : Ks α), place E n (p ++ p') c k = place E n p' (place E n p c k).1 (place E n p c k).2
  | [], p', c, k => by rw [place_nil]; rfl
  | i :: r, p', c, k => by
    have leaf : ∀ c : AC, (∀ p k, place E n p c k = ((c, k) : AC × Ks α)) → place E n (i :: r ++ p') c k = place E n p' (place E n (i :: r) c k).1 (place E n (i :: r) c k).2 := fun c h => by rw [h, h, h]
    cases c with
    | skip m => exact leaf _ fun p k => by rcases p with _ | ⟨_ | i, t⟩ <;> rfl
    | region o d m => exact leaf _ fun p k => by rcases p with _ | ⟨_ | i, t⟩ <;> rfl
    | exit id m => exact leaf _ fun p k => by rcases p with _ | ⟨_ | i, t⟩ <;> rfl
    | ret m => exact leaf _ fun p k => by rcases p with _ | ⟨_ | i, t⟩ <;> rfl
    | bad => exact leaf _ fun p k => by rcases p with _ | ⟨_ | i, t⟩ <;> rfl
    | seq a b => cases i with
      | zero => exact place_append r p' a _
      | succ i => exact place_append r p' b _
    | cond c a b ma mb => cases i with
      | zero => exact place_append r p' a _
      | succ i => exact place_append r p' b _
    | block id c => cases i <;> exact place_append r p' c _
    | loop c m l => cases i <;> exact place_append r p' c _
theorem place_snoc {a0 c c' : AC} {k0 k k' : Ks α} {p : List Nat} {i : Nat} (h : place E n p.reverse a0 k0 = (c, k)) (h' : place E n [i] c k = (c', k')) : place E n (i :: p).reverse a0 k0 = (c', k') := by
  rw [List.reverse_cons, place_append, h]
  exact h'
theorem stop_eq {st : List (List Nat)} {T : List Nat → St → Option α} {a0 a b : AC} {k0 k : Ks α} {q p : List Nat} (hT : ∀ p s, T p s = code E n (place E n p.reverse a0 k0).1 (place E n p.reverse a0 k0).2 s) (hp : place E n p.reverse a0 k0 = (.seq a b, k)) (ih : ∀ s, codeS E n st T b (1 :: q) (1 :: p) k s = code E n b k s) :
    (fun s => cnd (inL st (1 :: q)) (T (1 :: p) s) (codeS E n st T b (1 :: q) (1 :: p) k s)) = fun s => code E n b k s := by
  funext s
  have h1 : place E n (1 :: p).reverse a0 k0 = (b, k) := place_snoc hp (place_nil (E := E) (n := n) b k)
  cases inL st (1 :: q) with
  | true =>
    show T (1 :: p) s = _
    rw [hT, h1]
  | false => exact ih s
theorem codeS_eq {st : List (List Nat)} {T : List Nat → St → Option α} {a0 : AC} {k0 : Ks α} (hT : ∀ p s, T p s = code E n (place E n p.reverse a0 k0).1 (place E n p.reverse a0 k0).2 s) (c : AC) : ∀ (q p : List Nat) (k : Ks α) (s : St), place E n p.reverse a0 k0 = (c, k) → codeS E n st T c q p k s = code E n c k s := by
  induction c with
  | skip m => intro q p k s _; rfl
  | region o d m => intro q p k s _; rfl
  | exit id m => intro q p k s _; rfl
  | ret m => intro q p k s _; rfl
  | bad => intro q p k s _; rfl
  | loop c m l _ => intro q p k s _; rfl
  | seq a b iha ihb =>
    intro q p k s hp
    have h1 : place E n (1 :: p).reverse a0 k0 = (b, k) := place_snoc hp (place_nil (E := E) (n := n) b k)
    show codeS E n st T a (0 :: q) (0 :: p) { nx := fun s => cnd (inL st (1 :: q)) (T (1 :: p) s) (codeS E n st T b (1 :: q) (1 :: p) k s), ex := k.ex, rt := k.rt } s = code E n a { nx := fun s => code E n b k s, ex := k.ex, rt := k.rt } s
    rw [stop_eq hT hp fun s => ihb (1 :: q) (1 :: p) k s h1]
    exact iha _ _ _ _ (place_snoc hp (place_nil (E := E) (n := n) a _))
  | cond c a b ma mb iha ihb =>
    intro q p k s hp
    simp only [codeS, code]
    cases getOp s.tm c <;> try rfl
    rename_i x
    cases x with
    | true => exact iha _ _ _ _ (place_snoc hp (place_nil (E := E) (n := n) a k))
    | false => exact ihb _ _ _ _ (place_snoc hp (place_nil (E := E) (n := n) b k))
  | block id c ih =>
    intro q p k s hp
    exact ih _ _ _ _ (place_snoc hp (place_nil (E := E) (n := n) c _))
theorem placeC_eq (c : AC) : ∀ (p : List Nat) (k : Ks α), placeC E n c p k = place E n p c k := by
  induction c with
  | skip m => intro p k; rcases p with _ | ⟨_ | i, t⟩ <;> rfl
  | region o d m => intro p k; rcases p with _ | ⟨_ | i, t⟩ <;> rfl
  | exit id m => intro p k; rcases p with _ | ⟨_ | i, t⟩ <;> rfl
  | ret m => intro p k; rcases p with _ | ⟨_ | i, t⟩ <;> rfl
  | bad => intro p k; rcases p with _ | ⟨_ | i, t⟩ <;> rfl
  | seq a b iha ihb =>
    intro p k
    rcases p with _ | ⟨_ | i, t⟩
    · rfl
    · exact iha t _
    · exact ihb t _
  | cond c a b ma mb iha ihb =>
    intro p k
    rcases p with _ | ⟨_ | i, t⟩
    · rfl
    · exact iha t _
    · exact ihb t _
  | block id c ih =>
    intro p k
    rcases p with _ | ⟨_ | i, t⟩
    · rfl
    · exact ih t _
    · exact ih t _
  | loop c m l ih =>
    intro p k
    rcases p with _ | ⟨_ | i, t⟩
    · rfl
    · exact ih t _
    · exact ih t _
theorem placeS_eq {st : List (List Nat)} {T : List Nat → St → Option α} {a0 : AC} {k0 : Ks α} (hT : ∀ p s, T p s = code E n (place E n p.reverse a0 k0).1 (place E n p.reverse a0 k0).2 s) (c : AC) : ∀ (r : List Nat) (q p : List Nat) (k : Ks α), place E n p.reverse a0 k0 = (c, k) →
    (placeS E n st T c r q p k).1 = (place E n r c k).1 ∧ (placeS E n st T c r q p k).2.2.2 = (place E n r c k).2 ∧ place E n (placeS E n st T c r q p k).2.2.1.reverse a0 k0 = ((placeS E n st T c r q p k).1, (placeS E n st T c r q p k).2.2.2) := by
  induction c with
  | skip m => intro r q p k h; rcases r with _ | ⟨_ | i, t⟩ <;> exact ⟨rfl, rfl, h⟩
  | region o d m => intro r q p k h; rcases r with _ | ⟨_ | i, t⟩ <;> exact ⟨rfl, rfl, h⟩
  | exit id m => intro r q p k h; rcases r with _ | ⟨_ | i, t⟩ <;> exact ⟨rfl, rfl, h⟩
  | ret m => intro r q p k h; rcases r with _ | ⟨_ | i, t⟩ <;> exact ⟨rfl, rfl, h⟩
  | bad => intro r q p k h; rcases r with _ | ⟨_ | i, t⟩ <;> exact ⟨rfl, rfl, h⟩
  | seq a b iha ihb =>
    intro r q p k h
    have h1 : place E n (1 :: p).reverse a0 k0 = (b, k) := place_snoc h (place_nil (E := E) (n := n) b k)
    rcases r with _ | ⟨_ | i, t⟩
    · exact ⟨rfl, rfl, h⟩
    · have hs := stop_eq (st := st) (q := q) hT h fun s => codeS_eq (st := st) hT b (1 :: q) (1 :: p) k s h1
      have e : placeS E n st T (.seq a b) (0 :: t) q p k = placeS E n st T a t (0 :: q) (0 :: p) { nx := fun s => code E n b k s, ex := k.ex, rt := k.rt } := by rw [← hs]; rfl
      rw [e]
      exact iha t (0 :: q) (0 :: p) _ (place_snoc h (place_nil (E := E) (n := n) a _))
    · exact ihb t (1 :: q) (1 :: p) k h1
  | cond c a b ma mb iha ihb =>
    intro r q p k h
    rcases r with _ | ⟨_ | i, t⟩
    · exact ⟨rfl, rfl, h⟩
    · exact iha t (0 :: q) (0 :: p) k (place_snoc h (place_nil (E := E) (n := n) a k))
    · exact ihb t (1 :: q) (1 :: p) k (place_snoc h (place_nil (E := E) (n := n) b k))
  | block id c ih =>
    intro r q p k h
    rcases r with _ | ⟨_ | i, t⟩
    · exact ⟨rfl, rfl, h⟩
    · exact ih t (1 :: q) (1 :: p) _ (place_snoc h (place_nil (E := E) (n := n) c _))
    · exact ih t (1 :: q) (1 :: p) _ (place_snoc h (place_nil (E := E) (n := n) c _))
  | loop c m l ih =>
    intro r q p k h
    rcases r with _ | ⟨_ | i, t⟩
    · exact ⟨rfl, rfl, h⟩
    · exact ih t (0 :: q) (0 :: p) _ (place_snoc h (place_nil (E := E) (n := n) c _))
    · exact ih t (0 :: q) ((i + 1) :: p) _ (place_snoc h (place_nil (E := E) (n := n) c _))
end
/-- From a place in a function on; a loop, with m rounds left (as fromAt and loopAt, the code looked at first). -/
def fromC (P : Program) (T : Tab) (own : FuncId → Option Nat) (ext : FuncId → Option (List A → Option R)) (n : Nat) (f : FuncId) (as : List A) (p : List Nat) (s : St) : Option R :=
  match atL P.funcs.toList f with
  | none => none
  | some fn => match fn.body with
    | none => none
    | some c => code (env P T own ext n fn.ntmps) n (placeC (env P T own ext n fn.ntmps) n (codeOf fn c) p (ends (env P T own ext n fn.ntmps) f fn as)).1 (placeC (env P T own ext n fn.ntmps) n (codeOf fn c) p (ends (env P T own ext n fn.ntmps) f fn as)).2 s
def loopC (P : Program) (T : Tab) (own : FuncId → Option Nat) (ext : FuncId → Option (List A → Option R)) (n m : Nat) (f : FuncId) (as : List A) (p : List Nat) (s : St) : Option R :=
  match atL P.funcs.toList f with
  | none => none
  | some fn => match fn.body with
    | none => none
    | some c => match placeC (env P T own ext n fn.ntmps) n (codeOf fn c) p (ends (env P T own ext n fn.ntmps) f fn as) with
      | (.loop b _ q, k) => (loopKs (env P T own ext n fn.ntmps) n m b q k).nx s
      | _ => none
def runS (P : Program) (T : Tab) (own : FuncId → Option Nat) (ext : FuncId → Option (List A → Option R)) (n : Nat) (st : List (List Nat)) (K : List Nat → St → Option R) (f : FuncId) (as : List A) : Option R :=
  match ext f with
  | some F => F as
  | none => match atL P.funcs.toList f with
    | none => none
    | some fn => match fn.body with
      | none => none
      | some c => codeS (env P T own ext n fn.ntmps) n st K (codeOf fn c) [] [] (ends (env P T own ext n fn.ntmps) f fn as) (enter T 0 (cat fn.params.toList (List.replicate fn.nfree 0)) as { tm := [], hp := [] })
def fromS (P : Program) (T : Tab) (own : FuncId → Option Nat) (ext : FuncId → Option (List A → Option R)) (n : Nat) (st : List (List Nat)) (K : List Nat → St → Option R) (f : FuncId) (as : List A) (p : List Nat) (s : St) : Option R :=
  match atL P.funcs.toList f with
  | none => none
  | some fn => match fn.body with
    | none => none
    | some c => match placeS (env P T own ext n fn.ntmps) n st K (codeOf fn c) p [] [] (ends (env P T own ext n fn.ntmps) f fn as) with
      | (c', q, p', k) => codeS (env P T own ext n fn.ntmps) n st K c' q p' k s
section
variable {P : Program} {T : Tab} {own : FuncId → Option Nat} {ext : FuncId → Option (List A → Option R)} {n : Nat} {f : FuncId} {as : List A}
theorem from_at {fn : Func} {c : Code} (hf : atL P.funcs.toList f = some fn) (hc : fn.body = some c) (p : List Nat) (s : St) : fromAt P T own ext n f as p s = code (env P T own ext n fn.ntmps) n (place (env P T own ext n fn.ntmps) n p (codeOf fn c) (ends (env P T own ext n fn.ntmps) f fn as)).1 (place (env P T own ext n fn.ntmps) n p (codeOf fn c) (ends (env P T own ext n fn.ntmps) f fn as)).2 s := by
  unfold fromAt
  rw [hf]
  simp only [hc]
theorem fromC_eq (p : List Nat) (s : St) : fromC P T own ext n f as p s = fromAt P T own ext n f as p s := by
  cases hf : atL P.funcs.toList f with
  | none => unfold fromC fromAt; rw [hf]
  | some fn =>
    cases hc : fn.body with
    | none => unfold fromC fromAt; rw [hf]; simp only [hc]
    | some c =>
      rw [from_at hf hc]
      unfold fromC
      rw [hf]
      simp only [hc, placeC_eq]
theorem loopC_eq (m : Nat) (p : List Nat) (s : St) : loopC P T own ext n m f as p s = loopAt P T own ext n m f as p s := by
  cases hf : atL P.funcs.toList f with
  | none => unfold loopC loopAt; rw [hf]
  | some fn =>
    cases hc : fn.body with
    | none => unfold loopC loopAt; rw [hf]; simp only [hc]
    | some c =>
      unfold loopC loopAt
      rw [hf]
      simp only [hc, placeC_eq]
      generalize place (env P T own ext n fn.ntmps) n p (codeOf fn c) (ends (env P T own ext n fn.ntmps) f fn as) = x
      obtain ⟨c', k⟩ := x
      cases c' <;> rfl
theorem fromC_fun : (fun (p : List Nat) (s : St) => fromC P T own ext n f as p.reverse s) = fun p s => fromAt P T own ext n f as p.reverse s := by
  funext p s
  exact fromC_eq _ _
theorem runS_eq (st : List (List Nat)) : run P T own ext (n + 1) f as = runS P T own ext n st (fun p s => fromC P T own ext n f as p.reverse s) f as := by
  rw [fromC_fun]
  show step P T own ext (run P T own ext n) n f as = _
  unfold step runS
  cases ext f with
  | some F => rfl
  | none =>
    cases hf : atL P.funcs.toList f with
    | none => rfl
    | some fn =>
      cases hc : fn.body with
      | none => simp only [hc]
      | some c =>
        simp only [hc]
        exact (codeS_eq (fun p s => from_at hf hc p.reverse s) (codeOf fn c) [] [] _ _ (place_nil _ _)).symm
theorem fromS_eq (st : List (List Nat)) (p : List Nat) (s : St) : fromC P T own ext n f as p s = fromS P T own ext n st (fun p s => fromC P T own ext n f as p.reverse s) f as p s := by
  rw [fromC_fun, fromC_eq]
  cases hf : atL P.funcs.toList f with
  | none => unfold fromAt fromS; rw [hf]
  | some fn =>
    cases hc : fn.body with
    | none => unfold fromAt fromS; rw [hf]; simp only [hc]
    | some c =>
      have hT : ∀ (p : List Nat) (s : St), fromAt P T own ext n f as p.reverse s = code (env P T own ext n fn.ntmps) n (place (env P T own ext n fn.ntmps) n p.reverse (codeOf fn c) (ends (env P T own ext n fn.ntmps) f fn as)).1 (place (env P T own ext n fn.ntmps) n p.reverse (codeOf fn c) (ends (env P T own ext n fn.ntmps) f fn as)).2 s := fun p s => from_at hf hc p.reverse s
      obtain ⟨h1, h2, h3⟩ := placeS_eq (st := st) (T := fun p s => fromAt P T own ext n f as p.reverse s) hT (codeOf fn c) p [] [] (ends (env P T own ext n fn.ntmps) f fn as) (place_nil _ _)
      rw [from_at hf hc]
      unfold fromS
      rw [hf]
      simp only [hc]
      generalize placeS (env P T own ext n fn.ntmps) n st (fun p s => fromAt P T own ext n f as p.reverse s) (codeOf fn c) p [] [] (ends (env P T own ext n fn.ntmps) f fn as) = x at h1 h2 h3
      obtain ⟨c', q, p', k⟩ := x
      simp only at h1 h2 h3 ⊢
      rw [codeS_eq hT c' q p' k s h3, h1, h2]
/-- Is a loop at a place? -/
def loopB (P : Program) (T : Tab) (own : FuncId → Option Nat) (ext : FuncId → Option (List A → Option R)) (n : Nat) (f : FuncId) (as : List A) (p : List Nat) : Bool :=
  match atL P.funcs.toList f with
  | none => false
  | some fn => match fn.body with
    | none => false
    | some c => match (placeC (env P T own ext n fn.ntmps) n (codeOf fn c) p (ends (env P T own ext n fn.ntmps) f fn as)).1 with
      | .loop _ _ _ => true
      | _ => false
theorem loop_from {m : Nat} {p : List Nat} (s : St) (h : loopB P T own ext n f as p = true) : loopC P T own ext n (m + 1) f as p s = fromC P T own ext n f as (p ++ [m]) s := by
  rw [loopC_eq, fromC_eq]
  cases hf : atL P.funcs.toList f with
  | none => unfold loopB at h; rw [hf] at h; cases h
  | some fn =>
    cases hc : fn.body with
    | none => unfold loopB at h; rw [hf] at h; simp only [hc] at h; cases h
    | some c =>
      rw [from_at hf hc, place_append]
      unfold loopB at h
      rw [hf] at h
      simp only [hc, placeC_eq] at h
      unfold loopAt
      rw [hf]
      simp only [hc]
      generalize place (env P T own ext n fn.ntmps) n p (codeOf fn c) (ends (env P T own ext n fn.ntmps) f fn as) = x at h ⊢
      obtain ⟨c', k⟩ := x
      cases c' with
      | loop b mm l => cases m <;> (simp only [place]; rfl)
      | _ => cases h
end
end Go.Proofs.Ytihipeicmbgegaa.Rf
