/- A reading of Go's code over plain data: arguments of calls. No conditions. -/
import Derived.Test.YtihipeicmbgegaaRJb
namespace Go.Proofs.Ytihipeicmbgegaa.Rf
open Go Go.RowKit
set_option linter.unusedVariables false
set_option linter.unusedSimpArgs false
section
variable (P : Program) (T : Tab)
def CapR (I : Nat → Nat → Option Value) (v : Value) : A → Prop
  | .ro t g => ∃ b off, v = .pointer (some ⟨b, off, none⟩) ∧ CR P T I t (fun j => I b (off + j)) g
  | _ => False
def CapsR (I : Nat → Nat → Option Value) : List Value → List A → Prop
  | [], [] => True
  | v :: vs, c :: cs => CapR P T I v c ∧ CapsR I vs cs
  | _, _ => False
def AR (I : Nat → Nat → Option Value) (w : World) (t : TypeId) (v : Value) : A → Prop
  | .val g => VR P T I t v g
  | .ref t' g => ∃ b, v = .pointer (some ⟨b, 0, none⟩) ∧ VarAt P T I w b t' g
  | .ro t' g => CapR P T I v (.ro t' g)
  | .fn f cs => ∃ cvs : List Value, v = .func (.func f) #[] cvs.toArray ∧ CapsR P T I cvs cs
def ArgsR (I : Nat → Nat → Option Value) (w : World) : List TypeId → List Value → List A → Prop
  | [], [], [] => True
  | t :: ts, v :: vs, c :: cs => AR P T I w t v c ∧ ArgsR I w ts vs cs
  | _, _, _ => False
end
/-- The blocks of the variables that are handed in. -/
def refB : List Value → List A → List Nat
  | .pointer (some ad) :: vs, .ref _ _ :: cs => ad.block :: refB vs cs
  | _ :: vs, _ :: cs => refB vs cs
  | _, _ => []
section
variable {P : Program} {T : Tab} {B : List Nat} {I0 : Nat → Nat → Option Value} {w0 : World} {gh : Gh} {w : World} {H : Nat → Option Obj} {a : Act} {o : Oper} {Q : Exit → Act → World → Prop}
theorem capt_ok {v : AV} {x : A} {ws : Ws} (hc : capt H v = some (x, ws)) : Sharing H ws := by
  unfold capt at hc
  split at hc
  · rename_i oo t
    split at hc
    · rename_i t' g ho
      cases hk : Nat.beq t t' with
      | false => simp [hk] at hc
      | true =>
        simp [hk] at hc
        obtain ⟨_, rfl⟩ := hc
        obtain rfl := beqI hk
        intro p hp
        obtain rfl : p = (oo, .var t g .fz) := by simpa using hp
        exact .inr ⟨t, g, rfl, .inl ho⟩
    · rename_i t' g ho
      cases hk : Nat.beq t t' with
      | false => simp [hk] at hc
      | true =>
        simp [hk] at hc
        obtain ⟨_, rfl⟩ := hc
        intro p hp; cases hp
    · cases hc
  · simp at hc
    obtain ⟨_, rfl⟩ := hc
    intro p hp; cases hp
  · cases hc
theorem capts_ok : ∀ {vs : List AV} {xs : List A} {ws : Ws}, capts H vs = some (xs, ws) → Sharing H ws
  | [], xs, ws, h => by
    simp [capts] at h
    obtain ⟨_, rfl⟩ := h
    intro p hp; cases hp
  | v :: vs, xs, ws, h => by
    simp only [capts] at h
    split at h
    · rename_i x w1 xs1 ws1 h1 h2
      simp at h
      obtain ⟨_, rfl⟩ := h
      rw [cat_eq]
      exact (capt_ok h1).append (capts_ok h2)
    · cases h
/-- A pointer to a whole variable. -/
theorem ptr_whole {v : Value} {oo t : Nat} (hv : AVR P T gh v (.ptr oo t [])) : gh.Y oo = .var t ∧ ∃ b off n, baseV (gh.V oo) = some (b, off, n) ∧ v = .pointer (some ⟨b, off, none⟩) := by
  obtain ⟨b, off, n, d, hb, hp, hx⟩ := hv
  cases hY : gh.Y oo with
  | var t0 =>
    rw [hY] at hp
    simp only [pathD, goD, Option.some.injEq, Prod.mk.injEq] at hp
    obtain ⟨rfl, rfl⟩ := hp
    exact ⟨rfl, b, off, n, hb, by simpa using hx⟩
  | row e => rw [hY] at hp; simp [pathD] at hp
theorem fz_at {oo t b off n : Nat} {g : G} (h : HR P T B I0 w0 gh w H) (ho : H oo = some (.var t g .fz)) (hb : baseV (gh.V oo) = some (b, off, n)) : CR P T gh.I t (fun j => gh.I b (off + j)) g := by
  obtain ⟨hY, b', hV, hc⟩ := h.obj oo _ ho
  rw [hV] at hb
  simp only [baseV, Option.some.injEq, Prod.mk.injEq] at hb
  obtain ⟨rfl, rfl, rfl⟩ := hb
  simpa using hc
theorem capt_R {ws' : Ws} (hs : Sharing H ws') {H' : Nat → Option Obj} (hH : H' = wrF ws' H) (h : HR P T B I0 w0 gh w H') {v : Value} {av : AV} {x : A} {ws : Ws} (hv : AVR P T gh v av) (hc : capt H av = some (x, ws)) (hsub : ∀ p ∈ ws, p ∈ ws') : CapR P T gh.I v x := by
  unfold capt at hc
  split at hc
  · rename_i oo t
    obtain ⟨hY, b, off, n, hb, hx⟩ := ptr_whole hv
    split at hc
    · rename_i t' g ho
      cases hk : Nat.beq t t' with
      | false => simp [hk] at hc
      | true =>
        simp [hk] at hc
        obtain ⟨rfl, rfl⟩ := hc
        obtain rfl := beqI hk
        have := hs.at (hsub (oo, .var t g .fz) (by simp))
        rw [← hH] at this
        exact ⟨b, off, hx, fz_at h this hb⟩
    · rename_i t' g ho
      cases hk : Nat.beq t t' with
      | false => simp [hk] at hc
      | true =>
        simp [hk] at hc
        obtain ⟨rfl, rfl⟩ := hc
        obtain rfl := beqI hk
        have : H' oo = some (.var t g .fz) := by
          rw [hH]
          by_cases hm : ∃ y, (oo, y) ∈ ws'
          · obtain ⟨y, hy⟩ := hm
            rw [hs.at hy]
            rcases hs _ hy with ⟨e1, es1, a1, b1⟩ | ⟨t1, g1, a1, b1⟩ <;> simp only at a1 b1 <;> rw [ho] at b1 <;> simp at b1 <;> simp [a1, b1]
          · rw [wrF_other _ H oo (fun y hy => hm ⟨y, hy⟩)]
            exact ho
        exact ⟨b, off, hx, fz_at h this hb⟩
    · cases hc
  · simp at hc
    obtain ⟨rfl, rfl⟩ := hc
    exact hv
  · cases hc
theorem capts_R {ws' : Ws} (hs : Sharing H ws') {H' : Nat → Option Obj} (hH : H' = wrF ws' H) (h : HR P T B I0 w0 gh w H') : ∀ {vs : List Value} {avs : List AV} {xs : List A} {ws : Ws}, AVRs P T gh vs avs → capts H avs = some (xs, ws) → (∀ p ∈ ws, p ∈ ws') → CapsR P T gh.I vs xs
  | [], [], xs, ws, _, hc, _ => by
    simp [capts] at hc
    obtain ⟨rfl, _⟩ := hc
    trivial
  | v :: vs, av :: avs, xs, ws, hv, hc, hsub => by
    simp only [capts] at hc
    split at hc
    · rename_i x w1 xs1 ws1 h1 h2
      simp at hc
      obtain ⟨rfl, rfl⟩ := hc
      rw [cat_eq] at hsub
      exact ⟨capt_R hs hH h hv.1 h1 (fun p hp => hsub p (List.mem_append_left _ hp)), capts_R hs hH h hv.2 h2 (fun p hp => hsub p (List.mem_append_right _ hp))⟩
    · cases hc
  | [], _ :: _, _, _, hv, _, _ => hv.elim
  | _ :: _, [], _, _, hv, _, _ => hv.elim
theorem arg_ok {t : TypeId} {v : AV} {x : A} {ws : Ws} {os : List (Nat × TypeId)} (hc : arg T H t v = some (x, ws, os)) : Sharing H ws := by
  unfold arg at hc
  split at hc
  · rename_i oo t'
    split at hc
    · rename_i t0 g ho
      cases hk : Nat.beq t' t0 <;> simp [hk] at hc
      obtain ⟨_, rfl, _⟩ := hc
      intro p hp; cases hp
    · rename_i t0 g ho
      cases hk : Nat.beq t' t0 <;> simp [hk] at hc
      obtain ⟨_, rfl, _⟩ := hc
      intro p hp; cases hp
    · rename_i t0 g ho
      cases hk : Nat.beq t' t0 <;> simp [hk] at hc
      obtain ⟨_, rfl, _⟩ := hc
      intro p hp; cases hp
    · cases hc
  · simp at hc
    obtain ⟨_, rfl, _⟩ := hc
    intro p hp; cases hp
  · split at hc
    · rename_i xs ws1 h1
      simp at hc
      obtain ⟨_, rfl, _⟩ := hc
      exact capts_ok h1
    · cases hc
  · split at hc
    · simp at hc
      obtain ⟨_, rfl, _⟩ := hc
      exact share_ok _ _
    · cases hc
theorem args_ok : ∀ {ts : List TypeId} {vs : List AV} {xs : List A} {ws : Ws} {os : List (Nat × TypeId)}, args T H ts vs = some (xs, ws, os) → Sharing H ws
  | [], [], xs, ws, os, h => by
    simp [args] at h
    obtain ⟨_, rfl, _⟩ := h
    intro p hp; cases hp
  | t :: ts, v :: vs, xs, ws, os, h => by
    simp only [args] at h
    split at h
    · rename_i x w1 o1 xs1 ws1 os1 h1 h2
      simp at h
      obtain ⟨_, rfl, _⟩ := h
      rw [cat_eq]
      exact (arg_ok h1).append (args_ok h2)
    · cases h
  | [], _ :: _, _, _, _, h => by simp [args] at h
  | _ :: _, [], _, _, _, h => by simp [args] at h
/-- What the objects are that are handed on, and their blocks. -/
def Objs (gh : Gh) (H : Nat → Option Obj) : List (Nat × TypeId) → List Value → List A → Prop
  | os, v :: vs, .ref t g :: cs => ∃ o r, os = (o, t) :: r ∧ (H o = some (.var t g .own) ∨ H o = some (.var t g .ref)) ∧ v = gh.V o ∧ Objs gh H r vs cs
  | os, _ :: vs, _ :: cs => Objs gh H os vs cs
  | os, [], [] => os = []
  | _, _, _ => False
theorem arg_R (hT : tabOk P T = true) {ws' : Ws} (hs : Sharing H ws') {H' : Nat → Option Obj} (hH : H' = wrF ws' H) (h : HR P T B I0 w0 gh w H') {t : TypeId} {v : Value} {av : AV} {x : A} {ws : Ws} {os : List (Nat × TypeId)} (hv : AVR P T gh v av) (hc : arg T H t av = some (x, ws, os)) (hsub : ∀ p ∈ ws, p ∈ ws') (hno : ∀ p ∈ os, ∀ y, (p.1, y) ∉ ws') :
    AR P T gh.I w t v x ∧ ((os = [] ∧ ∀ t g, x ≠ .ref t g) ∨ ∃ oo t0 g, os = [(oo, t0)] ∧ x = .ref t0 g ∧ (H oo = some (.var t0 g .own) ∨ H oo = some (.var t0 g .ref)) ∧ v = gh.V oo) := by
  unfold arg at hc
  split at hc
  · rename_i oo t'
    obtain ⟨hY, b, off, n, hb, hx⟩ := ptr_whole hv
    split at hc
    · rename_i t0 g ho
      cases hk : Nat.beq t' t0 <;> simp [hk] at hc
      obtain ⟨rfl, rfl, rfl⟩ := hc
      obtain rfl := beqI hk
      have ho' : H' oo = some (.var t' g .own) := by rw [hH, wrF_other _ _ _ (fun y hy => hno (oo, t') (by simp) y hy)]; exact ho
      obtain ⟨_, b', hV, _, hva⟩ := h.obj oo _ ho'
      have hvV : v = gh.V oo := by
        rw [hV] at hb ⊢
        simp only [baseV, Option.some.injEq, Prod.mk.injEq] at hb
        obtain ⟨rfl, rfl, rfl⟩ := hb
        exact hx
      exact ⟨⟨b', by rw [hvV, hV], hva⟩, .inr ⟨oo, t', g, rfl, rfl, .inl ho, hvV⟩⟩
    · rename_i t0 g ho
      cases hk : Nat.beq t' t0 <;> simp [hk] at hc
      obtain ⟨rfl, rfl, rfl⟩ := hc
      obtain rfl := beqI hk
      have ho' : H' oo = some (.var t' g .ref) := by rw [hH, wrF_other _ _ _ (fun y hy => hno (oo, t') (by simp) y hy)]; exact ho
      obtain ⟨_, b', hV, _, hva⟩ := h.obj oo _ ho'
      have hvV : v = gh.V oo := by
        rw [hV] at hb ⊢
        simp only [baseV, Option.some.injEq, Prod.mk.injEq] at hb
        obtain ⟨rfl, rfl, rfl⟩ := hb
        exact hx
      exact ⟨⟨b', by rw [hvV, hV], hva⟩, .inr ⟨oo, t', g, rfl, rfl, .inr ho, hvV⟩⟩
    · rename_i t0 g ho
      cases hk : Nat.beq t' t0 <;> simp [hk] at hc
      obtain ⟨rfl, rfl, rfl⟩ := hc
      obtain rfl := beqI hk
      have ho' : H' oo = some (.var t' g .fz) := by
        rw [hH]
        by_cases hm : ∃ y, (oo, y) ∈ ws'
        · obtain ⟨y, hy⟩ := hm
          rw [hs.at hy]
          rcases hs _ hy with ⟨e1, es1, a1, b1⟩ | ⟨t1, g1, a1, b1⟩ <;> simp only at a1 b1 <;> rw [ho] at b1 <;> simp at b1 <;> simp [a1, b1]
        · rw [wrF_other _ H oo (fun y hy => hm ⟨y, hy⟩)]
          exact ho
      exact ⟨⟨b, off, hx, fz_at h ho' hb⟩, .inl ⟨rfl, fun _ _ e => by cases e⟩⟩
    · cases hc
  · simp at hc
    obtain ⟨rfl, rfl, rfl⟩ := hc
    exact ⟨hv, .inl ⟨rfl, fun _ _ e => by cases e⟩⟩
  · rename_i f caps
    split at hc
    · rename_i xs ws1 h1
      simp at hc
      obtain ⟨rfl, rfl, rfl⟩ := hc
      obtain ⟨cs, hx, hcs⟩ := hv
      exact ⟨⟨cs, hx, capts_R hs hH h hcs h1 hsub⟩, .inl ⟨rfl, fun _ _ e => by cases e⟩⟩
    · cases hc
  · split at hc
    · rename_i g hg
      simp at hc
      obtain ⟨rfl, rfl, rfl⟩ := hc
      exact ⟨conv_VR hT h hv hg (fun p hp => by rw [hH]; exact hs.at (hsub p hp)) (by rw [hH]; exact wrF_fz hs), .inl ⟨rfl, fun _ _ e => by cases e⟩⟩
    · cases hc
theorem args_R (hT : tabOk P T = true) {ws' : Ws} (hs : Sharing H ws') {H' : Nat → Option Obj} (hH : H' = wrF ws' H) (h : HR P T B I0 w0 gh w H') : ∀ {ts : List TypeId} {vs : List Value} {avs : List AV} {xs : List A} {ws : Ws} {os : List (Nat × TypeId)}, AVRs P T gh vs avs → args T H ts avs = some (xs, ws, os) → (∀ p ∈ ws, p ∈ ws') → (∀ p ∈ os, ∀ y, (p.1, y) ∉ ws') → ArgsR P T gh.I w ts vs xs ∧ Objs gh H os vs xs
  | [], [], [], xs, ws, os, _, hc, _, _ => by
    simp [args] at hc
    obtain ⟨rfl, rfl, rfl⟩ := hc
    exact ⟨trivial, rfl⟩
  | t :: ts, v :: vs, av :: avs, xs, ws, os, hv, hc, hsub, hno => by
    simp only [args] at hc
    split at hc
    · rename_i x w1 o1 xs1 ws1 os1 h1 h2
      simp at hc
      obtain ⟨rfl, rfl, rfl⟩ := hc
      rw [cat_eq] at hsub hno
      obtain ⟨hA, hO⟩ := arg_R hT hs hH h hv.1 h1 (fun p hp => hsub p (List.mem_append_left _ hp)) (fun p hp => hno p (List.mem_append_left _ hp))
      obtain ⟨hA2, hO2⟩ := args_R hT hs hH h hv.2 h2 (fun p hp => hsub p (List.mem_append_right _ hp)) (fun p hp => hno p (List.mem_append_right _ hp))
      refine ⟨⟨hA, hA2⟩, ?_⟩
      rw [cat_eq]
      rcases hO with ⟨rfl, hx⟩ | ⟨oo, t0, g, rfl, rfl, ho, hvV⟩
      · cases x with
        | ref t g => exact absurd rfl (hx t g)
        | val g => exact hO2
        | ro t g => exact hO2
        | fn f cs => exact hO2
      · exact ⟨oo, os1, rfl, ho, hvV, hO2⟩
    · cases hc
  | [], [], _ :: _, _, _, _, hv, _, _, _ => hv.elim
  | [], _ :: _, [], _, _, _, hv, _, _, _ => hv.elim
  | _ :: _, [], _ :: _, _, _, _, hv, _, _, _ => hv.elim
  | _ :: _, _ :: _, [], _, _, _, hv, _, _, _ => hv.elim
  | [], _ :: _, _ :: _, _, _, _, _, hc, _, _ => by simp [args] at hc
  | _ :: _, [], [], _, _, _, _, hc, _, _ => by simp [args] at hc
end
end Go.Proofs.Ytihipeicmbgegaa.Rf

namespace Go.Proofs.Ytihipeicmbgegaa.Rf
open Go Go.RowKit
set_option linter.unusedVariables false
set_option linter.unusedSimpArgs false
section
variable (P : Program) (T : Tab)
def OwnRow (I : Nat → Nat → Option Value) (w : World) (base : Nat) (e : TypeId) (v : Value) (es : List G) : Prop :=
  (∃ p, v = .slice p 0 0 ∧ es = []) ∨ ∃ xs, w.ownsRow base e (sz P e) v es.length xs ∧ Elems P T I e xs es ∧ ∀ b, blkV v = some b → ∀ off, I b off = none
def ResAt (I : Nat → Nat → Option Value) (w : World) (base : Nat) (own : Option Nat) (i : Nat) (t : TypeId) (v : Value) (g : G) : Prop :=
  if isOwn T own i t = true then ∃ e, ty T t = .sl e ∧ OwnRow P T I w base e v g.toList else VR P T I t v g
def ResRs (I : Nat → Nat → Option Value) (w : World) (base : Nat) (own : Option Nat) (g : G) : Nat → List TypeId → List Value → Prop
  | _, [], [] => True
  | i, t :: ts, v :: vs => ResAt P T I w base own i t v (g.fld i) ∧ ResRs I w base own g (i + 1) ts vs
  | _, _, _ => False
def ResR (I : Nat → Nat → Option Value) (w : World) (base : Nat) (own : Option Nat) (ts : List TypeId) (v : Value) (g : G) : Prop :=
  match ts with
  | [t] => ResAt P T I w base own 0 t v g
  | ts => ∃ vs : List Value, v = .tuple vs.toArray ∧ ResRs P T I w base own g 0 ts vs
def FinsR (I : Nat → Nat → Option Value) (w : World) : List Value → List A → List G → Prop
  | v :: vs, .ref t _ :: cs, gs => (∃ b, v = .pointer (some ⟨b, 0, none⟩) ∧ VarAt P T I w b t (gs.headD default)) ∧ FinsR I w vs cs gs.tail
  | _ :: vs, _ :: cs, gs => FinsR I w vs cs gs
  | _, _, _ => True
/-- A call keeps to what the reading says of it. -/
def Good (own : FuncId → Option Nat) (f : FuncId) (as : List A) (r : R) : Prop :=
  ∀ (fn : Func), P.funcs[f]? = some fn → ∀ (w : World) (I : Nat → Nat → Option Value) (vs : List Value),
    ArgsR P T I w (fn.params.toList ++ List.replicate fn.nfree 0) vs as → (∀ b off v, I b off = some v → w.cell? ⟨b, off, none⟩ = some v) → (refB vs as).Nodup →
    Calls P f vs.toArray w fun e w' => ∃ v I', e = .returned v ∧ (∀ b off v, I b off = some v → I' b off = some v) ∧ (∀ b off, b < w.heap.size → I' b off = I b off) ∧ (∀ b off v, I' b off = some v → w'.cell? ⟨b, off, none⟩ = some v) ∧
      Upto (refB vs as) w w' ∧ ResR P T I' w' w.heap.size (own f) fn.resultTypes.toList v r.1 ∧ FinsR P T I' w' vs as r.2
end
section
variable {P : Program} {T : Tab} {B : List Nat} {I0 : Nat → Nat → Option Value} {w0 : World} {gh : Gh} {w : World} {H : Nat → Option Obj} {a : Act} {o : Oper} {Q : Exit → Act → World → Prop}
/-- Data without slices lies where it lies whatever is known. -/
theorem CR.flat {I I' : Nat → Nat → Option Value} : ∀ (d : Nat) {t : TypeId} {rd : Nat → Option Value} {g : G}, flat T d t = true → CR P T I t rd g → CR P T I' t rd g
  | 0, t, rd, g, h, _ => by simp [Rf.flat] at h
  | d + 1, t, rd, g, h, hc => by
    simp only [Rf.flat] at h
    cases hc with
    | int h1 h2 => exact .int h1 h2
    | bool h1 h2 => exact .bool h1 h2
    | str h1 h2 => exact .str h1 h2
    | tu h1 h2 h3 =>
      rw [h1] at h
      exact .tu h1 h2 fun i hi hi' => CR.flat d ((every_iff _ _).1 h _ (List.getElem_mem hi)) (h3 i hi hi')
    | arr h1 h2 h3 =>
      rw [h1] at h
      exact .arr h1 h2 fun i hi => CR.flat d h (h3 i hi)
    | nil h1 h2 => rw [h1] at h; cases h
    | sl h1 h2 h3 h4 => rw [h1] at h; cases h
theorem isOwn_sl {own : Option Nat} {i : Nat} {t : TypeId} (h : isOwn T own i t = true) : ∃ e, ty T t = .sl e ∧ own = some i := by
  unfold isOwn at h
  split at h
  · rename_i j e ht; exact ⟨e, ht, by rw [beqI h]⟩
  · cases h
/-- Results without slices, to the caller. -/
theorem res_flat (hT : tabOk P T = true) {I : Nat → Nat → Option Value} {w' : World} {base d : Nat} {own : Option Nat} : ∀ {i : Nat} {ts : List TypeId} {vs : List Value} {g : G}, every (flat T deep) ts = true → ResRs P T I w' base own g i ts vs → AVRs P T gh vs (views T d own g i ts)
  | _, [], [], _, _, _ => trivial
  | i, t :: ts, v :: vs, g, hf, h => by
    simp only [every, Bool.and_eq_true] at hf
    refine ⟨?_, res_flat hT hf.2 h.2⟩
    have h1 := h.1
    unfold ResAt at h1
    unfold viewOne
    cases ho : isOwn T own i t with
    | true =>
      obtain ⟨e, he, _⟩ := isOwn_sl ho
      simp [deep, flat, he] at hf
    | false =>
      rw [ho] at h1
      simp only [Bool.false_eq_true, if_false] at h1
      exact view_AVR hT ⟨h1.1.flat deep hf.1, h1.2⟩
  | _, [], _ :: _, _, _, h => h.elim
  | _, _ :: _, [], _, _, h => h.elim
theorem HR.add2 (h : HR P T B I0 w0 gh w H) {d : Nat} {v : Value} {y : Root} {ob : Obj} (hd : H d = none)
    (hv : ∀ o' ob' b, H o' = some ob' → loose ob' = true → blkV v = some b → blkV (gh.V o') ≠ some b) (hor : OR P T w0.heap.size B (gh.put d v y) w d ob) : HR P T B I0 w0 (gh.put d v y) w (updF H d (some ob)) := by
  refine h.step (ch := []) (Upto.refl _ _) (fun b hb => by cases hb) (fun _ _ _ h => h) (fun b off v hv => .inl hv) (fun o ob' ho => ?_) (sep_upd h fun o' ob' b hne ho' hl' hl hb => hv o' ob' b ho' hl' hb)
  by_cases e : o = d
  · subst e
    rw [updF_same] at ho
    obtain rfl : ob = ob' := by simpa using ho
    exact .inr hor
  · rw [updF_ne _ _ e] at ho
    exact .inl ⟨ho, updF_ne _ _ e, updF_ne _ _ e, fun hl b hb => ⟨by simp, ((h.obj o ob' ho).apart hl hb).1⟩⟩
theorem ownsRow_base {base base' : Nat} {e s n : Nat} {v : Value} {xs : List Value} (h : w.ownsRow base e s v n xs) (hb : base' ≤ base) : w.ownsRow base' e s v n xs := by
  obtain ⟨h1, h2 | ⟨g, cap, cur, h3, h4, r⟩⟩ := h
  · exact ⟨h1, .inl h2⟩
  · exact ⟨h1, .inr ⟨g, cap, cur, h3, Nat.le_trans hb h4, r⟩⟩
end
end Go.Proofs.Ytihipeicmbgegaa.Rf

namespace Go.Proofs.Ytihipeicmbgegaa.Rf
open Go Go.RowKit
set_option linter.unusedVariables false
set_option linter.unusedSimpArgs false
section
variable {P : Program} {T : Tab} {B : List Nat} {I0 : Nat → Nat → Option Value} {w0 : World} {gh : Gh} {w : World} {H H1 : Nat → Option Obj} {a : Act} {o : Oper} {Q : Exit → Act → World → Prop}
def VarMd (ob : Option Obj) (t : TypeId) : Prop := ∃ g, ob = some (.var t g .own) ∨ ob = some (.var t g .ref)
theorem objs_refB : ∀ {os : List (Nat × TypeId)} {vs : List Value} {as : List A}, Objs gh H os vs as → ∀ b ∈ refB vs as, ∃ p ∈ os, VarMd (H p.1) p.2 ∧ blkV (gh.V p.1) = some b
  | os, [], [], _, b, hb => by cases hb
  | os, [], _ :: _, _, b, hb => by cases hb
  | os, v :: vs, [], h, b, hb => by simp [Objs] at h
  | os, v :: vs, .ref t g :: cs, h, b, hb => by
    obtain ⟨oo, r, rfl, ho, hv, hr⟩ := h
    have key : b ∈ refB vs cs → ∃ p ∈ (oo, t) :: r, VarMd (H p.1) p.2 ∧ blkV (gh.V p.1) = some b := fun hb => by
      obtain ⟨p, hp, h1, h2⟩ := objs_refB hr b hb
      exact ⟨p, List.mem_cons_of_mem _ hp, h1, h2⟩
    unfold refB at hb
    split at hb
    · rename_i ad vs' t' g' cs' e1 e2
      cases e1; cases e2
      rcases List.mem_cons.1 hb with rfl | hb
      · exact ⟨(oo, t), by simp, ⟨g, ho⟩, by rw [← hv]; rfl⟩
      · exact key hb
    · rename_i e1 e2
      cases e1; cases e2
      exact key hb
    · cases hb
  | os, v :: vs, .val g :: cs, h, b, hb => by
    have hb' : b ∈ refB vs cs := by cases v <;> first | exact hb | (rename_i x; cases x <;> exact hb)
    exact objs_refB (by simpa [Objs] using h) b hb'
  | os, v :: vs, .ro t g :: cs, h, b, hb => by
    have hb' : b ∈ refB vs cs := by cases v <;> first | exact hb | (rename_i x; cases x <;> exact hb)
    exact objs_refB (by simpa [Objs] using h) b hb'
  | os, v :: vs, .fn f c :: cs, h, b, hb => by
    have hb' : b ∈ refB vs cs := by cases v <;> first | exact hb | (rename_i x; cases x <;> exact hb)
    exact objs_refB (by simpa [Objs] using h) b hb'
theorem distinct_cons {x : Nat} {l : List Nat} (h : distinct (x :: l) = true) : x ∉ l ∧ distinct l = true := by
  simp only [distinct, Bool.and_eq_true, Bool.not_eq_true'] at h
  refine ⟨fun hm => ?_, h.2⟩
  rw [(has_iff _ _).2 hm] at h
  cases h.1
theorem objs_nodup (h : HR P T B I0 w0 gh w H1) : ∀ {os : List (Nat × TypeId)} {vs : List Value} {as : List A}, Objs gh H os vs as → (∀ p ∈ os, H1 p.1 = H p.1) → distinct (os.map (·.1)) = true → (refB vs as).Nodup
  | os, [], [], _, _, _ => by simp [refB]
  | os, [], _ :: _, _, _, _ => by simp [refB]
  | os, v :: vs, [], h', _, _ => by simp [Objs] at h'
  | os, v :: vs, .ref t g :: cs, h', hH, hd => by
    obtain ⟨oo, r, rfl, ho, hv, hr⟩ := h'
    obtain ⟨hd1, hd2⟩ := distinct_cons hd
    have ih := objs_nodup h hr (fun p hp => hH p (List.mem_cons_of_mem _ hp)) hd2
    unfold refB
    split
    · rename_i ad vs' t' g' cs' e1 e2
      cases e1; cases e2
      refine List.nodup_cons.2 ⟨fun hm => ?_, ih⟩
      obtain ⟨p, hp, ⟨g2, h1⟩, h2⟩ := objs_refB hr _ hm
      have hne : oo ≠ p.1 := fun e => hd1 (e ▸ List.mem_map.2 ⟨p, hp, rfl⟩)
      have hb : blkV (gh.V oo) = some ad.block := by rw [← hv]; rfl
      have e1 : H1 oo = H oo := hH (oo, t) (by simp)
      have e2 := hH p (List.mem_cons_of_mem _ hp)
      rcases ho with ho | ho <;> rcases h1 with h1 | h1 <;> exact h.sep oo p.1 _ _ _ hne (e1.trans ho) (e2.trans h1) rfl rfl hb h2
    · rename_i e1 e2
      cases e1; cases e2
      exact ih
    · exact List.nodup_nil
  | os, v :: vs, .val g :: cs, h', hH, hd => by
    have : refB (v :: vs) (.val g :: cs) = refB vs cs := by cases v <;> first | rfl | (rename_i x; cases x <;> rfl)
    rw [this]; exact objs_nodup h (by simpa [Objs] using h') hH hd
  | os, v :: vs, .ro t g :: cs, h', hH, hd => by
    have : refB (v :: vs) (.ro t g :: cs) = refB vs cs := by cases v <;> first | rfl | (rename_i x; cases x <;> rfl)
    rw [this]; exact objs_nodup h (by simpa [Objs] using h') hH hd
  | os, v :: vs, .fn f c :: cs, h', hH, hd => by
    have : refB (v :: vs) (.fn f c :: cs) = refB vs cs := by cases v <;> first | rfl | (rename_i x; cases x <;> rfl)
    rw [this]; exact objs_nodup h (by simpa [Objs] using h') hH hd
/-- What the objects have become that were handed on. -/
theorem finals_at {I : Nat → Nat → Option Value} {w' : World} : ∀ {os : List (Nat × TypeId)} {vs : List Value} {as : List A} {gs : List G} {H1 : Nat → Option Obj}, Objs gh H os vs as → distinct (os.map (·.1)) = true → FinsR P T I w' vs as gs → ∀ o ob, wrF (finals os gs H) H1 o = some ob →
    (o ∉ os.map (·.1) ∧ H1 o = some ob) ∨ ∃ t g m fin b, (o, t) ∈ os ∧ (m = .own ∨ m = .ref) ∧ H o = some (.var t g m) ∧ ob = .var t fin m ∧ gh.V o = .pointer (some ⟨b, 0, none⟩) ∧ VarAt P T I w' b t fin
  | os, [], [], gs, H1, h, _, _, o, ob, ho => by
    obtain rfl : os = [] := h
    exact .inl ⟨by simp, ho⟩
  | os, [], _ :: _, gs, H1, h, _, _, o, ob, ho => by simp [Objs] at h
  | os, v :: vs, [], gs, H1, h, _, _, o, ob, ho => by simp [Objs] at h
  | os, v :: vs, .ref t g :: cs, gs, H1, h, hd, hf, o, ob, hob => by
    obtain ⟨oo, r, rfl, ho, hv, hr⟩ := h
    obtain ⟨hd1, hd2⟩ := distinct_cons hd
    obtain ⟨⟨b, hb, hva⟩, hf2⟩ := hf
    obtain ⟨g0, m, hm, hH⟩ : ∃ g0 m, (m = .own ∨ m = .ref) ∧ H oo = some (.var t g0 m) := by
      rcases ho with ho | ho
      · exact ⟨g, .own, .inl rfl, ho⟩
      · exact ⟨g, .ref, .inr rfl, ho⟩
    have hfin : finals ((oo, t) :: r) gs H = (oo, .var t (gs.headD default) m) :: finals r gs.tail H := by
      simp [finals, hH, cat]
    rw [hfin, wrF] at hob
    rcases finals_at hr hd2 hf2 o ob hob with ⟨h1, h2⟩ | ⟨t', g', m', fin, b', h1, h2⟩
    · by_cases e : o = oo
      · subst e
        rw [updF_same] at h2
        refine .inr ⟨t, g0, m, gs.headD default, b, by simp, hm, hH, by simpa using h2.symm, by rw [← hv, hb], hva⟩
      · rw [updF_ne _ _ e] at h2
        exact .inl ⟨by simp only [List.map_cons, List.mem_cons, not_or]; exact ⟨e, h1⟩, h2⟩
    · exact .inr ⟨t', g', m', fin, b', List.mem_cons_of_mem _ h1, h2⟩
  | os, v :: vs, .val g :: cs, gs, H1, h, hd, hf, o, ob, ho => finals_at (by simpa [Objs] using h) hd (by simpa [FinsR] using hf) o ob ho
  | os, v :: vs, .ro t g :: cs, gs, H1, h, hd, hf, o, ob, ho => finals_at (by simpa [Objs] using h) hd (by simpa [FinsR] using hf) o ob ho
  | os, v :: vs, .fn f c :: cs, gs, H1, h, hd, hf, o, ob, ho => finals_at (by simpa [Objs] using h) hd (by simpa [FinsR] using hf) o ob ho
/-- The world behind a call. -/
theorem HR.called (h : HR P T B I0 w0 gh w H1) {os : List (Nat × TypeId)} {vs : List Value} {as : List A} {gs : List G} (hO : Objs gh H os vs as) (hH : ∀ p ∈ os, H1 p.1 = H p.1) (hd : distinct (os.map (·.1)) = true) {I : Nat → Nat → Option Value} {w' : World}
    (hI : ∀ b off v, gh.I b off = some v → I b off = some v) (hold : ∀ b off, b < w.heap.size → I b off = gh.I b off) (himm : ∀ b off v, I b off = some v → w'.cell? ⟨b, off, none⟩ = some v) (hup : Upto (refB vs as) w w') (hf : FinsR P T I w' vs as gs) :
    HR P T B I0 w0 { gh with I := I } w' (wrF (finals os gs H) H1) ∧ (∀ o ob b, wrF (finals os gs H) H1 o = some ob → loose ob = true → blkV (gh.V o) = some b → b < w.heap.size) := by
  have hmd : ∀ p ∈ os, VarMd (H p.1) p.2 → ∃ ob, H1 p.1 = some ob ∧ loose ob = true := by
    rintro p hp ⟨g, h1 | h1⟩
    · exact ⟨_, (hH p hp).trans h1, rfl⟩
    · exact ⟨_, (hH p hp).trans h1, rfl⟩
  have hB : ∀ b ∈ refB vs as, ∃ p ∈ os, ∃ ob, H1 p.1 = some ob ∧ loose ob = true ∧ blkV (gh.V p.1) = some b := by
    intro b hb
    obtain ⟨p, hp, h1, h2⟩ := objs_refB hO b hb
    obtain ⟨ob, h3, h4⟩ := hmd p hp h1
    exact ⟨p, hp, ob, h3, h4, h2⟩
  have hprev : ∀ o ob, wrF (finals os gs H) H1 o = some ob → loose ob = true → ∃ ob0, H1 o = some ob0 ∧ loose ob0 = true := by
    intro o ob ho hl
    rcases finals_at hO hd hf o ob ho with ⟨_, h2⟩ | ⟨t, g, m, fin, b, h1, h2, h3, _⟩
    · exact ⟨ob, h2, hl⟩
    · refine ⟨_, (hH (o, t) h1).trans h3, ?_⟩
      rcases h2 with rfl | rfl <;> rfl
  refine ⟨h.step hup (fun b hb => ?_) hI (fun b off v hv => ?_) (fun o ob ho => ?_) (fun o o' ob ob' b hne h1 h2 l1 l2 hb hb' => ?_), fun o ob b ho hl hb => ?_⟩
  · obtain ⟨p, hp, ob, h1, h2, h3⟩ := hB b hb
    have := (h.obj _ _ h1).apart h2 h3
    exact ⟨this.2.symm, this.1⟩
  · rcases Nat.lt_or_ge b w.heap.size with hlt | hge
    · exact .inl (by rw [← hold b off hlt]; exact hv)
    · exact .inr ⟨himm _ _ _ hv, Nat.le_trans h.up.size hge⟩
  · rcases finals_at hO hd hf o ob ho with ⟨h1, h2⟩ | ⟨t, g, m, fin, b, h1, h2, h3, rfl, hV, hva⟩
    · refine .inl ⟨h2, rfl, rfl, fun hl b hb => ⟨fun hm => ?_, fun off => ?_⟩⟩
      · obtain ⟨p, hp, ob', k1, k2, k3⟩ := hB b hm
        have hne : o ≠ p.1 := fun e => h1 (e ▸ List.mem_map.2 ⟨p, hp, rfl⟩)
        exact h.sep o p.1 ob ob' b hne h2 k1 hl k2 hb k3
      · show I b off = none
        rw [hold b off (h.blk_lt h2 hl hb)]
        exact ((h.obj o ob h2).apart hl hb).1 off
    · refine .inr ?_
      have ho1 := h.obj o _ ((hH (o, t) h1).trans h3)
      rcases h2 with rfl | rfl
      · obtain ⟨hY, b', hV', hb', _⟩ := ho1
        rw [hV] at hV'
        obtain rfl : b = b' := by simpa using hV'
        exact ⟨hY, b, hV, hb', hva⟩
      · obtain ⟨hY, b', hV', hb', _⟩ := ho1
        rw [hV] at hV'
        obtain rfl : b = b' := by simpa using hV'
        exact ⟨hY, b, hV, hb', hva⟩
  · obtain ⟨a1, b1, c1⟩ := hprev o ob h1 l1
    obtain ⟨a2, b2, c2⟩ := hprev o' ob' h2 l2
    exact h.sep o o' a1 a2 b hne b1 b2 c1 c2 hb hb'
  · obtain ⟨a1, b1, c1⟩ := hprev o ob ho hl
    exact h.blk_lt b1 c1 hb
end
end Go.Proofs.Ytihipeicmbgegaa.Rf

namespace Go.Proofs.Ytihipeicmbgegaa.Rf
open Go Go.RowKit
set_option linter.unusedVariables false
set_option linter.unusedSimpArgs false
section
variable {P : Program} {T : Tab} {B : List Nat} {I0 : Nat → Nat → Option Value} {w0 : World} {gh : Gh} {w : World} {H H1 : Nat → Option Obj} {a : Act} {o : Oper} {Q : Exit → Act → World → Prop}
theorem AVRs_append : ∀ {vs us : List Value} {as bs : List AV}, AVRs P T gh vs as → AVRs P T gh us bs → AVRs P T gh (vs ++ us) (cat as bs)
  | [], us, [], bs, _, k => k
  | v :: vs, us, a :: as, bs, h, k => ⟨h.1, AVRs_append h.2 k⟩
  | [], _, _ :: _, _, h, _ => h.elim
  | _ :: _, _, [], _, h, _ => h.elim
theorem refsL_cat (as bs : List AV) : refsL (cat as bs) = refsL as ++ refsL bs := by
  induction as with
  | nil => rfl
  | cons x as ih => simp [cat, refsL, cat_eq, ih] at ih ⊢; rw [ih]
theorem refsL_mp {v : Operand → AV} (hr : ∀ x, ∀ o ∈ refs (v x), (H o).isSome = true) : ∀ (xs : List Operand), ∀ o ∈ refsL (mp v xs), (H o).isSome = true
  | [], o, h => by cases h
  | x :: xs, o, h => by
    simp only [mp, refsL, cat_eq, List.mem_append] at h
    rcases h with h | h
    · exact hr x o h
    · exact refsL_mp hr xs o h
theorem own_blk_ge {base e s n b : Nat} {v : Value} {xs : List Value} (h : w.ownsRow base e s v n xs) (hb : blkV v = some b) : base ≤ b := by
  obtain ⟨h1, ⟨h2, _⟩ | ⟨g, cap, cur, h3, h4, r⟩⟩ := h
  · subst h2; cases hb
  · subst h3
    cases cap with
    | zero => cases hb
    | succ cap => obtain rfl : g = b := by simpa [blkV] using hb
                  exact h4
theorem res_any (hT : tabOk P T = true) {w' : World} {base d : Nat} {own : Option Nat} : ∀ {i : Nat} {ts : List TypeId} {vs : List Value} {g : G}, ResRs P T gh.I w' base own g i ts vs → (∀ k t v, ts[k]? = some t → vs[k]? = some v → isOwn T own (i + k) t = true → v = gh.V d) → AVRs P T gh vs (views T d own g i ts)
  | _, [], [], _, _, _ => trivial
  | i, t :: ts, v :: vs, g, h, ho => by
    refine ⟨?_, res_any hT h.2 fun k t v h1 h2 h3 => ho (k + 1) t v (by simpa using h1) (by simpa using h2) (by rw [← h3]; congr 1; omega)⟩
    have h1 := h.1
    unfold ResAt at h1
    unfold viewOne
    cases hc : isOwn T own i t with
    | true => exact ho 0 t v rfl rfl (by simpa using hc)
    | false =>
      rw [hc] at h1
      simp only [Bool.false_eq_true, if_false] at h1
      exact view_AVR hT h1
  | _, [], _ :: _, _, h, _ => h.elim
  | _, _ :: _, [], _, h, _ => h.elim
theorem resRs_at {I : Nat → Nat → Option Value} {w' : World} {base : Nat} {own : Option Nat} {g : G} : ∀ {i : Nat} {ts : List TypeId} {vs : List Value}, ResRs P T I w' base own g i ts vs → ∀ {k : Nat} {t : TypeId}, ts[k]? = some t → ∃ v, vs[k]? = some v ∧ ResAt P T I w' base own (i + k) t v (g.fld (i + k))
  | _, [], [], _, k, t, h => by simp at h
  | i, t0 :: ts, v0 :: vs, h, 0, t, ht => by
    simp only [List.getElem?_cons_zero, Option.some.injEq] at ht
    subst ht
    exact ⟨v0, rfl, h.1⟩
  | i, t0 :: ts, v0 :: vs, h, k + 1, t, ht => by
    obtain ⟨v, h1, h2⟩ := resRs_at h.2 (k := k) (by simpa using ht)
    refine ⟨v, by simpa using h1, ?_⟩
    have e : i + 1 + k = i + (k + 1) := by omega
    rwa [e] at h2
  | _, [], _ :: _, h, _, _, _ => h.elim
  | _, _ :: _, [], h, _, _, _ => h.elim
/-- A result that is a row of the caller's own from now on: which value it is. -/
theorem own_value {I : Nat → Nat → Option Value} {w' : World} {base j e : Nat} {t : TypeId} {ts : List TypeId} {v : Value} {g : G} (h : ResR P T I w' base (some j) ts v g) (ht : atL ts j = some t) (hy : ty T t = .sl e) : ∃ u, OwnRow P T I w' base e u (partG ts g j).toList ∧
    ((∃ t0, ts = [t0] ∧ v = u) ∨ ((∀ t0, ts ≠ [t0]) ∧ ∃ vs : List Value, v = .tuple vs.toArray ∧ vs[j]? = some u ∧ ResRs P T I w' base (some j) g 0 ts vs)) := by
  rw [atL_eq] at ht
  have hown : isOwn T (some j) j t = true := by simp [isOwn, hy, beqT]
  unfold ResR at h
  split at h
  · rename_i t0
    have hj : j = 0 := by
      cases j with
      | zero => rfl
      | succ j => simp at ht
    subst hj
    obtain rfl : t0 = t := by simpa using ht
    unfold ResAt at h
    rw [hown] at h
    obtain ⟨e', he, hr⟩ := by simpa using h
    rw [hy] at he
    cases he
    exact ⟨v, hr, .inl ⟨t0, rfl, rfl⟩⟩
  · rename_i hne
    obtain ⟨vs, hv, hrs⟩ := h
    obtain ⟨u, hu, hat⟩ := resRs_at hrs ht
    simp only [Nat.zero_add] at hat
    unfold ResAt at hat
    rw [hown] at hat
    obtain ⟨e', he, hr⟩ := by simpa using hat
    rw [hy] at he
    cases he
    have hp : partG ts g j = g.fld j := by
      unfold partG
      split
      · exact absurd rfl (hne _)
      · rfl
    exact ⟨u, by rw [hp]; exact hr, .inr ⟨hne, vs, hv, hu, hrs⟩⟩
/-- What the results are, to the caller. -/
theorem res_view (hT : tabOk P T = true) {w' : World} {base d : Nat} {own : Option Nat} {ts : List TypeId} {v : Value} {g : G} (h : ResR P T gh.I w' base own ts v g) (ho1 : ∀ t0, ts = [t0] → isOwn T own 0 t0 = true → v = gh.V d) (ho2 : ∀ vs : List Value, v = .tuple vs.toArray → ∀ k t u, ts[k]? = some t → vs[k]? = some u → isOwn T own k t = true → u = gh.V d) :
    AVR P T gh v (viewR T d own ts g).1 := by
  unfold ResR at h
  split at h
  · rename_i t
    simp only [viewR, viewOne]
    unfold ResAt at h
    cases hc : isOwn T own 0 t with
    | true => exact ho1 t rfl hc
    | false =>
      rw [hc] at h
      simp only [Bool.false_eq_true, if_false] at h
      exact view_AVR hT h
  · rename_i hne
    obtain ⟨vs, hv, hrs⟩ := h
    have : (viewR T d own ts g).1 = .tup (views T d own g 0 ts) := by
      unfold viewR
      split
      · rename_i t; exact absurd rfl (hne t)
      · rfl
    rw [this]
    exact ⟨vs, hv, res_any hT hrs fun k t u h1 h2 h3 => ho2 vs hv k t u h1 h2 (by simpa using h3)⟩
theorem flat_noOwn {d : Nat} {own : Option Nat} {ts : List TypeId} {g : G} (h : every (flat T deep) ts = true) : ownWs T d own ts g = [] := by
  unfold ownWs
  split
  · rfl
  · split
    · rfl
    · rename_i t ht
      rw [atL_eq] at ht
      have := (every_iff _ _).1 h _ (List.mem_of_getElem? ht)
      split
      · rename_i e he
        simp [deep, flat, he] at this
      · rfl
theorem flat_isOwn {own : Option Nat} {i : Nat} {t : TypeId} (h : flat T deep t = true) : isOwn T own i t = false := by
  cases hc : isOwn T own i t with
  | false => rfl
  | true =>
    obtain ⟨e, he, _⟩ := isOwn_sl hc
    simp [deep, flat, he] at h
theorem run_callOp {c : Call} {fo : Operand} {g : FuncId} {cvs : List Value} {fn : Func} (ho : o.op = .call c) (hc : c.callee = .value fo) (hf : a.eval fo = .func (.func g) #[] cvs.toArray) (hfn : P.funcs[g]? = some fn) (hname : (fn.name == "runtime.NumGoroutine") = false) (hb : fn.body.isSome = true) :
    (execOp a.eval o).run P w = .ok (.enter g (c.args.toList.map a.eval ++ cvs).toArray) w := by
  obtain ⟨callee, args, argTypes⟩ := c
  simp only at hc
  subst hc
  have hnb : fn.body.isNone = false := by cases hq : fn.body <;> simp_all
  have he : (args.map a.eval ++ cvs.toArray) = (args.toList.map a.eval ++ cvs).toArray := Array.toList_inj.1 (by simp)
  simp only [execOp, ho, resolve, hf, Deferred.ofValue, Array.empty_append, Sem.run_bind, Sem.run_pure, Result.andThen_ok, invoke, callFunc, run_program, hfn, hname, Bool.false_eq_true, if_false, hnb, he]
end
end Go.Proofs.Ytihipeicmbgegaa.Rf

namespace Go.Proofs.Ytihipeicmbgegaa.Rf
open Go Go.RowKit
set_option linter.unusedVariables false
set_option linter.unusedSimpArgs false
theorem do_call {E : Env} {B : List Nat} {I0 : Nat → Nat → Option Value} {w0 : World} {gh : Gh} {w : World} {H : Nat → Option Obj} {a : Act} {o : Oper} {Q : Exit → Act → World → Prop} {c : Call} {fo : Operand} {g : FuncId} {cs : List AV} {v : Operand → AV} {d : Nat} {α : Type} {K : AV → Ws → Option α} {r : α}
    (hT : tabOk E.P E.T = true) (h : HR E.P E.T B I0 w0 gh w H) (ho : o.op = .call c) (hc : c.callee = .value fo) (hvf : v fo = .fn g cs)
    (hv : ∀ x, AVR E.P E.T gh (a.eval x) (v x)) (hr : ∀ x, ∀ o ∈ refs (v x), (H o).isSome = true)
    (hgood : ∀ f as r, E.call f as = some r → Good E.P E.T E.own f as r) (hnames : ∀ (f : FuncId) (fn : Func), E.P.funcs[f]? = some fn → (fn.name == "runtime.NumGoroutine") = false)
    (hK : call E H d g (cat (mp v c.args.toList) cs) K = some r) :
    ∃ av ws, (∀ {β : Type} (K' : AV → Ws → Option β), call E H d g (cat (mp v c.args.toList) cs) K' = K' av ws) ∧ Does E.P E.T B I0 w0 gh w H a o Q av ws := by
  have hK0 := hK
  unfold call at hK
  split at hK
  · cases hK
  · rename_i fn hfn
    have hfn' : E.P.funcs[g]? = some fn := by rw [atL_eq] at hfn; simpa using hfn
    split at hK
    · rename_i bd as ws os hbd hargs
      cases hck : distinct (mp (·.1) os) && every (fun w => !has (mp (·.1) os) w.1) ws with
      | false => rw [hck] at hK; cases hK
      | true =>
      rw [hck, cnd_true] at hK
      split at hK
      · cases hK
      · rename_i rr hrr
        -- a new row's number is free
        have hfree : ∀ j, E.own g = some j → H d = none := by
          intro j hj
          rw [hj] at hK
          simp only [viewOk, anew] at hK
          split at hK
          · assumption
          · cases hK
        have hvo : ∀ {β : Type} (x : Option β), viewOk (E.own g) H d x = x := by
          intro β x
          cases hj : E.own g with
          | none => rfl
          | some j => simp only [viewOk, anew, hfree j hj]
        refine ⟨(viewR E.T d (E.own g) fn.resultTypes.toList rr.1).1, cat (cnd (every (flat E.T deep) fn.resultTypes.toList && noObjs os) [] ws) (cat (finals os rr.2 H) (viewR E.T d (E.own g) fn.resultTypes.toList rr.1).2), fun K' => ?_, ?_⟩
        · unfold call
          simp only [hfn, hbd, hargs, hck, cnd_true, hrr, hvo]
        -- the call
        simp only [Bool.and_eq_true, mp_eq] at hck
        obtain ⟨hdist, hdis⟩ := hck
        obtain ⟨cvs, hfe, hcvs⟩ := (show AVR E.P E.T gh (a.eval fo) (.fn g cs) from hvf ▸ hv fo)
        have hvals : AVRs E.P E.T gh (c.args.toList.map a.eval ++ cvs) (cat (mp v c.args.toList) cs) := AVRs_append (AVRs_map c.args.toList hv) hcvs
        have hrefs : ∀ o ∈ refsL (cat (mp v c.args.toList) cs), (H o).isSome = true := by
          intro o ho
          rw [refsL_cat] at ho
          rcases List.mem_append.1 ho with ho | ho
          · exact refsL_mp hr _ o ho
          · exact hr fo o (by rw [hvf]; simpa [refs] using ho)
        have hsh := args_ok hargs
        obtain ⟨I', hI, h1⟩ := h.shares hsh
        have hno : ∀ p ∈ os, ∀ y, (p.1, y) ∉ ws := by
          intro p hp y hy
          have := (every_iff _ _).1 hdis _ hy
          have hm : has (os.map (·.1)) p.1 = true := (has_iff _ _).2 (List.mem_map.2 ⟨p, hp, rfl⟩)
          simp [hm] at this
        obtain ⟨hA, hO⟩ := args_R hT hsh rfl h1 (AVRs.mono (Gh.le_I (H := H) hI) _ hrefs hvals) hargs (fun p hp => hp) hno
        have hHo : ∀ p ∈ os, wrF ws H p.1 = H p.1 := fun p hp => wrF_other _ _ _ (hno p hp)
        have hnd := objs_nodup h1 hO hHo hdist
        have hbs : fn.body.isSome = true := by rw [hbd]; rfl
        have hcall := hgood g as rr hrr fn hfn' w I' _ (by rw [cat_eq] at hA; exact hA) h1.imm hnd
        intro next hnext
        unfold Oper.wp
        rw [run_callOp ho hc hfe hfn' (hnames g fn hfn') hbs]
        refine Calls.mono hcall ?_
        rintro e w' ⟨val, I'', rfl, hI2, hold, himm, hup, hres, hfin⟩
        show next (a.put o.dst val) w'
        cases hfl : every (flat E.T deep) fn.resultTypes.toList && noObjs os with
        | true =>
          -- nothing is shared by this call
          simp only [Bool.and_eq_true] at hfl
          obtain ⟨hfl1, hfl2⟩ := hfl
          have hos : os = [] := by cases os with
            | nil => rfl
            | cons x r => cases hfl2
          subst hos
          have hB : refB (c.args.toList.map a.eval ++ cvs) as = [] := by
            cases hq : refB (c.args.toList.map a.eval ++ cvs) as with
            | nil => rfl
            | cons b r =>
              obtain ⟨p, hp, _⟩ := objs_refB hO b (by rw [hq]; simp)
              cases hp
          rw [hB] at hup
          refine hnext val w' gh (Gh.le.refl _ _) ?_ ?_
          · have hz : (viewR E.T d (E.own g) fn.resultTypes.toList rr.1).2 = [] := flat_noOwn hfl1
            rw [hz]
            simp only [hfl1, hfl2, Bool.and_self, cnd_true, cat, finals, wrF]
            exact h.quiet hup
          · unfold ResR at hres
            unfold viewR
            split at hres
            · rename_i t ht
              have hft : flat E.T deep t = true := by rw [ht] at hfl1; simpa [every] using hfl1
              simp only [viewOne, ht, flat_isOwn hft, cnd_false]
              unfold ResAt at hres
              rw [flat_isOwn hft] at hres
              simp only [Bool.false_eq_true, if_false] at hres
              exact view_AVR hT ⟨hres.1.flat deep hft, hres.2⟩
            · rename_i hne
              obtain ⟨vs, hvs, hrs⟩ := hres
              split
              · rename_i t ht; exact absurd ht (hne t)
              · exact ⟨vs, hvs, res_flat hT hfl1 hrs⟩
        | false =>
          obtain ⟨h2, hlt⟩ := h1.called hO hHo hdist hI2 hold himm hup hfin
          have hle : Gh.le H gh { gh with I := I'' } := ⟨fun b off v hv => hI2 _ _ _ (hI _ _ _ hv), fun _ _ => ⟨rfl, rfl⟩⟩
          simp only [hfl, cnd_false, cat_eq, wrF_append] at hnext
          cases how : ownWs E.T d (E.own g) fn.resultTypes.toList rr.1 with
          | nil =>
            refine hnext val w' _ hle (by show HR _ _ _ _ _ _ _ (wrF (ownWs _ _ _ _ _) _); rw [how]; exact h2) ?_
            -- no result is a row of the caller's own
            have hno2 : ∀ k t, fn.resultTypes.toList[k]? = some t → isOwn E.T (E.own g) k t = false := by
              intro k t ht
              cases hq : isOwn E.T (E.own g) k t with
              | false => rfl
              | true =>
                obtain ⟨e, he, hj⟩ := isOwn_sl hq
                unfold ownWs at how
                rw [hj] at how
                simp only [atL_eq, ht, he] at how
                cases how
            exact res_view (gh := { gh with I := I'' }) hT hres (fun t0 ht0 hq => by rw [hno2 0 t0 (by rw [ht0]; rfl)] at hq; cases hq) (fun vs _ k t u hk _ hq => by rw [hno2 k t hk] at hq; cases hq)
          | cons x r' =>
            -- one is
            obtain ⟨j, t, e, hj, hjt, hte, hx⟩ : ∃ j t e, E.own g = some j ∧ atL fn.resultTypes.toList j = some t ∧ ty E.T t = .sl e ∧ ownWs E.T d (E.own g) fn.resultTypes.toList rr.1 = [(d, .row e (partG fn.resultTypes.toList rr.1 j).toList .own)] := by
              unfold ownWs at how ⊢
              split at how
              · cases how
              · rename_i j hj
                split at how
                · cases how
                · rename_i t ht
                  split at how
                  · rename_i e he
                    refine ⟨j, t, e, hj, ht, he, ?_⟩
                    simp only [hj, ht, he]
                  · cases how
            have hres' := hres
            rw [hj] at hres
            obtain ⟨u, hrow, hu⟩ := own_value hres hjt hte
            have hd := hfree j hj
            have hd2 : wrF (finals os rr.2 H) (wrF ws H) d = none := by
              cases hq : wrF (finals os rr.2 H) (wrF ws H) d with
              | none => rfl
              | some ob =>
                rcases finals_at hO hdist hfin d ob hq with ⟨_, h3⟩ | ⟨_, _, _, _, _, _, _, h3, _⟩
                · rw [wrF_none hsh hd] at h3; cases h3
                · rw [hd] at h3; cases h3
            have hwb : w0.heap.size ≤ w.heap.size := h.up.size
            have hge : ∀ b, blkV u = some b → w.heap.size ≤ b := by
              intro b hb
              rcases hrow with ⟨p, rfl, _⟩ | ⟨xs, h3, _⟩
              · cases p <;> simp [blkV] at hb
              · exact own_blk_ge h3 hb
            have h3 := h2.add2 (d := d) (v := u) (y := .row e) (ob := .row e (partG fn.resultTypes.toList rr.1 j).toList .own) hd2 (fun o' ob' b ho' hl' hb hb' => by
                have := hlt o' ob' b ho' hl' hb'
                have := hge b hb
                omega) (by
                refine ⟨updF_same _ _ _, ?_⟩
                rcases hrow with ⟨p, h4, h5⟩ | ⟨xs, h4, h5, h6⟩
                · exact .inl ⟨p, by simp only [Gh.put, updF_same]; exact h4, h5⟩
                · exact .inr ⟨xs, by simp only [Gh.put, updF_same]; exact ownsRow_base h4 hwb, h5, by simp only [Gh.put, updF_same]; exact h6⟩)
            have hle2 : Gh.le H gh (Gh.put { gh with I := I'' } d u (.row e)) := hle.trans (Gh.le_put hd2 _ _) (fun o ho => by
                refine wrF_some _ _ _ (wrF_some _ _ _ ho))
            refine hnext val w' _ hle2 (by show HR _ _ _ _ _ _ _ (wrF (ownWs _ _ _ _ _) _); rw [hx]; exact h3) ?_
            have hVd : (Gh.put { gh with I := I'' } d u (.row e)).V d = u := updF_same _ _ _
            refine res_view hT hres' (fun t0 ht0 hq => ?_) (fun vs hvs k t' u' hk hku hq => ?_)
            · rw [hVd]
              rcases hu with ⟨t1, ht1, h4⟩ | ⟨hne, _⟩
              · exact h4
              · exact absurd ht0 (hne t0)
            · rw [hVd]
              obtain ⟨_, _, hk2⟩ := isOwn_sl hq
              rw [hj] at hk2
              obtain rfl : j = k := by simpa using hk2
              rcases hu with ⟨t1, ht1, h4⟩ | ⟨hne, vs', hvs', h5, _⟩
              · -- one result is no tuple of its own reading
                exfalso
                rw [ht1] at hk
                have hj0 : j = 0 := by
                  cases j with
                  | zero => rfl
                  | succ j => simp at hk
                subst h4
                rcases hrow with ⟨p, h6, _⟩ | ⟨xs, h6, _⟩
                · rw [h6] at hvs; cases hvs
                · obtain ⟨_, ⟨h7, _⟩ | ⟨gb, cap, cur, h7, _⟩⟩ := h6
                  · rw [h7] at hvs; cases hvs
                  · rw [h7] at hvs; cases hvs
              · rw [hvs'] at hvs
                have : vs' = vs := by
                  injection hvs with h8
                  exact List.toArray_inj h8
                rw [this, hku] at h5
                simpa using h5
    · cases hK
end Go.Proofs.Ytihipeicmbgegaa.Rf

namespace Go.Proofs.Ytihipeicmbgegaa.Rf
open Go Go.RowKit
set_option linter.unusedVariables false
set_option linter.unusedSimpArgs false
section
variable {P : Program} {T : Tab} {B : List Nat} {I0 : Nat → Nat → Option Value} {w0 : World} {gh : Gh} {w : World} {H : Nat → Option Obj} {a : Act} {o : Oper} {Q : Exit → Act → World → Prop}
theorem anew_some {d : Nat} {β : Type} {x : Option β} {r : β} (h : anew H d x = some r) : H d = none ∧ x = some r := by
  unfold anew at h
  split at h
  · rename_i hd; exact ⟨hd, h⟩
  · cases h
theorem anew_none {d : Nat} {β : Type} (x : Option β) (h : H d = none) : anew H d x = x := by simp [anew, h]
theorem cnd_some {β : Type} {b : Bool} {x : Option β} {r : β} (h : cnd b x none = some r) : b = true ∧ x = some r := by
  cases b
  · cases h
  · exact ⟨rfl, h⟩
theorem mp_one {v : Operand → AV} {xs : List Operand} {y : AV} (h : mp v xs = [y]) : ∃ x, xs = [x] ∧ v x = y := by
  cases xs with
  | nil => cases h
  | cons x r => cases r with
    | nil => simp [mp] at h; exact ⟨x, rfl, h⟩
    | cons x' r => simp [mp] at h
theorem mp_two {v : Operand → AV} {xs : List Operand} {y z : AV} (h : mp v xs = [y, z]) : ∃ x x', xs = [x, x'] ∧ v x = y ∧ v x' = z := by
  cases xs with
  | nil => cases h
  | cons x r => cases r with
    | nil => simp [mp] at h
    | cons x' r => cases r with
      | nil => simp [mp] at h; exact ⟨x, x', rfl, h.1, h.2⟩
      | cons x'' r => simp [mp] at h
theorem do_len {c : Call} {x : AV} {t d : Nat} {v : Operand → AV} {α : Type} {K : Int → Option α} {r : α} (hT : tabOk P T = true) (h : HR P T B I0 w0 gh w H) (ho : o.op = .call c) (hc : c.callee = .builtin .len) (hv : ∀ x, AVR P T gh (a.eval x) (v x)) (hx : mp v c.args.toList = [x]) (ht : c.argTypes.toList = [t]) (hK : lenOp T H t x K = some r) :
    ∃ n : Int, (∀ {β : Type} (K' : Int → Option β), lenOp T H t x K' = K' n) ∧ Does P T B I0 w0 gh w H a o Q (.int .i64 n) [] := by
  obtain ⟨callee, args, argTypes⟩ := c
  simp only at hc hx ht
  subst hc
  obtain ⟨xo, hxs, hxv⟩ := mp_one hx
  have hav := hv xo
  rw [hxv] at hav
  unfold lenOp at hK
  split at hK
  · rename_i l hty
    have hav : a.eval xo = .string ⟨⟨l⟩⟩ := hav
    exact ⟨_, fun K' => by first | rfl | (simp only [lenOp, hty]), does_len h ho hxs ht (.inl ⟨und_str hT hty, l, hav, rfl⟩)⟩
  · rename_i e hty
    have hav : a.eval xo = .slice none 0 0 := hav
    exact ⟨0, fun K' => by first | rfl | (simp only [lenOp, hty]), does_len (n := 0) h ho hxs ht (.inr ⟨⟨e, (und_sl hT hty).1⟩, none, 0, hav⟩)⟩
  · rename_i e e' es hty
    have hs : ∃ p c, a.eval xo = .slice p es.length c := by
      rcases hav with ⟨p, c, hq, rfl⟩ | ⟨b, off, c, hq, _⟩
      · exact ⟨p, c, hq⟩
      · exact ⟨_, c, hq⟩
    obtain ⟨p, c, hq⟩ := hs
    exact ⟨_, fun K' => by first | rfl | (simp only [lenOp, hty]), does_len h ho hxs ht (.inr ⟨⟨e, (und_sl hT hty).1⟩, p, c, hq⟩)⟩
  · rename_i e oo hty
    have hav : a.eval xo = gh.V oo := hav
    split at hK
    · rename_i e' es hob
      have hs : ∃ p c, gh.V oo = .slice p es.length c := by
        obtain ⟨hY, ⟨p, hV, rfl⟩ | ⟨xs, ⟨_, ⟨hV, hn⟩ | ⟨g, cap, cur, hV, _⟩⟩, _⟩⟩ := h.obj oo _ hob
        · exact ⟨p, 0, hV⟩
        · rw [hn]; exact ⟨none, 0, hV⟩
        · exact ⟨_, cap, hV⟩
      obtain ⟨p, c, hq⟩ := hs
      exact ⟨_, fun K' => by first | rfl | (simp only [lenOp, hty, hob]), does_len h ho hxs ht (.inr ⟨⟨e, (und_sl hT hty).1⟩, p, c, hav.trans hq⟩)⟩
    · rename_i e' es hob
      have hs : ∃ p c, gh.V oo = .slice p es.length c := by
        obtain ⟨hY, ⟨p, c, hV, rfl⟩ | ⟨b, off, c, hV, _⟩⟩ := h.obj oo _ hob
        · exact ⟨p, c, hV⟩
        · exact ⟨_, c, hV⟩
      obtain ⟨p, c, hq⟩ := hs
      exact ⟨_, fun K' => by first | rfl | (simp only [lenOp, hty, hob]), does_len h ho hxs ht (.inr ⟨⟨e, (und_sl hT hty).1⟩, p, c, hav.trans hq⟩)⟩
    · cases hK
  · cases hK
end
theorem do_core {E : Env} {B : List Nat} {I0 : Nat → Nat → Option Value} {w0 : World} {gh : Gh} {w : World} {H : Nat → Option Obj} {a : Act} {o : Oper} {Q : Exit → Act → World → Prop} {v : Operand → AV} {d : Nat} {α : Type} {K : AV → Ws → Option α} {r : α}
    (hT : tabOk E.P E.T = true) (h : HR E.P E.T B I0 w0 gh w H) (hv : ∀ x, AVR E.P E.T gh (a.eval x) (v x)) (hr : ∀ x, ∀ o ∈ refs (v x), (H o).isSome = true)
    (hgood : ∀ f as r, E.call f as = some r → Good E.P E.T E.own f as r) (hnames : ∀ (f : FuncId) (fn : Func), E.P.funcs[f]? = some fn → (fn.name == "runtime.NumGoroutine") = false)
    (hK : core E H v d o.type o.op K = some r) :
    ∃ av ws, (∀ {β : Type} (K' : AV → Ws → Option β), core E H v d o.type o.op K' = K' av ws) ∧ Does E.P E.T B I0 w0 gh w H a o Q av ws := by
  have hrd : ∀ {x oo t p}, v x = .ptr oo t p → (H oo).isSome = true := fun {x oo t p} e => hr x oo (by rw [e]; simp [refs])
  cases hop : o.op with
  | move x => exact ⟨_, _, fun K' => rfl, does_move h (.inl hop) (hv x)⟩
  | assign x =>
    simp only [hop, core] at hK ⊢
    unfold assignOp at hK ⊢
    split at hK
    · rename_i e hn hty
      obtain ⟨hd, _⟩ := anew_some hK
      have hx : x = .const (.slice none 0 0) := by
        unfold isNilC at hn
        split at hn
        · rfl
        · cases hn
      subst hx
      exact ⟨_, _, fun K' => by (try simp only [hn, hty]); exact anew_none _ hd, does_nil h hop hd⟩
    · rename_i hno
      refine ⟨_, _, fun K' => ?_, does_move h (.inr hop) (hv x)⟩
      first
        | rfl
        | (split
           · rename_i e hn hty; exact absurd hty (hno e hn)
           · rfl)
  | pick c x y =>
    simp only [hop, core] at hK ⊢
    split at hK
    · rename_i b hb
      have hc := hv c
      rw [hb] at hc
      cases b with
      | true => exact ⟨v x, [], fun K' => by first | rfl | (simp only [hb]; rfl), does_pick (b := true) h hop hc (hv x)⟩
      | false => exact ⟨v y, [], fun K' => by first | rfl | (simp only [hb]; rfl), does_pick (b := false) h hop hc (hv y)⟩
    · cases hK
  | alloc e =>
    simp only [hop, core] at hK ⊢
    obtain ⟨hk, hK1⟩ := cnd_some hK
    obtain ⟨hd, _⟩ := anew_some hK1
    exact ⟨_, _, fun K' => by rw [hk, cnd_true, anew_none _ hd], does_alloc hT h hop (known_ne hk) hd⟩
  | box e x =>
    simp only [hop, core] at hK ⊢
    split at hK
    · rename_i g hg
      obtain ⟨hd, _⟩ := anew_some hK
      exact ⟨_, _, fun K' => by (try simp only [hg]); exact anew_none _ hd, does_box hT h hop (hv x) (hr x) hg hd⟩
    · cases hK
  | build t ps =>
    simp only [hop, core] at hK ⊢
    split at hK
    · rename_i ts ht
      split at hK
      · rename_i gs ws hp
        exact ⟨_, _, fun K' => by first | rfl | (simp only [ht, hp]), does_build_tu hT h hop ht hv hr hp⟩
      · cases hK
    · rename_i n e ht
      split at hK
      · rename_i gs ws hp
        exact ⟨_, _, fun K' => by first | rfl | (simp only [ht, hp]), does_build_arr hT h hop ht hv hr hp⟩
      · cases hK
    · cases hK
  | buildSlice t n ps =>
    simp only [hop, core] at hK ⊢
    split at hK
    · rename_i e ht
      split at hK
      · rename_i gs ws hp
        obtain ⟨hk, hK1⟩ := cnd_some hK
        obtain ⟨hd, _⟩ := anew_some hK1
        have hk0 := hk
        simp only [Bool.and_eq_true] at hk
        exact ⟨_, _, fun K' => by (try simp only [ht, hp]); rw [hk0, cnd_true, anew_none _ hd], does_buildSlice hT h hop ht hk.1 (by simpa using hk.2) hd hv hr hp⟩
      · cases hK
    · cases hK
  | load t x =>
    simp only [hop, core] at hK ⊢
    have hx := hv x
    split at hK
    · rename_i oo t' p hvx
      rw [hvx] at hx
      obtain ⟨hk, hK1⟩ := cnd_some hK
      have hk' := beqI hk
      subst hk'
      split at hK1
      · rename_i g hg
        obtain ⟨ob, hob, hobg⟩ := Option.bind_eq_some_iff.1 hg
        exact ⟨_, _, fun K' => by (try simp only [hvx, hg]); rw [hk]; rfl, does_load hT h hop hx hob hobg⟩
      · cases hK1
    · rename_i t' g hvx
      rw [hvx] at hx
      obtain ⟨hk, hK1⟩ := cnd_some hK
      have hk' := beqI hk
      subst hk'
      exact ⟨_, _, fun K' => by (try simp only [hvx]); rw [hk]; rfl, does_load_ro hT h hop hx⟩
    · cases hK
  | store t x y =>
    simp only [hop, core] at hK ⊢
    have hx := hv x
    split at hK
    · rename_i oo t' p hvx
      rw [hvx] at hx
      obtain ⟨hk, hK1⟩ := cnd_some hK
      have hk0 := hk
      simp only [Bool.and_eq_true] at hk
      have hk' := beqI hk.1
      subst hk'
      split at hK1
      · rename_i ob g hob hg
        split at hK1
        · rename_i g0 hg0
          split at hK1
          · rename_i ob' hput
            exact ⟨_, _, fun K' => by (try simp only [hvx, hob, hg, hg0, hput]); rw [hk0]; rfl, does_store hT h hop hx (hv y) (hr y) (hrd hvx) hk.2 hob hg hg0 hput⟩
          · cases hK1
        · cases hK1
      · cases hK1
    · cases hK
  | nilCheck x =>
    simp only [hop, core] at hK ⊢
    have hx := hv x
    split at hK
    · rename_i oo t p hvx
      rw [hvx] at hx
      exact ⟨_, _, fun K' => by first | rfl | (simp only [hvx]), does_nilCheck h hop hx (.inl ⟨_, _, _, rfl⟩)⟩
    · rename_i t g hvx
      rw [hvx] at hx
      exact ⟨_, _, fun K' => by first | rfl | (simp only [hvx]), does_nilCheck h hop hx (.inr (.inl ⟨_, _, rfl⟩))⟩
    · rename_i f cs hvx
      rw [hvx] at hx
      exact ⟨_, _, fun K' => by first | rfl | (simp only [hvx]), does_nilCheck h hop hx (.inr (.inr ⟨_, _, rfl⟩))⟩
    · cases hK
  | binOp op xt x y yt =>
    simp only [hop, core] at hK ⊢
    obtain ⟨av, h1, _, h3⟩ := does_binOp hT h hop (hv x) (hv y) hK
    exact ⟨av, [], fun K' => h1 _, h3⟩
  | unOp op xt x =>
    simp only [hop, core] at hK ⊢
    obtain ⟨av, h1, _, h3⟩ := does_unOp h hop (hv x) hK
    exact ⟨av, [], fun K' => h1 _, h3⟩
  | convert src dst x =>
    simp only [hop, core] at hK ⊢
    have hx := hv x
    split at hK
    · rename_i k0 k' k n h1 h2 hvx
      rw [hvx] at hx
      exact ⟨_, _, fun K' => by first | rfl | (simp only [h1, h2, hvx]), does_conv_int hT h hop h1 h2 hx⟩
    · rename_i l h1 h2 hvx
      rw [hvx] at hx
      exact ⟨_, _, fun K' => by first | rfl | (simp only [h1, h2, hvx]), does_conv_str hT h hop h1 h2 hx⟩
    · rename_i e l h1 h2 hvx
      rw [hvx] at hx
      split at hK
      · rename_i h3
        exact ⟨_, _, fun K' => by first | rfl | (simp only [h1, h2, hvx, h3]), does_conv_bytes hT h hop h1 h2 h3 hx⟩
      · cases hK
    · rename_i e h1 h2
      split at hK
      · rename_i es h3 hes
        exact ⟨_, _, fun K' => by first | rfl | (simp only [h1, h2, h3, hes]), does_conv_string hT h hop h1 h2 h3 hx hes⟩
      · cases hK
    · cases hK
  | makeSlice t l c =>
    simp only [hop, core] at hK ⊢
    have hx := hv l
    have hy := hv c
    split at hK
    · rename_i e kl l' kc c' ht hl hc
      rw [hl] at hx
      rw [hc] at hy
      obtain ⟨hk, hK1⟩ := cnd_some hK
      obtain ⟨hd, _⟩ := anew_some hK1
      have hk0 := hk
      simp only [Bool.and_eq_true, decide_eq_true_eq] at hk
      exact ⟨_, _, fun K' => by (try simp only [ht, hl, hc]); rw [hk0, cnd_true, anew_none _ hd], does_makeSlice hT h hop ht hk.1 hd hx hy hk.2.1.1 hk.2.1.2 hk.2.2⟩
    · cases hK
  | slice t x lo hi mx =>
    simp only [hop, core] at hK ⊢
    exact does_slice hT h hop hv hr hK
  | fieldAddr s x f =>
    simp only [hop, core] at hK ⊢
    have hx := hv x
    split at hK
    · cases hK
    · rename_i ft hf
      split at hK
      · rename_i oo t' p hvx
        rw [hvx] at hx
        obtain ⟨hk, hK1⟩ := cnd_some hK
        have hk' := beqI hk
        subst hk'
        exact ⟨_, _, fun K' => by (try simp only [hvx]); rw [hk]; rfl, does_fieldAddr hT h hop hf hx⟩
      · rename_i t' g hvx
        rw [hvx] at hx
        obtain ⟨hk, hK1⟩ := cnd_some hK
        have hk' := beqI hk
        subst hk'
        exact ⟨_, _, fun K' => by (try simp only [hvx]); rw [hk]; rfl, does_fieldAddr_ro hT h hop hf hx⟩
      · cases hK
  | field s x f =>
    simp only [hop, core] at hK ⊢
    have hx := hv x
    split at hK
    · cases hK
    · rename_i ft hf
      split at hK
      · rename_i t' g hvx
        rw [hvx] at hx
        obtain ⟨hk, hK1⟩ := cnd_some hK
        have hk' := beqI hk
        subst hk'
        exact ⟨_, _, fun K' => by (try simp only [hvx]); rw [hk]; rfl, does_field hT h hop hf hx⟩
      · cases hK
  | indexAddr t x i =>
    simp only [hop, core] at hK ⊢
    have hx := hv x
    have hi := hv i
    split at hK
    · rename_i k n hvi
      rw [hvi] at hi
      split at hK
      · rename_i e es e' hvx ht
        rw [hvx] at hx
        obtain ⟨hk, hK1⟩ := cnd_some hK
        have hk' := beqI hk
        subst hk'
        obtain ⟨hn, hK2⟩ := cnd_some hK1
        exact ⟨_, _, fun K' => by (try simp only [hvi, hvx, ht]); rw [hk, hn]; rfl, does_indexAddr_sl hT h hop ht hx hi (idx_ok hn)⟩
      · rename_i oo e' hvx ht
        rw [hvx] at hx
        split at hK
        · rename_i e es m hob
          obtain ⟨hk, hK1⟩ := cnd_some hK
          have hk' := beqI hk
          subst hk'
          obtain ⟨hn, hK2⟩ := cnd_some hK1
          exact ⟨_, _, fun K' => by (try simp only [hvi, hvx, ht, hob]); rw [hk, hn]; rfl, does_indexAddr_row hT h hop ht hx hob hi (idx_ok hn)⟩
        · cases hK
      · rename_i oo t' p m e hvx ht
        rw [hvx] at hx
        obtain ⟨hk, hK1⟩ := cnd_some hK
        have hk' := beqI hk
        subst hk'
        obtain ⟨hn, hK2⟩ := cnd_some hK1
        exact ⟨_, _, fun K' => by (try simp only [hvi, hvx, ht]); rw [hk, hn]; rfl, does_indexAddr_ptr hT h hop ht hx hi (idx_ok hn)⟩
      · rename_i t' g m e hvx ht
        rw [hvx] at hx
        obtain ⟨hk, hK1⟩ := cnd_some hK
        have hk' := beqI hk
        subst hk'
        obtain ⟨hn, hK2⟩ := cnd_some hK1
        exact ⟨_, _, fun K' => by (try simp only [hvi, hvx, ht]); rw [hk, hn]; rfl, does_indexAddr_ro hT h hop ht hx hi (idx_ok hn)⟩
      · cases hK
    · cases hK
  | index t x i =>
    simp only [hop, core] at hK ⊢
    have hx := hv x
    have hi := hv i
    split at hK
    · rename_i k n hvi
      rw [hvi] at hi
      split at hK
      · rename_i l hvx ht
        rw [hvx] at hx
        obtain ⟨hn, hK1⟩ := cnd_some hK
        exact ⟨_, _, fun K' => by (try simp only [hvi, hvx, ht]); rw [hn]; rfl, does_index_str (und_str hT ht) h hop hx hi (idx_ok hn)⟩
      · rename_i t' g m e hvx ht
        rw [hvx] at hx
        obtain ⟨hk, hK1⟩ := cnd_some hK
        have hk' := beqI hk
        subst hk'
        obtain ⟨hn, hK2⟩ := cnd_some hK1
        exact ⟨_, _, fun K' => by (try simp only [hvi, hvx, ht]); rw [hk, hn]; rfl, does_index_arr hT h hop ht hx hi (idx_ok hn)⟩
      · cases hK
    · cases hK
  | extract x i =>
    simp only [hop, core] at hK ⊢
    have hx := hv x
    split at hK
    · rename_i vs hvx
      rw [hvx] at hx
      split at hK
      · rename_i b0 hb0
        exact ⟨_, _, fun K' => by first | rfl | (simp only [hvx, hb0]), does_extract h hop hx hb0⟩
      · cases hK
    · cases hK
  | makeFunc fn first cs =>
    cases fn with
    | func f =>
      simp only [hop, core] at hK ⊢
      obtain ⟨hk, hK1⟩ := cnd_some hK
      exact ⟨_, _, fun K' => by rw [hk]; rfl, does_makeFunc h hop (beqI hk) hv⟩
    | _ => rw [hop] at hK; cases hK
  | call c =>
    simp only [hop, core] at hK ⊢
    cases hc : c.callee with
    | builtin b =>
      simp only [hc] at hK ⊢
      cases b <;> simp only at hK ⊢ <;> try (cases hK; done)
      case append =>
        split at hK
        · rename_i s x st xt hargs hts
          obtain ⟨hk, hK1⟩ := cnd_some hK
          have hk' := beqI hk
          subst hk'
          obtain ⟨xo, yo, hxs, h1, h2⟩ := mp_two hargs
          obtain ⟨callee, args, argTypes⟩ := c
          simp only at hc hxs hts hargs
          subst hc
          obtain ⟨av, ws, h3, h4⟩ := does_append hT h hop hxs hts (h1 ▸ hv xo) (h2 ▸ hv yo) hK1
          exact ⟨av, ws, fun K' => by (try simp only [hargs, hts]); rw [hk]; exact h3 K', h4⟩
        · cases hK
      case len =>
        split at hK
        · rename_i x t' hx ht
          obtain ⟨n, h1, h2⟩ := do_len (d := d) hT h hop hc hv hx ht hK
          exact ⟨_, _, fun K' => by (try simp only [hx, ht]); exact h1 _, h2⟩
        · cases hK
      case max =>
        split at hK
        · rename_i k m k' n hx
          obtain ⟨xo, yo, hxs, h1, h2⟩ := mp_two hx
          obtain ⟨callee, args, argTypes⟩ := c
          simp only at hc hxs hx
          subst hc
          have e1 : a.eval xo = .int k m := by have := hv xo; rw [h1] at this; exact this
          have e2 : a.eval yo = .int k' n := by have := hv yo; rw [h2] at this; exact this
          exact ⟨_, _, fun K' => by first | rfl | (simp only [hx]), does_max h hop hxs e1 e2⟩
        · cases hK
      case min =>
        split at hK
        · rename_i k m k' n hx
          obtain ⟨xo, yo, hxs, h1, h2⟩ := mp_two hx
          obtain ⟨callee, args, argTypes⟩ := c
          simp only at hc hxs hx
          subst hc
          have e1 : a.eval xo = .int k m := by have := hv xo; rw [h1] at this; exact this
          have e2 : a.eval yo = .int k' n := by have := hv yo; rw [h2] at this; exact this
          exact ⟨_, _, fun K' => by first | rfl | (simp only [hx]), does_min h hop hxs e1 e2⟩
        · cases hK
    | value fo =>
      simp only [hc] at hK ⊢
      split at hK
      · rename_i g cs hvf
        obtain ⟨av, ws, h1, h2⟩ := do_call hT h hop hc hvf hv hr hgood hnames hK
        exact ⟨av, ws, fun K' => by (try simp only [hvf]); exact h1 K', h2⟩
      · cases hK
    | invoke x m => simp only [hc] at hK; cases hK
  | _ => rw [hop] at hK; cases hK
end Go.Proofs.Ytihipeicmbgegaa.Rf

namespace Go.Proofs.Ytihipeicmbgegaa.Rf
open Go Go.RowKit
set_option linter.unusedVariables false
set_option linter.unusedSimpArgs false
/-- A state says what the frame and the world are. -/
structure SR (E : Env) (B : List Nat) (I0 : Nat → Nat → Option Value) (w0 : World) (gh : Gh) (a : Act) (w : World) (s : St) : Prop where
  hr : HR E.P E.T B I0 w0 gh w (look s.hp)
  sl : ∀ t av, look s.tm t = some av → AVR E.P E.T gh (a.tmps.getD t undef) av
  rf : ∀ t av, look s.tm t = some av → ∀ o ∈ refs av, (look s.hp o).isSome = true
  nd : a.defers = []
  nt : a.tmps.size = E.nt
section
variable {E : Env} {B : List Nat} {I0 : Nat → Nat → Option Value} {w0 : World} {gh : Gh} {a : Act} {w : World} {s : St}
theorem SR.get (h : SR E B I0 w0 gh a w s) (x : Operand) : AVR E.P E.T gh (a.eval x) (getOp s.tm x) := by
  cases x with
  | tmp t =>
    show AVR E.P E.T gh (a.eval (.tmp t)) ((look s.tm t).getD .undef)
    cases hl : look s.tm t with
    | none => trivial
    | some av => exact h.sl t av hl
  | const v =>
    show AVR E.P E.T gh v (constAV v)
    unfold constAV
    split
    · rfl
    · rfl
    · rfl
    · rfl
    · trivial
  | global g => trivial
  | func f => exact ⟨[], rfl, trivial⟩
theorem SR.refs (h : SR E B I0 w0 gh a w s) (x : Operand) : ∀ o ∈ refs (getOp s.tm x), (look s.hp o).isSome = true := by
  cases x with
  | tmp t =>
    show ∀ o ∈ Rf.refs ((look s.tm t).getD .undef), _
    cases hl : look s.tm t with
    | none => intro o ho; cases ho
    | some av => exact h.rf t av hl
  | const v =>
    show ∀ o ∈ Rf.refs (constAV v), _
    unfold constAV
    split <;> (intro o ho; cases ho)
  | global g => intro o ho; cases ho
  | func f => intro o ho; cases ho
theorem put_getD {a : Act} {d t : Nat} {v : Value} (hd : d < a.tmps.size) : (a.put (some d) v).tmps.getD t undef = if t = d then v else a.tmps.getD t undef := by
  by_cases h : t = d
  · subst h
    simp [Act.put, hd]
  · have h' : d ≠ t := fun e => h e.symm
    simp [Act.put, h, Array.getElem?_setIfInBounds_ne h']
theorem put_size {a : Act} {d : Option Nat} {v : Value} : (a.put d v).tmps.size = a.tmps.size := by
  cases d <;> simp [Act.put]
theorem put_defers {a : Act} {d : Option Nat} {v : Value} : (a.put d v).defers = a.defers := by
  cases d <;> simp [Act.put]
/-- A state behind an operation. -/
theorem SR.after (h : SR E B I0 w0 gh a w s) {dst : Option Nat} {av : AV} {hp' : Heap} {val : Value} {w' : World} {gh' : Gh} (hle : Gh.le (look s.hp) gh gh') (hr : HR E.P E.T B I0 w0 gh' w' (look hp')) (hs : ∀ o, (look s.hp o).isSome = true → (look hp' o).isSome = true) (hv : AVR E.P E.T gh' val av) (hrf : ∀ o ∈ Rf.refs av, (look hp' o).isSome = true) (hd : inFrame E dst = true) :
    SR E B I0 w0 gh' (a.put dst val) w' { tm := putD s.tm dst av, hp := hp' } where
  hr := hr
  sl := by
    intro t av' ht
    cases dst with
    | none => exact AVR.mono hle av' (h.rf t av' ht) (h.sl t av' ht)
    | some d =>
      have hd' : d < a.tmps.size := by rw [h.nt]; simpa [inFrame] using hd
      rw [put_getD hd']
      simp only [putD, look_put] at ht
      by_cases e : t = d
      · subst e
        rw [if_pos rfl] at ht ⊢
        obtain rfl : av = av' := by simpa using ht
        exact hv
      · rw [if_neg (fun h => e h.symm)] at ht
        rw [if_neg e]
        exact AVR.mono hle av' (h.rf t av' ht) (h.sl t av' ht)
  rf := by
    intro t av' ht
    cases dst with
    | none => exact fun o ho => hs o (h.rf t av' ht o ho)
    | some d =>
      simp only [putD, look_put] at ht
      by_cases e : d = t
      · rw [if_pos e] at ht
        obtain rfl : av = av' := by simpa using ht
        exact hrf
      · rw [if_neg e] at ht
        exact fun o ho => hs o (h.rf t av' ht o ho)
  nd := by rw [put_defers]; exact h.nd
  nt := by rw [put_size]; exact h.nt
theorem HR.sub {P : Program} {T : Tab} {H H' : Nat → Option Obj} (h : HR P T B I0 w0 gh w H) (hs : ∀ o ob, H' o = some ob → H o = some ob) : HR P T B I0 w0 gh w H' :=
  ⟨h.up, h.imm, h.ext, h.old, h.inB, fun o ob ho => h.obj o ob (hs o ob ho), fun o o' ob ob' b hne h1 h2 l1 l2 hb => h.sep o o' ob ob' b hne (hs _ _ h1) (hs _ _ h2) l1 l2 hb⟩
theorem meets_false {l : List Nat} {v : AV} (h : meets l v = false) : ∀ o ∈ Rf.refs v, o ∉ l := by
  intro o ho hm
  simp only [meets, Bool.not_eq_false', every_iff] at h
  have := h o ho
  rw [(has_iff _ _).2 hm] at this
  cases this
theorem SR.fresh (h : SR E B I0 w0 gh a w s) (l : List Nat) : SR E B I0 w0 gh a w (fresh l s) where
  hr := h.hr.sub fun o ob ho => by
    simp only [Rf.fresh, look_without] at ho
    split at ho
    · cases ho
    · exact ho
  sl := by
    intro t av ht
    simp only [Rf.fresh] at ht
    rw [look_mp (f := fun _ v => cnd (meets l v) .undef v)] at ht
    obtain ⟨av0, h1, h2⟩ := Option.map_eq_some_iff.1 ht
    cases hm : meets l av0 with
    | true => rw [hm] at h2; obtain rfl : AV.undef = av := h2; trivial
    | false => rw [hm] at h2; obtain rfl : av0 = av := h2; exact h.sl t _ h1
  rf := by
    intro t av ht o ho
    simp only [Rf.fresh] at ht ⊢
    rw [look_mp (f := fun _ v => cnd (meets l v) .undef v)] at ht
    obtain ⟨av0, h1, h2⟩ := Option.map_eq_some_iff.1 ht
    cases hm : meets l av0 with
    | true => rw [hm] at h2; obtain rfl : AV.undef = av := h2; cases ho
    | false =>
      rw [hm] at h2
      obtain rfl : av0 = av := h2
      rw [look_without]
      rw [if_neg (fun hc => meets_false hm o ho ((has_iff _ _).1 hc))]
      exact h.rf t _ h1 o ho
  nd := h.nd
  nt := h.nt
theorem look_keep (m : Nat) (l : List (Nat × AV)) (n : Nat) : look (keep m l) n = if tb m n = true then look l n else none := by
  induction l with
  | nil => simp [keep, look]
  | cons p r ih =>
    obtain ⟨k, v⟩ := p
    simp only [keep]
    cases hc : tb m k with
    | true =>
      rw [cnd_true, look_cons, look_cons, ih]
      by_cases hk : k = n
      · subst hk; simp [hc]
      · simp [hk]
    | false =>
      rw [cnd_false, ih, look_cons]
      by_cases hk : k = n
      · subst hk; simp [hc]
      · simp [hk]
theorem mem_allRefs : ∀ {l : List (Nat × AV)} {t : Nat} {av : AV}, look l t = some av → ∀ o ∈ Rf.refs av, o ∈ allRefs l
  | [], _, _, h, _, _ => by simp [look] at h
  | (k, v) :: r, t, av, h, o, ho => by
    simp only [allRefs, cat_eq, List.mem_append]
    rw [look_cons] at h
    by_cases hk : k = t
    · rw [if_pos hk] at h
      obtain rfl : v = av := by simpa using h
      exact .inl ho
    · rw [if_neg hk] at h
      exact .inr (mem_allRefs h o ho)
theorem SR.kept (h : SR E B I0 w0 gh a w s) (m : Nat) : SR E B I0 w0 gh a w { tm := keep m s.tm, hp := keepObjs (allRefs (keep m s.tm)) s.hp } where
  hr := h.hr.sub fun o ob ho => by
    simp only [keepObjs, look_without] at ho
    split at ho
    · cases ho
    · exact ho
  sl := by
    intro t av ht
    simp only [look_keep] at ht
    split at ht
    · exact h.sl t av ht
    · cases ht
  rf := by
    intro t av ht o ho
    have hm := mem_allRefs ht o ho
    simp only [look_keep] at ht
    split at ht
    · simp only [keepObjs, look_without]
      rw [if_neg (by simp [(has_iff _ _).2 hm])]
      exact h.rf t av ht o ho
    · cases ht
  nd := h.nd
  nt := h.nt
mutual
theorem AVR.renamed {P : Program} {T : Tab} {gh gh' : Gh} {o t : Nat} (hI : gh'.I = gh.I) (ht : gh'.V t = gh.V o ∧ gh'.Y t = gh.Y o) (hk : ∀ k, k ≠ o → k ≠ t → gh'.V k = gh.V k ∧ gh'.Y k = gh.Y k) {v : Value} : ∀ (x : AV), t ∉ Rf.refs x → AVR P T gh v x → AVR P T gh' v (rename o t x)
  | .undef, _, _ => trivial
  | .no, _, h => h
  | .int _ _, _, h => h
  | .bool _, _, h => h
  | .str _, _, h => h
  | .agg _ _, _, h => by show VR _ _ _ _ _ _ ∧ _; rw [hI]; exact h
  | .sl _ _, _, h => by show SLR _ _ _ _ _ _; rw [hI]; exact h
  | .emp, _, h => h
  | .row k, hn, h => by
    have h : v = gh.V k := h
    show v = gh'.V (cnd (Nat.beq k o) t k)
    by_cases e : k = o
    · subst e; rw [beqT, cnd_true, ht.1]; exact h
    · have hne : k ≠ t := fun e' => hn (by simp [Rf.refs, e'])
      rw [beqF e, cnd_false, (hk k e hne).1]; exact h
  | .ptr k u p, hn, h => by
    obtain ⟨b, off, n, d, h1, h2, h3⟩ := h
    show ∃ b off n d, baseV (gh'.V (cnd (Nat.beq k o) t k)) = _ ∧ pathD P T (gh'.Y (cnd (Nat.beq k o) t k)) n p = _ ∧ _
    by_cases e : k = o
    · subst e
      rw [beqT, cnd_true, ht.1, ht.2]
      exact ⟨b, off, n, d, h1, h2, h3⟩
    · have hne : k ≠ t := fun e' => hn (by simp [Rf.refs, e'])
      rw [beqF e, cnd_false, (hk k e hne).1, (hk k e hne).2]
      exact ⟨b, off, n, d, h1, h2, h3⟩
  | .ro _ _, _, h => by
    obtain ⟨b, off, h1, h2⟩ := h
    exact ⟨b, off, h1, by rw [hI]; exact h2⟩
  | .fn f caps, hn, h => by
    obtain ⟨cs, h1, h2⟩ := h
    exact ⟨cs, h1, AVRs.renamed hI ht hk caps (by simpa [Rf.refs] using hn) h2⟩
  | .tup vs, hn, h => by
    obtain ⟨cs, h1, h2⟩ := h
    exact ⟨cs, h1, AVRs.renamed hI ht hk vs (by simpa [Rf.refs] using hn) h2⟩
theorem AVRs.renamed {P : Program} {T : Tab} {gh gh' : Gh} {o t : Nat} (hI : gh'.I = gh.I) (ht : gh'.V t = gh.V o ∧ gh'.Y t = gh.Y o) (hk : ∀ k, k ≠ o → k ≠ t → gh'.V k = gh.V k ∧ gh'.Y k = gh.Y k) : ∀ {vs : List Value} (xs : List AV), t ∉ refsL xs → AVRs P T gh vs xs → AVRs P T gh' vs (renameL o t xs)
  | [], [], _, h => h
  | v :: vs, x :: xs, hn, h => by
    have hn' : ¬ (t ∈ Rf.refs x ∨ t ∈ refsL xs) := by simpa [refsL, cat_eq] using hn
    exact ⟨AVR.renamed hI ht hk x (fun h => hn' (.inl h)) h.1, AVRs.renamed hI ht hk xs (fun h => hn' (.inr h)) h.2⟩
  | [], _ :: _, _, h => h.elim
  | _ :: _, [], _, h => h.elim
end
mutual
theorem refs_rename (o t : Nat) : ∀ (x : AV) (k : Nat), k ∈ Rf.refs (rename o t x) → (k = t ∧ o ∈ Rf.refs x) ∨ (k ≠ o ∧ k ∈ Rf.refs x)
  | .undef, k, h => by cases h
  | .no, k, h => by cases h
  | .int _ _, k, h => by cases h
  | .bool _, k, h => by cases h
  | .str _, k, h => by cases h
  | .agg _ _, k, h => by cases h
  | .sl _ _, k, h => by cases h
  | .emp, k, h => by cases h
  | .row j, k, h => by
    simp only [rename, Rf.refs, List.mem_singleton] at h ⊢
    by_cases e : j = o
    · subst e; rw [beqT, cnd_true] at h; exact .inl ⟨h, rfl⟩
    · rw [beqF e, cnd_false] at h; subst h; exact .inr ⟨e, rfl⟩
  | .ptr j u p, k, h => by
    simp only [rename, Rf.refs, List.mem_singleton] at h ⊢
    by_cases e : j = o
    · subst e; rw [beqT, cnd_true] at h; exact .inl ⟨h, rfl⟩
    · rw [beqF e, cnd_false] at h; subst h; exact .inr ⟨e, rfl⟩
  | .ro _ _, k, h => by cases h
  | .fn f caps, k, h => by
    simp only [rename, Rf.refs] at h ⊢
    exact refsL_rename o t caps k h
  | .tup vs, k, h => by
    simp only [rename, Rf.refs] at h ⊢
    exact refsL_rename o t vs k h
theorem refsL_rename (o t : Nat) : ∀ (xs : List AV) (k : Nat), k ∈ refsL (renameL o t xs) → (k = t ∧ o ∈ refsL xs) ∨ (k ≠ o ∧ k ∈ refsL xs)
  | [], k, h => by cases h
  | x :: xs, k, h => by
    simp only [renameL, refsL, cat_eq, List.mem_append] at h ⊢
    rcases h with h | h
    · rcases refs_rename o t x k h with ⟨h1, h2⟩ | ⟨h1, h2⟩
      · exact .inl ⟨h1, .inl h2⟩
      · exact .inr ⟨h1, .inl h2⟩
    · rcases refsL_rename o t xs k h with ⟨h1, h2⟩ | ⟨h1, h2⟩
      · exact .inl ⟨h1, .inr h2⟩
      · exact .inr ⟨h1, .inr h2⟩
end
theorem SR.rename (h : SR E B I0 w0 gh a w s) {o t : Nat} {ob : Obj} (ho : look s.hp o = some ob) (ht : look s.hp t = none) : ∃ gh', SR E B I0 w0 gh' a w { tm := renameT o t s.tm, hp := renameH o t s.hp (look s.hp o) } := by
  have hne : o ≠ t := fun e => by rw [e, ht] at ho; cases ho
  have hlook : ∀ k, look (renameH o t s.hp (look s.hp o)) k = if k = t then some ob else if k = o then none else look s.hp k := by
    intro k
    rw [ho]
    simp only [renameH, look_put, look_without]
    by_cases e : k = t
    · subst e; simp
    · rw [if_neg (fun h => e h.symm), if_neg e]
      by_cases e' : k = o
      · subst e'; simp [beqT]
      · simp [beqF e', e']
  refine ⟨{ I := gh.I, V := updF gh.V t (gh.V o), Y := updF gh.Y t (gh.Y o) }, ?_, ?_, ?_, h.nd, h.nt⟩
  · have hprev : ∀ k ob', look (renameH o t s.hp (look s.hp o)) k = some ob' → ∃ k', look s.hp k' = some ob' ∧ updF gh.V t (gh.V o) k = gh.V k' ∧ updF gh.Y t (gh.Y o) k = gh.Y k' ∧ ((k = t ∧ k' = o) ∨ (k ≠ t ∧ k ≠ o ∧ k' = k)) := by
      intro k ob' hk
      rw [hlook] at hk
      by_cases e : k = t
      · subst e
        rw [if_pos rfl] at hk
        obtain rfl : ob = ob' := by simpa using hk
        exact ⟨o, ho, updF_same _ _ _, updF_same _ _ _, .inl ⟨rfl, rfl⟩⟩
      · rw [if_neg e] at hk
        by_cases e' : k = o
        · rw [if_pos e'] at hk; cases hk
        · rw [if_neg e'] at hk
          exact ⟨k, hk, updF_ne _ _ e, updF_ne _ _ e, .inr ⟨e, e', rfl⟩⟩
    refine ⟨h.hr.up, h.hr.imm, h.hr.ext, h.hr.old, h.hr.inB, fun k ob' hk => ?_, fun k k2 ob1 ob2 b hkk h1 h2 l1 l2 hb hb2 => ?_⟩
    · obtain ⟨k', h1, h2, h3, _⟩ := hprev k ob' hk
      have hor := h.hr.obj k' ob' h1
      cases ob' with
      | var t' g m =>
        cases m with
        | own => obtain ⟨x1, b, x2, x3⟩ := hor; exact ⟨h3.trans x1, b, h2.trans x2, x3⟩
        | ref => obtain ⟨x1, b, x2, x3⟩ := hor; exact ⟨h3.trans x1, b, h2.trans x2, x3⟩
        | fz => obtain ⟨x1, b, x2, x3⟩ := hor; exact ⟨h3.trans x1, b, h2.trans x2, x3⟩
      | row e es m =>
        cases m with
        | own =>
          obtain ⟨x1, x2⟩ := hor
          refine ⟨h3.trans x1, ?_⟩
          simp only [h2]
          exact x2
        | ref => exact hor.elim
        | fz =>
          obtain ⟨x1, x2⟩ := hor
          refine ⟨h3.trans x1, ?_⟩
          simp only [h2]
          exact x2
      | dead => trivial
    · obtain ⟨k', a1, a2, _, a4⟩ := hprev k ob1 h1
      obtain ⟨k2', b1, b2, _, b4⟩ := hprev k2 ob2 h2
      simp only [a2] at hb
      simp only [b2] at hb2
      have hne' : k' ≠ k2' := by
        rcases a4 with ⟨rfl, rfl⟩ | ⟨c1, c2, rfl⟩ <;> rcases b4 with ⟨rfl, rfl⟩ | ⟨d1, d2, rfl⟩
        · exact absurd rfl hkk
        · exact fun e => d2 e.symm
        · exact c2
        · exact hkk
      exact h.hr.sep k' k2' ob1 ob2 b hne' a1 b1 l1 l2 hb hb2
  · intro k av hk
    rw [show look (renameT o t s.tm) k = _ from look_mp (f := fun _ v => Rf.rename o t v) s.tm k] at hk
    obtain ⟨av0, h1, rfl⟩ := Option.map_eq_some_iff.1 hk
    refine AVR.renamed (gh := gh) (gh' := { I := gh.I, V := updF gh.V t (gh.V o), Y := updF gh.Y t (gh.Y o) }) rfl ⟨updF_same _ _ _, updF_same _ _ _⟩ (fun j _ hj => ⟨updF_ne _ _ hj, updF_ne _ _ hj⟩) av0 (fun hm => ?_) (h.sl k av0 h1)
    have := h.rf k av0 h1 t hm
    rw [ht] at this; cases this
  · intro k av hk j hj
    rw [show look (renameT o t s.tm) k = _ from look_mp (f := fun _ v => Rf.rename o t v) s.tm k] at hk
    obtain ⟨av0, h1, rfl⟩ := Option.map_eq_some_iff.1 hk
    rw [hlook]
    rcases refs_rename o t av0 j hj with ⟨rfl, _⟩ | ⟨h2, h3⟩
    · simp
    · by_cases e : j = t
      · rw [if_pos e]; rfl
      · rw [if_neg e, if_neg h2]
        exact h.rf k av0 h1 j h3
theorem SR.nameOne (h : SR E B I0 w0 gh a w s) (t : Nat) (v : AV) : ∃ gh', SR E B I0 w0 gh' a w (nameOne t v s) := by
  unfold Rf.nameOne
  split
  · rename_i o
    cases hc : (Nat.beq t o || (look s.hp t).isSome || holdsOwn s o) with
    | true => exact ⟨gh, h⟩
    | false =>
      rw [cnd_false]
      split
      · rename_i o' ho'
        cases hb : Nat.beq o o' with
        | false => exact ⟨gh, h⟩
        | true =>
          rw [cnd_true]
          have := beqI hb
          subst this
          simp only [Bool.or_eq_false_iff] at hc
          have hn : look s.hp t = none := by
            cases hq : look s.hp t with
            | none => rfl
            | some z => rw [hq] at hc; simp at hc
          have hal := h.rf t _ ho' o (by simp [Rf.refs])
          obtain ⟨ob, hob⟩ := Option.isSome_iff_exists.1 hal
          exact h.rename hob hn
      · exact ⟨gh, h⟩
  · exact ⟨gh, h⟩
theorem SR.names : ∀ (l : List (Nat × AV)) {gh : Gh} {s : St}, SR E B I0 w0 gh a w s → ∃ gh', SR E B I0 w0 gh' a w (names l s)
  | [], gh, s, h => ⟨gh, h⟩
  | (t, x) :: r, gh, s, h => by
    obtain ⟨gh', h'⟩ := h.nameOne t x
    exact SR.names r h'
theorem SR.clean (h : SR E B I0 w0 gh a w s) (m : Nat) : ∃ gh', SR E B I0 w0 gh' a w (clean m s) := (h.kept m).names _
end
end Go.Proofs.Ytihipeicmbgegaa.Rf

namespace Go.Proofs.Ytihipeicmbgegaa.Rf
open Go Go.RowKit
set_option linter.unusedVariables false
set_option linter.unusedSimpArgs false
/-- What is known of a program and of the calls within. -/
structure Fits (E : Env) : Prop where
  tab : tabOk E.P E.T = true
  good : ∀ f as r, E.call f as = some r → Good E.P E.T E.own f as r
  names : ∀ (f : FuncId) (fn : Func), E.P.funcs[f]? = some fn → (fn.name == "runtime.NumGoroutine") = false
  mixed : E.P.follows .mixedOrders = true
section
variable {E : Env} {B : List Nat} {I0 : Nat → Nat → Option Value} {w0 : World} {gh : Gh} {a : Act} {w : World} {s : St} {Q : Exit → Act → World → Prop}
theorem one_op (hE : Fits E) (h : SR E B I0 w0 gh a w s) {o : Oper} {α : Type} {K : St → List Nat → Option α} {r : α} (hK : oneOp E o s K = some r) :
    ∃ av ws, (∀ {β : Type} (K' : St → List Nat → Option β), oneOp E o s K' = K' { tm := putD s.tm o.dst av, hp := wrAll ws s.hp } (mp (·.1) ws)) ∧
      (∀ {β : Type} (K' : AV → Ws → Option β), core E (look s.hp) (getOp s.tm) (numOf E o) o.type o.op K' = K' av ws) ∧
      (∀ x ∈ refs av, (look (wrAll ws s.hp) x).isSome = true) ∧ inFrame E o.dst = true ∧
      ∀ next : Act → World → Prop, (∀ val w' gh', SR E B I0 w0 gh' (a.put o.dst val) w' { tm := putD s.tm o.dst av, hp := wrAll ws s.hp } → next (a.put o.dst val) w') → o.wp E.P a w next Q := by
  unfold oneOp at hK
  obtain ⟨av, ws, h1, h2⟩ := do_core (Q := Q) hE.tab h.hr h.get h.refs hE.good hE.names hK
  rw [h1] at hK
  obtain ⟨hc, _⟩ := cnd_some hK
  have hc0 := hc
  simp only [Bool.and_eq_true] at hc
  have hal : ∀ x ∈ refs av, (look (wrAll ws s.hp) x).isSome = true := by
    intro x hx
    have := (every_iff _ _).1 hc.1 x hx
    simp only [Bool.or_eq_true, has_iff] at this
    rw [look_wrAll]
    rcases this with h1 | h1
    · exact wrF_some _ _ _ (refsL_mp h.refs _ x h1)
    · rw [mp_eq] at h1
      obtain ⟨p, hp, rfl⟩ := List.mem_map.1 h1
      exact wrF_mem ws _ p.1 p.2 hp
  refine ⟨av, ws, fun K' => ?_, h1, hal, hc.2, fun next hn => h2 next fun val w' gh' hle hr hv => hn val w' gh' ?_⟩
  · unfold oneOp
    rw [h1, hc0, cnd_true]
  · refine h.after hle (by rw [look_wrAll]; exact hr) (fun x hx => ?_) hv hal hc.2
    rw [look_wrAll]
    exact wrF_some _ _ _ hx
theorem yielded_of (h : SR E B I0 w0 gh a w s) {all : List Oper} {j dj : Nat} {b : Bool} (hd : (atL all j).bind (·.dst) = some dj) (hl : look s.tm dj = some (.bool b)) : yielded all.toArray a.tmps j = some b := by
  have hv : a.tmps.getD dj undef = .bool b := h.sl dj _ hl
  rw [atL_eq] at hd
  have ht : a.tmps[dj]? = some (.bool b) := by
    rcases Nat.lt_or_ge dj a.tmps.size with hlt | hge
    · simp [hlt] at hv ⊢
      exact hv
    · simp [Array.getElem?_eq_none hge] at hv
      cases hv
  unfold yielded
  simp only [List.getElem?_toArray, hd, Option.bind_some, ht]
theorem yielded_no (h : SR E B I0 w0 gh a w s) {all : List Oper} {j dj : Nat} (hd : (atL all j).bind (·.dst) = some dj) (hl : look s.tm dj = some .no) : yielded all.toArray a.tmps j = none := by
  have hv : a.tmps.getD dj undef = undef := h.sl dj _ hl
  rw [atL_eq] at hd
  unfold yielded
  simp only [List.getElem?_toArray, hd, Option.bind_some]
  cases ht : a.tmps[dj]? with
  | none => rfl
  | some x =>
    have : x = undef := by rw [← hv]; simp [Array.getD_eq_getD_getElem?, ht]
    subst this
    rfl
theorem SR.skip (h : SR E B I0 w0 gh a w s) (dst : Option Nat) : ∀ (hd : inFrame E dst = true), SR E B I0 w0 gh (a.put dst undef) w { tm := putD s.tm dst .no, hp := s.hp } :=
  fun hd => h.after (Gh.le.refl _ _) h.hr (fun _ h => h) rfl (fun _ h => by cases h) hd
theorem ops_seq (hE : Fits E) {all : List Oper} : ∀ (l : List Oper) (i : Nat) {gh : Gh} {a : Act} {w : World} {s : St} {log : Log} {α : Type} {K : St → Log → Option α} {r : α}, all.drop i = l → SR E B I0 w0 gh a w s → ops E all i l log s K = some r →
    (∀ s' log' a' w' gh', SR E B I0 w0 gh' a' w' s' → K s' log' = some r → Q .normal a' w') → wpOps E.P all.toArray Q (List.range' i l.length) a w
  | [], i, gh, a, w, s, log, α, K, r, hl, h, hK, hend => by
    simp only [ops] at hK
    exact hend _ _ _ _ _ h hK
  | o :: l, i, gh, a, w, s, log, α, K, r, hl, h, hK, hend => by
    have hoi : all[i]? = some o := by
      have : (all.drop i)[0]? = some o := by rw [hl]; rfl
      simpa using this
    have hl' : all.drop (i + 1) = l := by
      have : (all.drop i).drop 1 = l := by rw [hl]; rfl
      simpa [List.drop_drop] using this
    simp only [List.length_cons, List.range'_succ, wpOps, List.getElem?_toArray, hoi]
    simp only [ops] at hK
    cases hg : o.guard with
    | none =>
      simp only [hg] at hK
      obtain ⟨av, ws, h1, _, _, _, h2⟩ := one_op (Q := Q) hE h hK
      rw [h1] at hK
      rw [if_pos (by simp [Region.wanted, hg])]
      exact .inl (h2 _ fun val w' gh' h' => ops_seq hE l (i + 1) hl' h' hK hend)
    | some jw =>
      obtain ⟨j, want⟩ := jw
      simp only [hg] at hK
      split at hK
      · cases hK
      · rename_i dj hdj
        split at hK
        · rename_i b hb
          have hy := yielded_of h hdj hb
          have hw : Region.wanted o (yielded all.toArray a.tmps) = (b == want) := by
            simp [Region.wanted, hg, hy]
          have same : ∀ c, b = c → ({ s with tm := said s.tm dj (.bool c) } : St) = s := by
            rintro c rfl
            rw [said_same _ _ _ hb]
          have run : ∀ c, b = c → want = c → oneOp E o { s with tm := said s.tm dj (.bool c) } (fun s' ws => ops E all (i + 1) l ((i, numOf E o :: seenBy s o, ws) :: log) s' K) = some r →
              (if Region.wanted o (yielded all.toArray a.tmps) = true then o.wp E.P a w (wpOps E.P all.toArray Q (List.range' (i + 1) l.length)) Q ∨ (o.asks E.P a w ∧ LetsOut Q) else wpOps E.P all.toArray Q (List.range' (i + 1) l.length) (a.put o.dst undef) w) := by
            intro c hbc hwc hK
            rw [same c hbc] at hK
            rw [hw, if_pos (by rw [hbc, hwc]; simp)]
            obtain ⟨av, ws, h1, _, _, _, h2⟩ := one_op (Q := Q) hE h hK
            rw [h1] at hK
            exact .inl (h2 _ fun val w' gh' h' => ops_seq hE l (i + 1) hl' h' hK hend)
          have pass : ∀ c, b = c → want = !c → inFrame E o.dst = true → ops E all (i + 1) l log { tm := putD (said s.tm dj (.bool c)) o.dst .no, hp := s.hp } K = some r →
              (if Region.wanted o (yielded all.toArray a.tmps) = true then o.wp E.P a w (wpOps E.P all.toArray Q (List.range' (i + 1) l.length)) Q ∨ (o.asks E.P a w ∧ LetsOut Q) else wpOps E.P all.toArray Q (List.range' (i + 1) l.length) (a.put o.dst undef) w) := by
            intro c hbc hwc hd hK
            rw [said_same _ _ _ (hbc ▸ hb)] at hK
            rw [hw, if_neg (by rw [hbc, hwc]; cases c <;> simp)]
            exact ops_seq hE l (i + 1) hl' (h.skip o.dst hd) hK hend
          cases hbb : b with
          | true =>
            rw [hbb, cnd_true] at hK
            cases hww : want with
            | true => rw [hww] at hK; exact run true hbb hww hK
            | false =>
              rw [hww] at hK
              obtain ⟨hd, hK⟩ := cnd_some hK
              exact pass true hbb (by rw [hww]; rfl) hd hK
          | false =>
            rw [hbb, cnd_false] at hK
            cases hww : want with
            | false => rw [hww] at hK; exact run false hbb hww hK
            | true =>
              rw [hww] at hK
              obtain ⟨hd, hK⟩ := cnd_some hK
              exact pass false hbb (by rw [hww]; rfl) hd hK
        · rename_i hno
          obtain ⟨hd, hK⟩ := cnd_some hK
          have hy := yielded_no h hdj hno
          have hw : Region.wanted o (yielded all.toArray a.tmps) = false := by
            simp [Region.wanted, hg, hy]
          rw [hw, if_neg (by simp)]
          exact ops_seq hE l (i + 1) hl' (h.skip o.dst hd) hK hend
        · cases hK
end
end Go.Proofs.Ytihipeicmbgegaa.Rf

namespace Go.Proofs.Ytihipeicmbgegaa.Rf
open Go Go.RowKit
set_option linter.unusedVariables false
set_option linter.unusedSimpArgs false
section
variable {E : Env} {H : Nat → Option Obj} {v : Operand → AV} {d : Nat} {t : TypeId} {op : Op} {α : Type} {r : α}
theorem binOp_shape {T : Tab} {op : BinOp} {xt : TypeId} {x y : AV} {K : AV → Option α} (hK : binOp T op xt x y K = some r) : ∃ av, (∀ {β : Type} (K' : AV → Option β), binOp T op xt x y K' = K' av) ∧ K av = some r := by
  unfold binOp at hK
  split at hK
  · obtain ⟨av, val, h1, _⟩ := intOp_ok (P := default) (T := T) (w := default) (xt := xt) hK
    exact ⟨av, fun K' => h1 K', (h1 K).symm.trans hK⟩
  · obtain ⟨av, val, h1, _⟩ := strOp_ok (P := default) (T := T) (w := default) (xt := xt) hK
    exact ⟨av, fun K' => h1 K', (h1 K).symm.trans hK⟩
  · unfold boolOp at hK
    split at hK
    · rename_i ht; exact ⟨_, fun K' => by simp only [binOp, boolOp, ht], hK⟩
    · rename_i ht; exact ⟨_, fun K' => by simp only [binOp, boolOp, ht], hK⟩
    · cases hK
  · unfold aggOp at hK
    obtain ⟨hk, hK1⟩ := cnd_some hK
    split at hK1
    · exact ⟨_, fun K' => by simp only [binOp, aggOp]; rw [hk]; rfl, hK1⟩
    · exact ⟨_, fun K' => by simp only [binOp, aggOp]; rw [hk]; rfl, hK1⟩
    · cases hK1
  · cases hK
theorem unOp_shape {op : UnOp} {x : AV} {K : AV → Option α} (hK : unOp op x K = some r) : ∃ av, (∀ {β : Type} (K' : AV → Option β), unOp op x K' = K' av) ∧ K av = some r := by
  unfold unOp at hK
  split at hK
  · exact ⟨_, fun K' => rfl, hK⟩
  · exact ⟨_, fun K' => rfl, hK⟩
  · exact ⟨_, fun K' => rfl, hK⟩
  · cases hK
theorem slice_shape {T : Tab} {x : AV} {lo hi mx : Option Operand} {K : AV → Ws → Option α} (hK : slice T H t x lo hi mx v K = some r) : ∃ av ws, (∀ {β : Type} (K' : AV → Ws → Option β), slice T H t x lo hi mx v K' = K' av ws) ∧ K av ws = some r := by
  cases mx with
  | some m => cases hK
  | none =>
    unfold slice at hK
    simp only at hK
    split at hK
    · rename_i l ht
      split at hK
      · rename_i i j hi' hj'
        obtain ⟨hk, hK1⟩ := cnd_some hK
        exact ⟨_, _, fun K' => by simp only [slice, ht, hi', hj']; rw [hk]; rfl, hK1⟩
      · cases hK
    · rename_i e ht
      split at hK
      · rename_i es hes
        split at hK
        · rename_i i j hi' hj'
          obtain ⟨hk, hK1⟩ := cnd_some hK
          exact ⟨_, _, fun K' => by simp only [slice, ht, hes, hi', hj']; rw [hk]; rfl, hK1⟩
        · cases hK
      · cases hK
    · cases hK
theorem append_shape {T : Tab} {s x : AV} {K : AV → Ws → Option α} (hK : append T H d t s x K = some r) : ∃ av ws, (∀ {β : Type} (K' : AV → Ws → Option β), append T H d t s x K' = K' av ws) ∧ K av ws = some r := by
  unfold append at hK
  split at hK
  · rename_i e ht
    split at hK
    · cases hK
    · rename_i ys hys
      split at hK
      · obtain ⟨hk, hK1⟩ := cnd_some hK
        obtain ⟨hd, hK2⟩ := anew_some hK1
        exact ⟨_, _, fun K' => by simp only [append, ht, hys]; rw [hk, cnd_true, anew_none _ hd], hK2⟩
      · split at hK
        · rename_i e' es hob
          obtain ⟨hk, hK1⟩ := cnd_some hK
          obtain ⟨hn, hK2⟩ := cnd_some hK1
          obtain ⟨hd, hK3⟩ := anew_some hK2
          exact ⟨_, _, fun K' => by simp only [append, ht, hys, hob]; rw [hk, cnd_true, hn, cnd_true, anew_none _ hd], hK3⟩
        · cases hK
      · cases hK
  · cases hK
theorem len_shape {T : Tab} {x : AV} {K : Int → Option α} (hK : lenOp T H t x K = some r) : ∃ n, (∀ {β : Type} (K' : Int → Option β), lenOp T H t x K' = K' n) ∧ K n = some r := by
  unfold lenOp at hK
  split at hK
  · rename_i ht; exact ⟨_, fun K' => by simp only [lenOp, ht], hK⟩
  · rename_i ht; exact ⟨_, fun K' => by simp only [lenOp, ht], hK⟩
  · rename_i ht; exact ⟨_, fun K' => by simp only [lenOp, ht], hK⟩
  · rename_i ht
    split at hK
    · rename_i hob; exact ⟨_, fun K' => by simp only [lenOp, ht, hob], hK⟩
    · rename_i hob; exact ⟨_, fun K' => by simp only [lenOp, ht, hob], hK⟩
    · cases hK
  · cases hK
theorem call_shape {g : FuncId} {vs : List AV} {K : AV → Ws → Option α} (hK : call E H d g vs K = some r) : ∃ av ws, (∀ {β : Type} (K' : AV → Ws → Option β), call E H d g vs K' = K' av ws) ∧ K av ws = some r := by
  unfold call at hK
  split at hK
  · cases hK
  · rename_i fn hfn
    split at hK
    · rename_i bd as ws os hbd hargs
      obtain ⟨hck, hK1⟩ := cnd_some hK
      split at hK1
      · cases hK1
      · rename_i rr hrr
        cases hj : E.own g with
        | none =>
          simp only [hj, viewOk] at hK1
          exact ⟨_, _, fun K' => by unfold call; simp only [hfn, hbd, hargs, hck, cnd_true, hrr, hj, viewOk], hK1⟩
        | some j =>
          simp only [hj, viewOk] at hK1
          obtain ⟨hd, hK2⟩ := anew_some hK1
          exact ⟨_, _, fun K' => by unfold call; simp only [hfn, hbd, hargs, hck, cnd_true, hrr, hj, viewOk]; exact anew_none _ hd, hK2⟩
    · cases hK
theorem core_shape {K : AV → Ws → Option α} (hK : core E H v d t op K = some r) : ∃ av ws, (∀ {β : Type} (K' : AV → Ws → Option β), core E H v d t op K' = K' av ws) ∧ K av ws = some r := by
  cases op with
  | move x => exact ⟨_, _, fun K' => rfl, hK⟩
  | assign x =>
    simp only [core] at hK ⊢
    unfold assignOp at hK ⊢
    split at hK
    · rename_i e hn hty
      obtain ⟨hd, hKz⟩ := anew_some hK
      exact ⟨_, _, fun K' => by (try simp only [hn, hty]); exact anew_none _ hd, hKz⟩
    · rename_i hno
      refine ⟨_, _, fun K' => ?_, hK⟩
      first
        | rfl
        | (split
           · rename_i e hn hty; exact absurd hty (hno e hn)
           · rfl)
  | pick c x y =>
    simp only [core] at hK ⊢
    split at hK
    · rename_i b hb
      cases b with
      | true => exact ⟨v x, [], fun K' => by first | rfl | (simp only [hb]; rfl), hK⟩
      | false => exact ⟨v y, [], fun K' => by first | rfl | (simp only [hb]; rfl), hK⟩
    · cases hK
  | alloc e =>
    simp only [core] at hK ⊢
    obtain ⟨hk, hK1⟩ := cnd_some hK
    obtain ⟨hd, hKz⟩ := anew_some hK1
    exact ⟨_, _, fun K' => by rw [hk, cnd_true, anew_none _ hd], hKz⟩
  | box e x =>
    simp only [core] at hK ⊢
    split at hK
    · rename_i g hg
      obtain ⟨hd, hKz⟩ := anew_some hK
      exact ⟨_, _, fun K' => by (try simp only [hg]); exact anew_none _ hd, hKz⟩
    · cases hK
  | build t ps =>
    simp only [core] at hK ⊢
    split at hK
    · rename_i ts ht
      split at hK
      · rename_i gs ws hp
        exact ⟨_, _, fun K' => by first | rfl | (simp only [ht, hp]), hK⟩
      · cases hK
    · rename_i n e ht
      split at hK
      · rename_i gs ws hp
        exact ⟨_, _, fun K' => by first | rfl | (simp only [ht, hp]), hK⟩
      · cases hK
    · cases hK
  | buildSlice t n ps =>
    simp only [core] at hK ⊢
    split at hK
    · rename_i e ht
      split at hK
      · rename_i gs ws hp
        obtain ⟨hk, hK1⟩ := cnd_some hK
        obtain ⟨hd, hKz⟩ := anew_some hK1
        have hk0 := hk
        simp only [Bool.and_eq_true] at hk
        exact ⟨_, _, fun K' => by (try simp only [ht, hp]); rw [hk0, cnd_true, anew_none _ hd], hKz⟩
      · cases hK
    · cases hK
  | load t x =>
    simp only [core] at hK ⊢
    split at hK
    · rename_i oo t' p hvx
      obtain ⟨hk, hK1⟩ := cnd_some hK
      have hk' := beqI hk
      subst hk'
      split at hK1
      · rename_i g hg
        exact ⟨_, _, fun K' => by (try simp only [hvx, hg]); rw [hk]; rfl, hK1⟩
      · cases hK1
    · rename_i t' g hvx
      obtain ⟨hk, hK1⟩ := cnd_some hK
      have hk' := beqI hk
      subst hk'
      exact ⟨_, _, fun K' => by (try simp only [hvx]); rw [hk]; rfl, hK1⟩
    · cases hK
  | store t x y =>
    simp only [core] at hK ⊢
    split at hK
    · rename_i oo t' p hvx
      obtain ⟨hk, hK1⟩ := cnd_some hK
      have hk0 := hk
      simp only [Bool.and_eq_true] at hk
      have hk' := beqI hk.1
      subst hk'
      split at hK1
      · rename_i ob g hob hg
        split at hK1
        · rename_i g0 hg0
          split at hK1
          · rename_i ob' hput
            exact ⟨_, _, fun K' => by (try simp only [hvx, hob, hg, hg0, hput]); rw [hk0]; rfl, hK1⟩
          · cases hK1
        · cases hK1
      · cases hK1
    · cases hK
  | nilCheck x =>
    simp only [core] at hK ⊢
    split at hK
    · rename_i oo t p hvx
      exact ⟨_, _, fun K' => by first | rfl | (simp only [hvx]), hK⟩
    · rename_i t g hvx
      exact ⟨_, _, fun K' => by first | rfl | (simp only [hvx]), hK⟩
    · rename_i f cs hvx
      exact ⟨_, _, fun K' => by first | rfl | (simp only [hvx]), hK⟩
    · cases hK
  | binOp op xt x y yt =>
    simp only [core] at hK ⊢
    obtain ⟨av, h1, h3⟩ := binOp_shape hK
    exact ⟨av, [], fun K' => h1 _, h3⟩
  | unOp op xt x =>
    simp only [core] at hK ⊢
    obtain ⟨av, h1, h3⟩ := unOp_shape hK
    exact ⟨av, [], fun K' => h1 _, h3⟩
  | convert src dst x =>
    simp only [core] at hK ⊢
    split at hK
    · rename_i k0 k' k n h1 h2 hvx
      exact ⟨_, _, fun K' => by first | rfl | (simp only [h1, h2, hvx]), hK⟩
    · rename_i l h1 h2 hvx
      exact ⟨_, _, fun K' => by first | rfl | (simp only [h1, h2, hvx]), hK⟩
    · rename_i e l h1 h2 hvx
      split at hK
      · rename_i h3
        exact ⟨_, _, fun K' => by first | rfl | (simp only [h1, h2, hvx, h3]), hK⟩
      · cases hK
    · rename_i e h1 h2
      split at hK
      · rename_i es h3 hes
        exact ⟨_, _, fun K' => by first | rfl | (simp only [h1, h2, h3, hes]), hK⟩
      · cases hK
    · cases hK
  | makeSlice t l c =>
    simp only [core] at hK ⊢
    split at hK
    · rename_i e kl l' kc c' ht hl hc
      obtain ⟨hk, hK1⟩ := cnd_some hK
      obtain ⟨hd, hKz⟩ := anew_some hK1
      have hk0 := hk
      simp only [Bool.and_eq_true, decide_eq_true_eq] at hk
      exact ⟨_, _, fun K' => by (try simp only [ht, hl, hc]); rw [hk0, cnd_true, anew_none _ hd], hKz⟩
    · cases hK
  | slice t x lo hi mx =>
    simp only [core] at hK ⊢
    exact slice_shape hK
  | fieldAddr s x f =>
    simp only [core] at hK ⊢
    split at hK
    · cases hK
    · rename_i ft hf
      split at hK
      · rename_i oo t' p hvx
        obtain ⟨hk, hK1⟩ := cnd_some hK
        have hk' := beqI hk
        subst hk'
        exact ⟨_, _, fun K' => by (try simp only [hvx]); rw [hk]; rfl, hK1⟩
      · rename_i t' g hvx
        obtain ⟨hk, hK1⟩ := cnd_some hK
        have hk' := beqI hk
        subst hk'
        exact ⟨_, _, fun K' => by (try simp only [hvx]); rw [hk]; rfl, hK1⟩
      · cases hK
  | field s x f =>
    simp only [core] at hK ⊢
    split at hK
    · cases hK
    · rename_i ft hf
      split at hK
      · rename_i t' g hvx
        obtain ⟨hk, hK1⟩ := cnd_some hK
        have hk' := beqI hk
        subst hk'
        exact ⟨_, _, fun K' => by (try simp only [hvx]); rw [hk]; rfl, hK1⟩
      · cases hK
  | indexAddr t x i =>
    simp only [core] at hK ⊢
    split at hK
    · rename_i k n hvi
      split at hK
      · rename_i e es e' hvx ht
        obtain ⟨hk, hK1⟩ := cnd_some hK
        have hk' := beqI hk
        subst hk'
        obtain ⟨hn, hK2⟩ := cnd_some hK1
        exact ⟨_, _, fun K' => by (try simp only [hvi, hvx, ht]); rw [hk, hn]; rfl, hK2⟩
      · rename_i oo e' hvx ht
        split at hK
        · rename_i e es m hob
          obtain ⟨hk, hK1⟩ := cnd_some hK
          have hk' := beqI hk
          subst hk'
          obtain ⟨hn, hK2⟩ := cnd_some hK1
          exact ⟨_, _, fun K' => by (try simp only [hvi, hvx, ht, hob]); rw [hk, hn]; rfl, hK2⟩
        · cases hK
      · rename_i oo t' p m e hvx ht
        obtain ⟨hk, hK1⟩ := cnd_some hK
        have hk' := beqI hk
        subst hk'
        obtain ⟨hn, hK2⟩ := cnd_some hK1
        exact ⟨_, _, fun K' => by (try simp only [hvi, hvx, ht]); rw [hk, hn]; rfl, hK2⟩
      · rename_i t' g m e hvx ht
        obtain ⟨hk, hK1⟩ := cnd_some hK
        have hk' := beqI hk
        subst hk'
        obtain ⟨hn, hK2⟩ := cnd_some hK1
        exact ⟨_, _, fun K' => by (try simp only [hvi, hvx, ht]); rw [hk, hn]; rfl, hK2⟩
      · cases hK
    · cases hK
  | index t x i =>
    simp only [core] at hK ⊢
    split at hK
    · rename_i k n hvi
      split at hK
      · rename_i l hvx ht
        obtain ⟨hn, hK1⟩ := cnd_some hK
        exact ⟨_, _, fun K' => by (try simp only [hvi, hvx, ht]); rw [hn]; rfl, hK1⟩
      · rename_i t' g m e hvx ht
        obtain ⟨hk, hK1⟩ := cnd_some hK
        have hk' := beqI hk
        subst hk'
        obtain ⟨hn, hK2⟩ := cnd_some hK1
        exact ⟨_, _, fun K' => by (try simp only [hvi, hvx, ht]); rw [hk, hn]; rfl, hK2⟩
      · cases hK
    · cases hK
  | extract x i =>
    simp only [core] at hK ⊢
    split at hK
    · rename_i vs hvx
      split at hK
      · rename_i b0 hb0
        exact ⟨_, _, fun K' => by first | rfl | (simp only [hvx, hb0]), hK⟩
      · cases hK
    · cases hK
  | makeFunc fn first cs =>
    cases fn with
    | func f =>
      simp only [core] at hK ⊢
      obtain ⟨hk, hK1⟩ := cnd_some hK
      exact ⟨_, _, fun K' => by rw [hk]; rfl, hK1⟩
    | _ => cases hK
  | call c =>
    simp only [core] at hK ⊢
    cases hc : c.callee with
    | builtin b =>
      simp only [hc] at hK ⊢
      cases b <;> simp only at hK ⊢ <;> try (cases hK; done)
      case append =>
        split at hK
        · rename_i s x st xt hargs hts
          obtain ⟨hk, hK1⟩ := cnd_some hK
          have hk' := beqI hk
          subst hk'
          obtain ⟨av, ws, h3, h4⟩ := append_shape hK1
          exact ⟨av, ws, fun K' => by (try simp only [hargs, hts]); rw [hk]; exact h3 K', h4⟩
        · cases hK
      case len =>
        split at hK
        · rename_i x t' hx ht
          obtain ⟨n, h1, h2⟩ := len_shape hK
          exact ⟨_, _, fun K' => by (try simp only [hx, ht]); exact h1 _, h2⟩
        · cases hK
      case max =>
        split at hK
        · rename_i k m k' n hx
          exact ⟨_, _, fun K' => by first | rfl | (simp only [hx]), hK⟩
        · cases hK
      case min =>
        split at hK
        · rename_i k m k' n hx
          exact ⟨_, _, fun K' => by first | rfl | (simp only [hx]), hK⟩
        · cases hK
    | value fo =>
      simp only [hc] at hK ⊢
      split at hK
      · rename_i g cs hvf
        obtain ⟨av, ws, h1, h2⟩ := call_shape hK
        exact ⟨av, ws, fun K' => by (try simp only [hvf]); exact h1 K', h2⟩
      · cases hK
    | invoke x m => simp only [hc] at hK; cases hK
  | _ => cases hK
end
end Go.Proofs.Ytihipeicmbgegaa.Rf

namespace Go.Proofs.Ytihipeicmbgegaa.Rf
open Go Go.RowKit
set_option linter.unusedVariables false
set_option linter.unusedSimpArgs false
section
variable {E : Env} {H H' : Nat → Option Obj} {v v' : Operand → AV} {d : Nat} {T : Tab} {α : Type}
theorem conv_local {t : TypeId} {a : AV} (h : ∀ o ∈ refs a, H' o = H o) : conv T H' t a = conv T H t a := by
  cases a with
  | row o => simp only [conv, h o (by simp [refs])]
  | _ => rfl
theorem share_local {a : AV} (h : ∀ o ∈ refs a, H' o = H o) : share H' a = share H a := by
  cases a with
  | row o => simp only [share, h o (by simp [refs])]
  | _ => rfl
theorem elems_local {e : TypeId} {a : AV} (h : ∀ o ∈ refs a, H' o = H o) : elems H' e a = elems H e a := by
  cases a with
  | row o => simp only [elems, h o (by simp [refs])]
  | _ => rfl
theorem lenOp_local {t : TypeId} {a : AV} {K : Int → Option α} (h : ∀ o ∈ refs a, H' o = H o) : lenOp T H' t a K = lenOp T H t a K := by
  unfold lenOp
  cases a with
  | row o =>
    have e := h o (by simp [refs])
    cases ty T t <;> first | rfl | simp only [e]
  | _ => cases ty T t <;> rfl
theorem anew_local {x : Option α} (h : H' d = H d) : anew H' d x = anew H d x := by simp only [anew, h]
theorem mp_local : ∀ {xs : List Operand}, (∀ x ∈ xs, v' x = v x) → mp v' xs = mp v xs
  | [], _ => rfl
  | x :: xs, h => by simp only [mp, h x (by simp), mp_local (fun y hy => h y (List.mem_cons_of_mem _ hy))]
theorem puts_local {Tf : Nat → Option TypeId} : ∀ {ps : List (Nat × Operand)} {gs : List G}, (∀ p ∈ ps, v' p.2 = v p.2) → (∀ p ∈ ps, ∀ o ∈ refs (v p.2), H' o = H o) → puts T H' v' Tf ps gs = puts T H v Tf ps gs
  | [], _, _, _ => rfl
  | (i, x) :: r, gs, h1, h2 => by
    have e1 := h1 (i, x) (by simp)
    have e2 := h2 (i, x) (by simp)
    simp only at e1 e2
    simp only [puts, e1, conv_local e2, share_local e2]
    split
    · rfl
    · rw [puts_local (fun p hp => h1 p (List.mem_cons_of_mem _ hp)) (fun p hp => h2 p (List.mem_cons_of_mem _ hp))]
theorem capt_local {a : AV} (h : ∀ o ∈ refs a, H' o = H o) : capt H' a = capt H a := by
  cases a with
  | ptr o t p => cases p <;> simp only [capt, h o (by simp [refs])]
  | _ => rfl
theorem capts_local : ∀ {as : List AV}, (∀ o ∈ refsL as, H' o = H o) → capts H' as = capts H as
  | [], _ => rfl
  | a :: as, h => by
    have h' : ∀ o, o ∈ refs a ∨ o ∈ refsL as → H' o = H o := fun o ho => h o (by simpa [refsL, cat_eq] using ho)
    simp only [capts, capt_local (fun o ho => h' o (.inl ho)), capts_local (fun o ho => h' o (.inr ho))]
theorem arg_local {t : TypeId} {a : AV} (h : ∀ o ∈ refs a, H' o = H o) : arg T H' t a = arg T H t a := by
  cases a with
  | ptr o u p => cases p <;> simp only [arg, h o (by simp [refs]), conv_local h, share_local h]
  | fn f cs => simp only [arg, capts_local (H := H) (H' := H') (as := cs) (by simpa [refs] using h)]
  | ro t g => rfl
  | _ => simp only [arg, conv_local h, share_local h]
theorem args_local : ∀ {ts : List TypeId} {as : List AV}, (∀ o ∈ refsL as, H' o = H o) → args T H' ts as = args T H ts as
  | [], [], _ => rfl
  | t :: ts, a :: as, h => by
    have h' : ∀ o, o ∈ refs a ∨ o ∈ refsL as → H' o = H o := fun o ho => h o (by simpa [refsL, cat_eq] using ho)
    simp only [args, arg_local (fun o ho => h' o (.inl ho)), args_local (fun o ho => h' o (.inr ho))]
  | [], _ :: _, _ => rfl
  | _ :: _, [], _ => rfl
theorem arg_objs {t : TypeId} {a : AV} {x : A} {ws : Ws} {os : List (Nat × TypeId)} (h : arg T H t a = some (x, ws, os)) : ∀ p ∈ os, p.1 ∈ refs a := by
  unfold arg at h
  split at h
  · rename_i o u
    split at h
    · obtain ⟨_, h⟩ := cnd_some h
      cases h
      intro p hp
      obtain rfl := List.mem_singleton.1 hp
      simp [refs]
    · obtain ⟨_, h⟩ := cnd_some h
      cases h
      intro p hp
      obtain rfl := List.mem_singleton.1 hp
      simp [refs]
    · obtain ⟨_, h⟩ := cnd_some h
      cases h
      intro p hp; cases hp
    · cases h
  · cases h
    intro p hp; cases hp
  · split at h
    · cases h
      intro p hp; cases hp
    · cases h
  · split at h
    · cases h
      intro p hp; cases hp
    · cases h
theorem args_objs : ∀ {ts : List TypeId} {as : List AV} {xs : List A} {ws : Ws} {os : List (Nat × TypeId)}, args T H ts as = some (xs, ws, os) → ∀ p ∈ os, p.1 ∈ refsL as
  | [], [], _, _, _, h => by
    cases h
    intro p hp; cases hp
  | t :: ts, a :: as, xs, ws, os, h => by
    simp only [args] at h
    split at h
    · rename_i x w1 o1 xs1 ws1 os1 h1 h2
      cases h
      intro p hp
      rw [cat_eq] at hp
      simp only [refsL, cat_eq, List.mem_append]
      rcases List.mem_append.1 hp with hp | hp
      · exact .inl (arg_objs h1 p hp)
      · exact .inr (args_objs h2 p hp)
    · cases h
  | [], _ :: _, _, _, _, h => by cases h
  | _ :: _, [], _, _, _, h => by cases h
theorem finals_local : ∀ {os : List (Nat × TypeId)} {gs : List G}, (∀ p ∈ os, H' p.1 = H p.1) → finals os gs H' = finals os gs H
  | [], _, _ => rfl
  | (o, t) :: os, gs, h => by
    have e := h (o, t) (by simp)
    simp only at e
    simp only [finals, e, finals_local (fun p hp => h p (List.mem_cons_of_mem _ hp))]
theorem call_local {g : FuncId} {as : List AV} {K : AV → Ws → Option α} (h : ∀ o ∈ refsL as, H' o = H o) (hd : H' d = H d) : call E H' d g as K = call E H d g as K := by
  unfold call
  split
  · rfl
  · rename_i fn hfn
    rw [args_local h]
    split
    · rename_i bd xs ws os hbd hargs
      have ho := args_objs hargs
      simp only [finals_local (H := H) (H' := H') (fun p hp => h _ (ho p hp)), viewOk, anew_local hd]
    · rfl
theorem append_local {t : TypeId} {s x : AV} {K : AV → Ws → Option α} (h1 : ∀ o ∈ refs s, H' o = H o) (h2 : ∀ o ∈ refs x, H' o = H o) (hd : H' d = H d) : append T H' d t s x K = append T H d t s x K := by
  unfold append
  simp only [elems_local h2, anew_local hd]
  cases s with
  | row o => simp only [h1 o (by simp [refs])]
  | _ => rfl
theorem numD_local {dflt : Int} {x : Option Operand} (h : ∀ y, x = some y → v' y = v y) : numD v' dflt x = numD v dflt x := by
  cases x with
  | none => rfl
  | some y => simp only [numD, h y rfl]
theorem slice_local {t : TypeId} {x : AV} {lo hi mx : Option Operand} {K : AV → Ws → Option α} (h : ∀ o ∈ refs x, H' o = H o) (hlo : ∀ y, lo = some y → v' y = v y) (hhi : ∀ y, hi = some y → v' y = v y) : slice T H' t x lo hi mx v' K = slice T H t x lo hi mx v K := by
  have e1 : ∀ e, elems H' e x = elems H e x := fun e => elems_local h
  have e2 : share H' x = share H x := share_local h
  have e3 : ∀ n, numD v' n lo = numD v n lo := fun n => numD_local hlo
  have e4 : ∀ n, numD v' n hi = numD v n hi := fun n => numD_local hhi
  unfold slice
  cases mx with
  | some m => rfl
  | none =>
    cases ty T t <;> cases x <;> first | rfl | simp only [e1, e2, e3, e4]
theorem refsL_of_mem {xs : List Operand} {x : Operand} (hx : x ∈ xs) : ∀ o ∈ refs (v x), o ∈ refsL (mp v xs) := by
  intro o ho
  refine mem_refsL (b := v x) ?_ o ho
  rw [mp_eq]
  exact List.mem_map.2 ⟨x, hx, rfl⟩
/-- What an operation comes to hangs on its operands, and on the objects that these speak of. -/
theorem core_local {t : TypeId} {op : Op} {K : AV → Ws → Option α} (hv : ∀ x ∈ op.operands.toList, v' x = v x) (hr : ∀ o ∈ refsL (mp v op.operands.toList), H' o = H o) (hd : H' d = H d) : core E H' v' d t op K = core E H v d t op K := by
  have hx : ∀ x ∈ op.operands.toList, ∀ o ∈ refs (v x), H' o = H o := fun x hx o ho => hr o (refsL_of_mem hx o ho)
  cases op with
  | move x => simp only [core, hv x (by simp [Op.operands])]
  | assign x => simp only [core, assignOp, hv x (by simp [Op.operands]), anew_local hd]
  | pick c a b => simp only [core, hv c (by simp [Op.operands]), hv a (by simp [Op.operands]), hv b (by simp [Op.operands])]
  | alloc e => simp only [core, anew_local hd]
  | box e x => simp only [core, hv x (by simp [Op.operands]), conv_local (hx x (by simp [Op.operands])), share_local (hx x (by simp [Op.operands])), anew_local hd]
  | build t' ps =>
    have h1 : ∀ p ∈ ps.toList, v' p.2 = v p.2 := fun p hp => hv p.2 (by simp only [Op.operands, List.toList_toArray]; exact List.mem_map.2 ⟨p, hp, rfl⟩)
    have h2 : ∀ p ∈ ps.toList, ∀ o ∈ refs (v p.2), H' o = H o := fun p hp => hx p.2 (by simp only [Op.operands, List.toList_toArray]; exact List.mem_map.2 ⟨p, hp, rfl⟩)
    simp only [core, puts_local h1 h2]
  | buildSlice t' n ps =>
    have h1 : ∀ p ∈ ps.toList, v' p.2 = v p.2 := fun p hp => hv p.2 (by simp only [Op.operands, List.toList_toArray]; exact List.mem_map.2 ⟨p, hp, rfl⟩)
    have h2 : ∀ p ∈ ps.toList, ∀ o ∈ refs (v p.2), H' o = H o := fun p hp => hx p.2 (by simp only [Op.operands, List.toList_toArray]; exact List.mem_map.2 ⟨p, hp, rfl⟩)
    simp only [core, puts_local h1 h2, anew_local hd]
  | load t' x =>
    have h1 := hv x (by simp [Op.operands])
    have h2 := hx x (by simp [Op.operands])
    simp only [core, h1]
    cases hq : v x with
    | ptr o t'' p => simp only [h2 o (by rw [hq]; simp [refs])]
    | _ => rfl
  | store t' x y =>
    have h1 := hv x (by simp [Op.operands])
    have h2 := hx x (by simp [Op.operands])
    have h3 := hv y (by simp [Op.operands])
    have h4 := hx y (by simp [Op.operands])
    simp only [core, h1, h3, conv_local h4, share_local h4]
    cases hq : v x with
    | ptr o t'' p => simp only [h2 o (by rw [hq]; simp [refs])]
    | _ => rfl
  | nilCheck x => simp only [core, hv x (by simp [Op.operands])]
  | binOp op xt x y yt => simp only [core, hv x (by simp [Op.operands]), hv y (by simp [Op.operands])]
  | unOp op xt x => simp only [core, hv x (by simp [Op.operands])]
  | convert src dst x =>
    have h1 := hv x (by simp [Op.operands])
    have h2 : ∀ e, elems H' e (v x) = elems H e (v x) := fun e => elems_local (hx x (by simp [Op.operands]))
    simp only [core, h1]
    revert h2
    generalize v x = a
    intro h2
    cases ty E.T src <;> cases ty E.T dst <;> cases a <;> first | rfl | simp only [h2]
  | makeSlice t' l c => simp only [core, hv l (by simp [Op.operands]), hv c (by simp [Op.operands]), anew_local hd]
  | slice t' x lo hi mx =>
    have h1 := hv x (by simp [Op.operands])
    have h2 := hx x (by simp [Op.operands])
    simp only [core, h1]
    exact slice_local h2 (fun y hy => hv y (by subst hy; simp [Op.operands])) (fun y hy => hv y (by subst hy; simp [Op.operands]))
  | fieldAddr s x f => simp only [core, hv x (by simp [Op.operands])]
  | field s x f => simp only [core, hv x (by simp [Op.operands])]
  | indexAddr t' x i =>
    have h1 := hv x (by simp [Op.operands])
    have h2 := hx x (by simp [Op.operands])
    have h3 := hv i (by simp [Op.operands])
    simp only [core, h1, h3]
    cases hq : v x with
    | row o =>
      have e := h2 o (by rw [hq]; simp [refs])
      cases v i <;> cases ty E.T t' <;> first | rfl | simp only [e]
    | _ => cases v i <;> cases ty E.T t' <;> rfl
  | index t' x i => simp only [core, hv x (by simp [Op.operands]), hv i (by simp [Op.operands])]
  | extract x i => simp only [core, hv x (by simp [Op.operands])]
  | makeFunc fn first cs =>
    cases fn with
    | func f => simp only [core, mp_local (v := v) (v' := v') (xs := cs.toList) (fun x hx => hv x (by simp only [Op.operands, Array.toList_append, List.mem_append]; exact .inr hx))]
    | _ => rfl
  | call c =>
    have hargs : ∀ x ∈ c.args.toList, x ∈ (Op.call c).operands.toList := fun x hx => by
      simp only [Op.operands, Call.operands, Array.toList_append, List.mem_append]
      exact .inr hx
    have hm : mp v' c.args.toList = mp v c.args.toList := mp_local fun x hx => hv x (hargs x hx)
    simp only [core, hm]
    cases hc : c.callee with
    | builtin b =>
      cases b <;> simp only
      case append =>
        split
        · rename_i s x st xt hl ht
          obtain ⟨xo, yo, hxs, rfl, rfl⟩ := mp_two hl
          rw [append_local (hx xo (hargs xo (by rw [hxs]; simp))) (hx yo (hargs yo (by rw [hxs]; simp))) hd]
        · rfl
      case len =>
        split
        · rename_i x t' hl ht
          obtain ⟨xo, hxs, rfl⟩ := mp_one hl
          rw [lenOp_local (hx xo (hargs xo (by rw [hxs]; simp)))]
        · rfl
    | value fo =>
      have hfo : fo ∈ (Op.call c).operands.toList := by simp [Op.operands, Call.operands, hc]
      simp only [hv fo hfo]
      cases hq : v fo with
      | fn g cs =>
        simp only
        refine call_local (fun o ho => ?_) hd
        rw [refsL_cat] at ho
        rcases List.mem_append.1 ho with ho | ho
        · rw [mp_eq] at ho
          have : ∀ (l : List Operand), (∀ x ∈ l, x ∈ c.args.toList) → o ∈ refsL (l.map v) → ∃ x ∈ l, o ∈ refs (v x) := by
            intro l
            induction l with
            | nil => intro _ h; cases h
            | cons y l ih =>
              intro hl h
              simp only [List.map_cons, refsL, cat_eq, List.mem_append] at h
              rcases h with h | h
              · exact ⟨y, by simp, h⟩
              · obtain ⟨x, h1, h2⟩ := ih (fun x hx => hl x (List.mem_cons_of_mem _ hx)) h
                exact ⟨x, List.mem_cons_of_mem _ h1, h2⟩
          obtain ⟨x, h1, h2⟩ := this c.args.toList (fun x hx => hx) ho
          exact hx x (hargs x h1) o h2
        · exact hx fo hfo o (by rw [hq]; simpa [refs] using ho)
      | _ => rfl
    | invoke x m => rfl
  | _ => rfl
end
end Go.Proofs.Ytihipeicmbgegaa.Rf

