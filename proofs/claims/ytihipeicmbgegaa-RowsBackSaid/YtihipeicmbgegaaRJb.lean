/- A reading of Go's code over plain data: operations. No conditions. -/
import Derived.Test.YtihipeicmbgegaaRJa
import Derived.Laws.Entries
import Derived.Laws.StructEq
import Derived.Laws.BytesString
import Derived.Laws.AppendOwn
namespace Go.Proofs.Ytihipeicmbgegaa.Rf
open Go Go.RowKit
set_option linter.unusedVariables false
set_option linter.unusedSimpArgs false
/-- What an operation does to the world is what the reading says. -/
def Does (P : Program) (T : Tab) (B : List Nat) (I0 : Nat → Nat → Option Value) (w0 : World) (gh : Gh) (w : World) (H : Nat → Option Obj) (a : Act) (o : Oper) (Q : Exit → Act → World → Prop) (av : AV) (ws : Ws) : Prop :=
  ∀ next : Act → World → Prop, (∀ val w' gh', Gh.le H gh gh' → HR P T B I0 w0 gh' w' (wrF ws H) → AVR P T gh' val av → next (a.put o.dst val) w') → o.wp P a w next Q
section
variable {P : Program} {T : Tab} {B : List Nat} {I0 : Nat → Nat → Option Value} {w0 : World} {gh : Gh} {w : World} {H : Nat → Option Obj} {a : Act} {o : Oper} {Q : Exit → Act → World → Prop}
theorem does_value {av : AV} {ws : Ws} {val : Value} {w' : World} {gh' : Gh} (hrun : (execOp a.eval o).run P w = .ok (.value val) w') (hle : Gh.le H gh gh') (hr : HR P T B I0 w0 gh' w' (wrF ws H)) (hv : AVR P T gh' val av) : Does P T B I0 w0 gh w H a o Q av ws := by
  intro next h
  unfold Oper.wp
  rw [hrun]
  exact h val w' gh' hle hr hv
theorem does_skip {ws : Ws} {w' : World} {gh' : Gh} (hrun : (execOp a.eval o).run P w = .ok .skip w') (hle : Gh.le H gh gh') (hr : HR P T B I0 w0 gh' w' (wrF ws H)) : Does P T B I0 w0 gh w H a o Q .undef ws := by
  intro next h
  unfold Oper.wp
  rw [hrun]
  exact h undef w' gh' hle hr trivial
/-- A value out of the world as it is. -/
theorem does_same {av : AV} {val : Value} (h : HR P T B I0 w0 gh w H) (hrun : (execOp a.eval o).run P w = .ok (.value val) w) (hv : AVR P T gh val av) : Does P T B I0 w0 gh w H a o Q av [] :=
  does_value hrun (Gh.le.refl _ _) h hv
theorem Gh.le_I {I' : Nat → Nat → Option Value} (hI : ∀ b off v, gh.I b off = some v → I' b off = some v) : Gh.le H gh { gh with I := I' } := ⟨hI, fun _ _ => ⟨rfl, rfl⟩⟩
theorem does_move {x : Operand} {av : AV} (h : HR P T B I0 w0 gh w H) (ho : o.op = .move x ∨ o.op = .assign x) (hv : AVR P T gh (a.eval x) av) : Does P T B I0 w0 gh w H a o Q av [] := by
  refine does_same h ?_ hv
  rcases ho with ho | ho <;> simp [execOp, ho]
theorem does_nil {d e : Nat} (h : HR P T B I0 w0 gh w H) (ho : o.op = .assign (.const (.slice none 0 0))) (hd : H d = none) : Does P T B I0 w0 gh w H a o Q (.row d) [(d, .row e [] .own)] := by
  refine does_value (val := .slice none 0 0) (w' := w) (gh' := gh.put d (.slice none 0 0) (.row e)) (by simp [execOp, ho, Act.eval]) (Gh.le_put hd _ _) (h.newEmpty hd) ?_
  show _ = _
  simp [Gh.put]
theorem does_alloc {d e : Nat} (hT : tabOk P T = true) (h : HR P T B I0 w0 gh w H) (ho : o.op = .alloc e) (he : ty T e ≠ .other) (hd : H d = none) : Does P T B I0 w0 gh w H a o Q (.ptr d e []) [(d, .var e (zero T deep e) .own)] := by
  obtain ⟨i, z, hi, hs, hz, hb, hl, hzs⟩ := info_of hT he
  refine does_value (val := .pointer (some ⟨w.heap.size, 0, none⟩)) (w' := w.alloc (.cells z.cells e)) (gh' := gh.put d _ _) ?_ (Gh.le_put hd _ _) (h.newVar hd (zero_VR hT hl) hzs) ?_
  · simp only [execOp, ho, Instr.alloc, zeroValue, typeInfo, Sem.run_bind, run_program, Result.andThen_ok, hi, hz, Sem.run_pure, newVar, newRow, run_newObj]
    rfl
  · refine ⟨w.heap.size, 0, 1, 0, ?_, ?_, by simp⟩
    · simp [Gh.put, baseV]
    · simp [Gh.put, pathD, goD]
theorem AVR_ptr_new (gh : Gh) (d t b : Nat) : AVR P T (gh.put d (.pointer (some ⟨b, 0, none⟩)) (.var t)) (.pointer (some ⟨b, 0, none⟩)) (.ptr d t []) :=
  ⟨b, 0, 1, 0, by simp [Gh.put, baseV], by simp [Gh.put, pathD, goD], by simp⟩
theorem does_box {d e : Nat} {x : Operand} {av : AV} {g : G} (hT : tabOk P T = true) (h : HR P T B I0 w0 gh w H) (ho : o.op = .box e x) (hv : AVR P T gh (a.eval x) av) (hr : ∀ o ∈ refs av, (H o).isSome = true) (hc : conv T H e av = some g) (hd : H d = none) :
    Does P T B I0 w0 gh w H a o Q (.ptr d e []) (cat (share H av) [(d, .var e g .own)]) := by
  obtain ⟨I', hI, h1⟩ := h.shares (share_ok H av)
  have hVR := conv_VR hT h1 (hv.mono (Gh.le_I (H := H) hI) av hr) hc (fun p hp => (share_ok H av).at hp) (wrF_fz (share_ok H av))
  have hd' : wrF (share H av) H d = none := by
    rw [wrF_other _ _ _ (fun y hy => ?_)]; exact hd
    rcases share_ok H av _ hy with ⟨e1, es1, a1, b1⟩ | ⟨t1, g1, a1, b1⟩ <;> simp only at b1 <;> rw [hd] at b1 <;> simp at b1
  refine does_value (val := .pointer (some ⟨w.heap.size, 0, none⟩)) (w' := w.alloc (.cells (a.eval x).cells e)) (gh' := Gh.put { gh with I := I' } d _ _) ?_ ?_ ?_ (AVR_ptr_new _ d e w.heap.size)
  · simp only [execOp, ho, Instr.box, newVar, newRow, Sem.run_bind, run_newObj, Result.andThen_ok, Sem.run_pure]
    rfl
  · exact (Gh.le_I (H := H) hI).trans (Gh.le_put hd' _ _) (fun o ho => wrF_some _ _ _ ho)
  · rw [cat_eq, wrF_append]
    exact h1.newVar hd' hVR.1 hVR.2.1
end
end Go.Proofs.Ytihipeicmbgegaa.Rf

namespace Go.Proofs.Ytihipeicmbgegaa.Rf
open Go Go.RowKit
set_option linter.unusedVariables false
set_option linter.unusedSimpArgs false
/-- Cells with others put in from a place on. -/
def setAll (cs : Array Value) (off : Nat) (vs : Array Value) : Array Value := vs.zipIdx.foldl (fun cs (x : Value × Nat) => cs.setIfInBounds (off + x.2) x.1) cs
theorem foldl_set : ∀ (l : List Value) (k off : Nat) (cs : Array Value), ((l.zipIdx k).foldl (fun cs (x : Value × Nat) => cs.setIfInBounds (off + x.2) x.1) cs).size = cs.size ∧ ∀ m, ((l.zipIdx k).foldl (fun cs (x : Value × Nat) => cs.setIfInBounds (off + x.2) x.1) cs)[m]? = if off + k ≤ m ∧ m < off + k + l.length ∧ m < cs.size then l[m - (off + k)]? else cs[m]?
  | [], k, off, cs => by
    refine ⟨rfl, fun m => ?_⟩
    rw [if_neg (by simp; omega)]
    rfl
  | v :: r, k, off, cs => by
    obtain ⟨h1, h2⟩ := foldl_set r (k + 1) off (cs.setIfInBounds (off + k) v)
    simp only [List.zipIdx_cons, List.foldl_cons]
    refine ⟨by rw [h1]; simp, fun m => ?_⟩
    rw [h2 m]
    simp only [Array.size_setIfInBounds, List.length_cons]
    by_cases e : m = off + k
    · subst e
      rw [if_neg (by omega)]
      by_cases hm : off + k < cs.size
      · rw [if_pos ⟨by omega, by omega, hm⟩]
        simp [Array.getElem?_setIfInBounds, hm]
      · rw [if_neg (by omega)]
        simp [Array.getElem?_setIfInBounds, hm]
    · have hne : (cs.setIfInBounds (off + k) v)[m]? = cs[m]? := Array.getElem?_setIfInBounds_ne (fun h => e h.symm)
      by_cases hc : off + k ≤ m ∧ m < off + k + (r.length + 1) ∧ m < cs.size
      · rw [if_pos ⟨by omega, by omega, by omega⟩, if_pos hc]
        have : m - (off + k) = (m - (off + (k + 1))) + 1 := by omega
        rw [this, List.getElem?_cons_succ]
      · rw [if_neg (by omega), if_neg hc, hne]
theorem setAll_size (cs : Array Value) (off : Nat) (vs : Array Value) : (setAll cs off vs).size = cs.size := by
  unfold setAll
  rw [← Array.foldl_toList, Array.toList_zipIdx]
  exact (foldl_set vs.toList 0 off cs).1
theorem setAll_get (cs : Array Value) (off : Nat) (vs : Array Value) (m : Nat) : (setAll cs off vs)[m]? = if off ≤ m ∧ m < off + vs.size ∧ m < cs.size then vs[m - off]? else cs[m]? := by
  unfold setAll
  rw [← Array.foldl_toList, Array.toList_zipIdx]
  have := (foldl_set vs.toList 0 off cs).2 m
  simp only [Nat.add_zero, Array.length_toList, Array.getElem?_toList] at this
  exact this
section
variable {P : Program} {T : Tab} {B : List Nat} {I0 : Nat → Nat → Option Value} {w0 : World} {gh : Gh} {w : World} {H : Nat → Option Obj} {a : Act} {o : Oper} {Q : Exit → Act → World → Prop}
theorem puts_shares {v : Operand → AV} {Tf : Nat → Option TypeId} : ∀ (ps : List (Nat × Operand)) (gs gs' : List G) (ws : Ws), puts T H v Tf ps gs = some (gs', ws) → Sharing H ws ∧ (∀ p ∈ ps, ∀ q ∈ share H (v p.2), q ∈ ws)
  | [], gs, gs', ws, h => by
    simp only [puts, Option.some.injEq, Prod.mk.injEq] at h
    obtain ⟨rfl, rfl⟩ := h
    exact ⟨(fun p hp => by cases hp), (fun p hp => by cases hp)⟩
  | (i, x) :: r, gs, gs', ws, h => by
    simp only [puts] at h
    split at h
    · cases h
    · rename_i t ht
      split at h
      · rename_i _ _ g gs1 ws1 hc hp
        simp only [Option.some.injEq, Prod.mk.injEq] at h
        obtain ⟨rfl, rfl⟩ := h
        obtain ⟨h1, h2⟩ := puts_shares r _ _ _ hp
        rw [cat_eq]
        refine ⟨(share_ok H _).append h1, fun p hp q hq => ?_⟩
        rcases List.mem_cons.1 hp with rfl | hp
        · exact List.mem_append_left _ hq
        · exact List.mem_append_right _ (h2 p hp q hq)
      · cases h
/-- A literal's parts, put into the cells. -/
theorem puts_fill (hT : tabOk P T = true) {H' : Nat → Option Obj} {v : Operand → AV} {ρ : Operand → Value} {Tf : Nat → Option TypeId} {off : Nat → Nat} {place : Nat → Option (Nat × Nat)} {N : Nat}
    (h : HR P T B I0 w0 gh w H') (hv : ∀ x, AVR P T gh (ρ x) (v x)) (hz : ∀ o e es, H o = some (.row e es .fz) → H' o = some (.row e es .fz))
    (hpl : ∀ i t, Tf i = some t → place i = some (off i, sz P t)) (hN : ∀ i t, Tf i = some t → off i + sz P t ≤ N) (hap : ∀ i k t u, i < k → Tf i = some t → Tf k = some u → off i + sz P t ≤ off k) :
    ∀ (ps : List (Nat × Operand)) (gs gs' : List G) (ws : Ws) (cs : Array Value), puts T H v Tf ps gs = some (gs', ws) → (∀ p ∈ ps, ∀ q ∈ share H (v p.2), H' q.1 = some q.2) → cs.size = N → (∀ i t, Tf i = some t → i < gs.length) →
      (∀ i t (hi : i < gs.length), Tf i = some t → CR P T gh.I t (fun j => cs[off i + j]?) gs[i]) →
      ∃ cs', Instr.fill place cs (ps.map fun p => (p.1, ρ p.2)) = some cs' ∧ cs'.size = N ∧ gs'.length = gs.length ∧ ∀ i t (hi : i < gs'.length), Tf i = some t → CR P T gh.I t (fun j => cs'[off i + j]?) gs'[i]
  | [], gs, gs', ws, cs, hp, hq, hN1, hlen, hc => by
    simp only [puts, Option.some.injEq, Prod.mk.injEq] at hp
    obtain ⟨rfl, rfl⟩ := hp
    exact ⟨cs, rfl, hN1, rfl, hc⟩
  | (i, x) :: r, gs, gs', ws, cs, hp, hq, hN1, hlen, hc => by
    simp only [puts] at hp
    split at hp
    · cases hp
    · rename_i t ht
      split at hp
      · rename_i _ _ g gs1 ws1 hcv hp1
        simp only [Option.some.injEq, Prod.mk.injEq] at hp
        obtain ⟨rfl, rfl⟩ := hp
        have hVR := conv_VR hT h (hv x) hcv (fun q hq' => hq (i, x) (by simp) q hq') hz
        rw [hcv] at hp1
        simp only [Option.getD_some] at hp1
        have hlt := hlen i t ht
        have hkey : ∀ k u (hk : k < (gs.set i g).length), Tf k = some u → CR P T gh.I u (fun j => (setAll cs (off i) (ρ x).cells)[off k + j]?) (gs.set i g)[k] := by
          intro k u hk hu
          by_cases e : k = i
          · subst e
            rw [ht] at hu
            obtain rfl : t = u := by simpa using hu
            simp only [List.getElem_set_self]
            refine hVR.1.congr hT fun j hj => ?_
            rw [setAll_get]
            have hs := hVR.2.1
            have := hN k t ht
            rw [if_pos ⟨by omega, by omega, by omega⟩]
            congr 1
            omega
          · simp only [List.getElem_set_ne (fun h => e h.symm)]
            refine (hc k u (by simpa using hk) hu).congr hT fun j hj => ?_
            rw [setAll_get, if_neg]
            have hs := hVR.2.1
            rcases Nat.lt_or_ge k i with hki | hki
            · have := hap k i u t hki hu ht
              omega
            · have := hap i k t u (by omega) ht hu
              omega
        obtain ⟨cs', h1, h2, h3, h4⟩ := puts_fill hT h hv hz hpl hN hap r (gs.set i g) gs1 ws1 (setAll cs (off i) (ρ x).cells) hp1 (fun p hp => hq p (List.mem_cons_of_mem _ hp)) (by rw [setAll_size]; exact hN1) (fun i t h => by simpa using hlen i t h) hkey
        refine ⟨cs', ?_, h2, by simpa using h3, h4⟩
        simp only [List.map_cons, Instr.fill, hpl i t ht]
        have hs := hVR.2.1
        rw [if_neg (by have := hN i t ht; simp only [hs, ne_eq, not_true_eq_false, decide_false, Bool.false_or, decide_eq_true_eq]; omega)]
        exact h1
      · cases hp
end
end Go.Proofs.Ytihipeicmbgegaa.Rf

namespace Go.Proofs.Ytihipeicmbgegaa.Rf
open Go Go.RowKit
set_option linter.unusedVariables false
set_option linter.unusedSimpArgs false
section
variable {P : Program} {T : Tab} {B : List Nat} {I0 : Nat → Nat → Option Value} {w0 : World} {gh : Gh} {w : World} {H : Nat → Option Obj} {a : Act} {o : Oper} {Q : Exit → Act → World → Prop}
theorem run_listMapM {β γ : Type} (f : β → Sem γ) (g : β → γ) (w : World) : ∀ (l : List β), (∀ x ∈ l, (f x).run P w = .ok (g x) w) → (l.mapM f).run P w = .ok (l.map g) w
  | [], _ => rfl
  | x :: r, h => by
    rw [List.mapM_cons]
    simp only [Sem.run_bind, h x (by simp), Result.andThen_ok, run_listMapM f g w r (fun y hy => h y (List.mem_cons_of_mem _ hy)), Sem.run_pure, List.map_cons]
theorem run_arrMapM {β γ : Type} (f : β → Sem γ) (g : β → γ) (w : World) (l : Array β) (h : ∀ x ∈ l, (f x).run P w = .ok (g x) w) : (l.mapM f).run P w = .ok (l.map g) w := by
  rw [Array.mapM_eq_mapM_toList, Sem.run_map, run_listMapM f g w l.toList (fun x hx => h x (by simpa using hx))]
  simp only [Result.andThen_ok]
  congr 1
  exact Array.toList_inj.1 (by simp)
theorem run_size {t : TypeId} (h : 0 < sz P t) (w : World) : (sizeOf t).run P w = .ok (sz P t) w := by
  unfold sz Program.cellsOf at *
  cases hi : P.info? t with
  | none => simp [hi] at h
  | some i => simp [sizeOf, typeInfo, hi]
theorem zero_tu {t : TypeId} {ts : List TypeId} (h : ty T t = .tu ts) : zero T deep t = .tu (ts.map (zero T 11)) := by
  show zero T (11 + 1) t = _
  simp only [zero, h]
theorem zero_arr {t e : TypeId} {n : Nat} (h : ty T t = .arr n e) : zero T deep t = .tu (List.replicate n (zero T 11 e)) := by
  show zero T (11 + 1) t = _
  simp only [zero, h]
theorem VR_agg {I : Nat → Nat → Option Value} {t : TypeId} {cs : Array Value} {g : G} (hc : CR P T I t (fun j => cs[j]?) g) (hs : cs.size = sz P t) (ha : isAggT (ty T t) = true) : VR P T I t (.agg cs) g := ⟨hc, hs, by rw [ha]; rfl⟩
theorem does_build_tu {t : TypeId} {ts : List TypeId} {ps : Array (Nat × Operand)} {v : Operand → AV} {gs : List G} {ws : Ws} (hT : tabOk P T = true) (h : HR P T B I0 w0 gh w H) (ho : o.op = .build t ps) (ht : ty T t = .tu ts)
    (hv : ∀ x, AVR P T gh (a.eval x) (v x)) (hr : ∀ x, ∀ o ∈ refs (v x), (H o).isSome = true) (hp : puts T H v (atL ts) ps.toList (zero T deep t).parts = some (gs, ws)) : Does P T B I0 w0 gh w H a o Q (.agg t (.tu gs)) ws := by
  obtain ⟨hs1, hs2⟩ := puts_shares _ _ _ _ hp
  obtain ⟨I', hI, h1⟩ := h.shares hs1
  obtain ⟨fs, hu, hfs, hst, hf⟩ := und_tu hT ht
  obtain ⟨i, z, hi, hsz, hz, hb, hl, hzs⟩ := info_of (P := P) hT (t := t) (by rw [ht]; simp)
  have hzc := zero_VR (I := I') hT hl
  rw [zero_tu ht] at hp hzc
  simp only [G.parts] at hp
  cases hzc with
  | arr h1' _ _ => rw [ht] at h1'; cases h1'
  | tu h1' h2' h3' =>
  rw [ht] at h1'
  cases h1'
  have hty : ∀ i u, atL ts i = some u → i < ts.length ∧ ts[i]? = some u := by
    intro i u hiu
    rw [atL_eq] at hiu
    exact ⟨(List.getElem?_eq_some_iff.1 hiu).1, hiu⟩
  have hfsz : ∀ i u, atL ts i = some u → ∃ f, fs[i]? = some f ∧ f.offset = offs P ts i ∧ f.type = u ∧ 0 < sz P u := by
    intro i u hiu
    obtain ⟨hlt, hu'⟩ := hty i u hiu
    have hlen : fs.size = ts.length := by rw [← hfs]; simp
    have hf0 : fs[i]? = some fs[i] := by simp [hlen, hlt]
    have := hf i _ hf0
    rw [hu'] at this
    have e : fs[i].type = u := by simpa using this.2.1.symm
    exact ⟨_, hf0, this.1, e, by rw [← e]; exact this.2.2.1⟩
  obtain ⟨cs', hfill, hcs, hlen, hcr⟩ := puts_fill (place := fun i => (fs.map fun f => (f.offset, sz P f.type))[i]?) (off := offs P ts) (N := sz P t) hT h1 (fun x => (hv x).mono (Gh.le_I (H := H) hI) _ (hr x)) (wrF_fz hs1)
    (fun i u hiu => by obtain ⟨f, hf0, hf1, hf2, _⟩ := hfsz i u hiu; simp [hf0, hf1, hf2])
    (fun i u hiu => by
      obtain ⟨hlt, hu'⟩ := hty i u hiu
      obtain ⟨_, rfl⟩ := List.getElem?_eq_some_iff.1 hu'
      rw [tu_size hT ht]; exact offs_le ts i hlt hlt)
    (fun i k u u' hik hiu hku => by
      obtain ⟨hlt, hu'⟩ := hty i u hiu
      obtain ⟨hlt2, _⟩ := hty k u' hku
      obtain ⟨_, rfl⟩ := List.getElem?_eq_some_iff.1 hu'
      exact offs_lt ts i k hik hlt hlt2)
    ps.toList _ _ _ z.cells hp (fun p hp q hq => hs1.at (hs2 p hp q hq)) hzs (fun i u hiu => by have := (hty i u hiu).1; simpa using this)
    (fun i u hiu hiu' => by
      obtain ⟨hlt, hu'⟩ := hty i u hiu'
      obtain ⟨_, rfl⟩ := List.getElem?_eq_some_iff.1 hu'
      exact h3' i hlt hiu)
  refine does_value (val := .agg cs') (w' := w) (gh' := { gh with I := I' }) ?_ (Gh.le_I hI) h1 ⟨VR_agg (.tu ht (by simpa using hlen) fun i hi hi' => ?_) hcs (by rw [ht]; rfl), by rw [ht]; rfl⟩
  · have hm : (fs.mapM fun f => (do pure (f.offset, ← sizeOf f.type) : Sem (Nat × Nat))).run P w = .ok (fs.map fun f => (f.offset, sz P f.type)) w := by
      refine run_arrMapM _ _ w fs fun f hf' => ?_
      obtain ⟨i, hlt, rfl⟩ := Array.mem_iff_getElem.1 hf'
      have hf0 : fs[i]? = some fs[i] := by simp [hlt]
      have := (hf i _ hf0).2.2.1
      simp [run_size this]
    have hzr : (zeroValue t).run P w = .ok z w := by simp [zeroValue, typeInfo, hi, hz]
    simp only [execOp, ho, Instr.build, Sem.run_bind, hzr, Result.andThen_ok, run_underlying hu, hm, Array.toList_map, hfill, Sem.run_pure]
  · exact hcr i _ hi' (by rw [atL_eq]; simp [hi])
theorem does_build_arr {t e : TypeId} {n : Nat} {ps : Array (Nat × Operand)} {v : Operand → AV} {gs : List G} {ws : Ws} (hT : tabOk P T = true) (h : HR P T B I0 w0 gh w H) (ho : o.op = .build t ps) (ht : ty T t = .arr n e)
    (hv : ∀ x, AVR P T gh (a.eval x) (v x)) (hr : ∀ x, ∀ o ∈ refs (v x), (H o).isSome = true) (hp : puts T H v (fun i => cnd (Nat.blt i n) (some e) none) ps.toList (zero T deep t).parts = some (gs, ws)) : Does P T B I0 w0 gh w H a o Q (.agg t (.tu gs)) ws := by
  obtain ⟨hs1, hs2⟩ := puts_shares _ _ _ _ hp
  obtain ⟨I', hI, h1⟩ := h.shares hs1
  have hu := und_arr hT ht
  obtain ⟨hsize, hpos⟩ := arr_size hT ht
  obtain ⟨i, z, hi, hsz, hz, hb, hl, hzs⟩ := info_of (P := P) hT (t := t) (by rw [ht]; simp)
  have hzc := zero_VR (I := I') hT hl
  rw [zero_arr ht] at hp hzc
  simp only [G.parts] at hp
  cases hzc with
  | tu h1' _ _ => rw [ht] at h1'; cases h1'
  | arr h1' h2' h3' =>
  rw [ht] at h1'
  cases h1'
  have hty : ∀ i u, cnd (Nat.blt i n) (some e) none = some u → i < n ∧ e = u := by
    intro i u hiu
    cases hb : Nat.blt i n with
    | false => simp [hb] at hiu
    | true => simp [hb] at hiu; exact ⟨by simpa using hb, hiu⟩
  obtain ⟨cs', hfill, hcs, hlen, hcr⟩ := puts_fill (place := fun i => some (i * sz P e, sz P e)) (off := fun i => i * sz P e) (N := sz P t) hT h1 (fun x => (hv x).mono (Gh.le_I (H := H) hI) _ (hr x)) (wrF_fz hs1)
    (fun i u hiu => by obtain ⟨_, rfl⟩ := hty i u hiu; rfl)
    (fun i u hiu => by
      obtain ⟨hlt, rfl⟩ := hty i u hiu
      have : (i + 1) * sz P e ≤ n * sz P e := Nat.mul_le_mul_right _ hlt
      rw [Nat.add_mul] at this
      omega)
    (fun i k u u' hik hiu hku => by
      obtain ⟨_, rfl⟩ := hty i u hiu
      have : (i + 1) * sz P e ≤ k * sz P e := Nat.mul_le_mul_right _ hik
      rw [Nat.add_mul] at this
      omega)
    ps.toList _ _ _ z.cells hp (fun p hp q hq => hs1.at (hs2 p hp q hq)) hzs (fun i u hiu => by have := (hty i u hiu).1; simpa using this)
    (fun i u hiu hiu' => by
      obtain ⟨hlt, rfl⟩ := hty i u hiu'
      exact h3' i hiu)
  refine does_value (val := .agg cs') (w' := w) (gh' := { gh with I := I' }) ?_ (Gh.le_I hI) h1 ⟨VR_agg (.arr ht (by simpa using hlen) fun i hi => ?_) hcs (by rw [ht]; rfl), by rw [ht]; rfl⟩
  · have hzr : (zeroValue t).run P w = .ok z w := by simp [zeroValue, typeInfo, hi, hz]
    simp only [execOp, ho, Instr.build, Sem.run_bind, hzr, Result.andThen_ok, run_underlying hu, run_size hpos, Array.toList_map, hfill, Sem.run_pure]
  · have : i < n := by simpa [hlen] using hi
    have hb : Nat.blt i n = true := by rw [Nat.blt, Nat.ble_eq]; exact this
    exact hcr i e hi (by rw [hb]; rfl)
end
end Go.Proofs.Ytihipeicmbgegaa.Rf

namespace Go.Proofs.Ytihipeicmbgegaa.Rf
open Go Go.RowKit
set_option linter.unusedVariables false
set_option linter.unusedSimpArgs false
section
variable {P : Program} {T : Tab} {B : List Nat} {I0 : Nat → Nat → Option Value} {w0 : World} {gh : Gh} {w : World} {H : Nat → Option Obj} {a : Act} {o : Oper} {Q : Exit → Act → World → Prop}
theorem known_ne {e : TypeId} (h : known T e = true) : ty T e ≠ .other := by
  intro h'
  simp [known, h'] at h
theorem made_get (z : Array Value) (n i j : Nat) (hi : i < n) (hj : j < z.size) : (madeCells z (n * z.size))[i * z.size + j]? = z[j]? := by
  have hlt : i * z.size + j < n * z.size := by
    have : (i + 1) * z.size ≤ n * z.size := Nat.mul_le_mul_right _ hi
    rw [Nat.add_mul] at this
    omega
  have hm : (i * z.size + j) % z.size = j := by
    rw [Nat.mul_comm, Nat.mul_add_mod, Nat.mod_eq_of_lt hj]
  simp [madeCells, hlt, hm, hj]
theorem made_CR (hT : tabOk P T = true) {I : Nat → Nat → Option Value} {e : TypeId} {z : Value} {n i : Nat} (hz : CR P T I e (fun j => z.cells[j]?) (zero T deep e)) (hs : z.cells.size = sz P e) (hi : i < n) : CR P T I e (fun j => (madeCells z.cells (n * sz P e))[i * sz P e + j]?) (zero T deep e) :=
  hz.congr hT fun j hj => by
    have := made_get z.cells n i j hi (by omega)
    rw [hs] at this
    exact this
theorem AVR_row_new (gh : Gh) (d e : Nat) (v : Value) : AVR P T (gh.put d v (.row e)) v (.row d) := by
  show _ = _
  simp [Gh.put]
theorem wrF_none {ws : Ws} (hs : Sharing H ws) {d : Nat} (hd : H d = none) : wrF ws H d = none := by
  rw [wrF_other _ _ _ (fun y hy => ?_)]
  · exact hd
  · rcases hs _ hy with ⟨e1, es1, a1, b1⟩ | ⟨t1, g1, a1, b1⟩ <;> simp only at b1 <;> rw [hd] at b1 <;> simp at b1
theorem does_buildSlice {t e : TypeId} {n d : Nat} {ps : Array (Nat × Operand)} {v : Operand → AV} {gs : List G} {ws : Ws} (hT : tabOk P T = true) (h : HR P T B I0 w0 gh w H) (ho : o.op = .buildSlice t n ps) (ht : ty T t = .sl e) (hk : known T e = true) (hn : n ≤ 4096) (hd : H d = none)
    (hv : ∀ x, AVR P T gh (a.eval x) (v x)) (hr : ∀ x, ∀ o ∈ refs (v x), (H o).isSome = true) (hp : puts T H v (fun i => cnd (Nat.blt i n) (some e) none) ps.toList (List.replicate n (zero T deep e)) = some (gs, ws)) : Does P T B I0 w0 gh w H a o Q (.row d) (cat ws [(d, .row e gs .own)]) := by
  obtain ⟨hs1, hs2⟩ := puts_shares _ _ _ _ hp
  obtain ⟨I', hI, h1⟩ := h.shares hs1
  obtain ⟨hu, hpos, hby, hsz2⟩ := und_sl hT ht
  obtain ⟨i, z, hi, hsz, hz, hb, hl, hzs⟩ := info_of (P := P) hT (known_ne hk)
  have hzc := zero_VR (I := I') hT hl
  have hty : ∀ i u, cnd (Nat.blt i n) (some e) none = some u → i < n ∧ e = u := by
    intro i u hiu
    cases hb : Nat.blt i n with
    | false => simp [hb] at hiu
    | true => simp [hb] at hiu; exact ⟨by simpa using hb, hiu⟩
  obtain ⟨cs', hfill, hcs, hlen, hcr⟩ := puts_fill (place := fun i => some (i * sz P e, sz P e)) (off := fun i => i * sz P e) (N := n * sz P e) hT h1 (fun x => (hv x).mono (Gh.le_I (H := H) hI) _ (hr x)) (wrF_fz hs1)
    (fun i u hiu => by obtain ⟨_, rfl⟩ := hty i u hiu; rfl)
    (fun i u hiu => by
      obtain ⟨hlt, rfl⟩ := hty i u hiu
      have : (i + 1) * sz P e ≤ n * sz P e := Nat.mul_le_mul_right _ hlt
      rw [Nat.add_mul] at this
      omega)
    (fun i k u u' hik hiu hku => by
      obtain ⟨_, rfl⟩ := hty i u hiu
      have : (i + 1) * sz P e ≤ k * sz P e := Nat.mul_le_mul_right _ hik
      rw [Nat.add_mul] at this
      omega)
    ps.toList _ _ _ (madeCells z.cells (n * sz P e)) hp (fun p hp q hq => hs1.at (hs2 p hp q hq)) (size_madeCells _ _) (fun i u hiu => by have := (hty i u hiu).1; simpa using this)
    (fun i u hiu hiu' => by
      obtain ⟨hlt, rfl⟩ := hty i u hiu'
      simp only [List.getElem_replicate]
      exact made_CR hT hzc hzs hlt)
  have hlen' : gs.length = n := by simpa using hlen
  have hmul : n * sz P e ≤ 4096 * 2048 := Nat.mul_le_mul hn hsz2
  have hd' := wrF_none hs1 hd
  refine does_value (val := .slice (some ⟨w.heap.size, 0, none⟩) n n) (w' := w.alloc (.cells cs' e)) (gh' := Gh.put { gh with I := I' } d _ (.row e)) ?_ ((Gh.le_I (H := H) hI).trans (Gh.le_put hd' _ _) (fun o ho => wrF_some _ _ _ ho)) ?_ (AVR_row_new _ d e _)
  · have hzr : (zeroValue e).run P w = .ok z w := by simp [zeroValue, typeInfo, hi, hz]
    have hbig : ¬ (16777216 < n * sz P e) := by omega
    by_cases hz0 : n * sz P e = 0
    · have hme : madeCells z.cells (n * sz P e) = #[] := by rw [hz0]; exact Array.eq_empty_of_size_eq_zero (size_madeCells _ _)
      have hme0 : Array.map (fun (x : Nat) => (default : Value)) (Array.range 0) = #[] := Array.eq_empty_of_size_eq_zero (by simp)
      rw [hme] at hfill
      simp [execOp, ho, Instr.buildSlice, run_underlying hu, run_size hpos, hz0, newRow]
      rw [hme0, hfill]
      rfl
    · have hme : (Array.range (n * sz P e)).map (fun x => z.cells[x % z.cells.size]!) = madeCells z.cells (n * sz P e) := rfl
      simp [execOp, ho, Instr.buildSlice, run_underlying hu, run_size hpos, hz0, hbig, hzr, newRow]
      simp [madeCells] at hfill
      rw [hfill]
      rfl
  · rw [cat_eq, wrF_append]
    refine h1.newRow (xs := cs'.toList) hd' (Upto.alloc w _) (fun b hb => ?_) ?_ ?_
    · cases n with
      | zero => simp [blkV] at hb
      | succ n => obtain rfl : w.heap.size = b := by simpa [blkV] using hb
                  exact Nat.le_refl _
    · rw [hlen']
      exact World.ownsRow_lit w cs' n h1.up.size (by simp [maxLen]; omega) hcs
    · intro i hi
      have := hcr i e hi (by have hb : Nat.blt i n = true := by rw [Nat.blt, Nat.ble_eq]; exact (hlen' ▸ hi)
                             rw [hb]; rfl)
      simpa using this
theorem does_makeSlice {t e : TypeId} {d : Nat} {kl kc : IntKind} {x y : Operand} {l c : Int} (hT : tabOk P T = true) (h : HR P T B I0 w0 gh w H) (ho : o.op = .makeSlice t x y) (ht : ty T t = .sl e) (hk : known T e = true) (hd : H d = none)
    (hx : a.eval x = .int kl l) (hy : a.eval y = .int kc c) (h0 : 0 ≤ l) (h1 : l ≤ c) (h2 : c ≤ most) : Does P T B I0 w0 gh w H a o Q (.row d) [(d, .row e (List.replicate l.toNat (zero T deep e)) .own)] := by
  obtain ⟨hu, hpos, hby, hsz2⟩ := und_sl hT ht
  obtain ⟨i, z, hi, hsz, hz, hb, hl, hzs⟩ := info_of (P := P) hT (known_ne hk)
  have hzc := zero_VR (I := gh.I) hT hl
  have hbytes : (i.bytes : Int) * c ≤ 281474976710656 := by
    rw [hb]
    have : (P.bytesOf e : Int) * c ≤ 2048 * c := Int.mul_le_mul_of_nonneg_right (by omega) (by omega)
    have h2' : c ≤ 68719476736 := h2
    omega
  have h2' : c ≤ 68719476736 := h2
  have hr := run_make (P := P) w t e i z hu hi hz kl kc l c h0 h1 hbytes (by omega)
  refine does_value (val := .slice (some ⟨w.heap.size, 0, none⟩) l.toNat c.toNat) (w' := w.alloc (.cells (madeCells z.cells (c.toNat * i.size)) e)) (gh' := gh.put d _ (.row e)) ?_ (Gh.le_put hd _ _) ?_ (AVR_row_new _ d e _)
  · simp only [execOp, ho, hx, hy, Sem.run_bind, hr, Result.andThen_ok, Sem.run_pure]
  · refine h.newRow (xs := (madeCells z.cells (c.toNat * sz P e)).toList.take (l.toNat * sz P e)) hd (Upto.alloc w _) (fun b hb => ?_) ?_ ?_
    · cases hc : c.toNat with
      | zero => rw [hc] at hb; simp [blkV] at hb
      | succ m => rw [hc] at hb
                  obtain rfl : w.heap.size = b := by simpa [blkV] using hb
                  exact Nat.le_refl _
    · have hle : l.toNat * sz P e ≤ c.toNat * sz P e := Nat.mul_le_mul_right _ (by omega)
      refine ⟨?_, .inr ⟨w.heap.size, c.toNat, madeCells z.cells (c.toNat * sz P e), by simp, h.up.size, by rw [hsz]; exact heap_new w _, by simp; omega, by simp only [maxLen]; omega, size_madeCells _ _, by simp⟩⟩
      simp only [List.length_replicate, List.length_take, Array.length_toList, size_madeCells]
      omega
    · intro k hk'
      simp only [List.length_replicate] at hk'
      simp only [List.getElem_replicate]
      refine (made_CR (n := c.toNat) (i := k) hT hzc hzs (by omega)).congr hT fun j hj => ?_
      have : (k + 1) * sz P e ≤ l.toNat * sz P e := Nat.mul_le_mul_right _ hk'
      rw [Nat.add_mul] at this
      rw [List.getElem?_take, if_pos (by omega)]
      simp
end
end Go.Proofs.Ytihipeicmbgegaa.Rf

namespace Go.Proofs.Ytihipeicmbgegaa.Rf
open Go Go.RowKit
set_option linter.unusedVariables false
set_option linter.unusedSimpArgs false
section
variable {P : Program} {T : Tab} {B : List Nat} {I0 : Nat → Nat → Option Value} {w0 : World} {gh : Gh} {w : World} {H : Nat → Option Obj} {a : Act} {o : Oper} {Q : Exit → Act → World → Prop}
theorem CR.known {I : Nat → Nat → Option Value} {t : TypeId} {rd : Nat → Option Value} {g : G} (h : CR P T I t rd g) : ty T t ≠ .other := by
  cases h <;> simp_all
theorem CR.agg {I : Nat → Nat → Option Value} {t : TypeId} {rd : Nat → Option Value} {g : G} (h : CR P T I t rd g) (hT : tabOk P T = true) (ha : isAggT (ty T t) = true) : ∃ d, P.underlying t = some d ∧ d.isRow = true := by
  cases h with
  | tu h1 _ _ => obtain ⟨fs, hu, _⟩ := und_tu hT h1; exact ⟨_, hu, rfl⟩
  | arr h1 _ _ => exact ⟨_, und_arr hT h1, rfl⟩
  | int h1 _ => rw [h1] at ha; cases ha
  | bool h1 _ => rw [h1] at ha; cases ha
  | str h1 _ => rw [h1] at ha; cases ha
  | nil h1 _ => rw [h1] at ha; cases ha
  | sl h1 _ _ _ => rw [h1] at ha; cases ha
theorem isAgg_false (hT : tabOk P T = true) {t : TypeId} (hk : ty T t ≠ .other) (ha : isAggT (ty T t) = false) (w : World) : (isAgg t).run P w = .ok false w := by
  unfold isAgg
  cases hy : ty T t with
  | int k => simp [run_underlying (und_int hT hy)]
  | bool => simp [run_underlying (und_bool hT hy)]
  | str => simp [run_underlying (und_str hT hy)]
  | sl e => simp [run_underlying (und_sl hT hy).1]
  | tu ts => rw [hy] at ha; cases ha
  | arr n e => rw [hy] at ha; cases ha
  | other => exact absurd hy hk
/-- What is read at a place where data lies. -/
theorem load_VR (hT : tabOk P T = true) {I : Nat → Nat → Option Value} {t : TypeId} {b off : Nat} {g : G} (h : CR P T I t (fun j => w.cell? ⟨b, off + j, none⟩) g) :
    ∃ val, (Instr.loadAt t (.pointer (some ⟨b, off, none⟩))).run P w = .ok val w ∧ VR P T I t val g := by
  obtain ⟨i, z, hi, hsz, _⟩ := info_of (P := P) hT h.known
  have hcell := h.cell hT
  cases ha : isAggT (ty T t) with
  | true =>
    obtain ⟨d, hu, hd⟩ := h.agg hT ha
    have hlen : ((List.range (sz P t)).map fun j => (w.cell? ⟨b, off + j, none⟩).getD undef).length = sz P t := by simp
    refine ⟨_, run_loadAt_mid (P := P) w b off t ((List.range (sz P t)).map fun j => (w.cell? ⟨b, off + j, none⟩).getD undef) d (fun j v hv => ?_) hu hd (by rw [hi, hlen]; simp [hsz]), VR_agg (h.congr hT fun j hj => ?_) (by simp) ha⟩
    · obtain ⟨hlt, rfl⟩ := List.getElem?_eq_some_iff.1 hv
      obtain ⟨v, hv, _⟩ := hcell j (by simpa using hlt)
      simp [hv]
    · obtain ⟨v, hv, _⟩ := hcell j hj
      simp [hj, hv]
  | false =>
    have hs := scalar_size hT rfl h.known ha
    obtain ⟨v, hv, h1⟩ := hcell 0 (by omega)
    have hv' : w.cell? ⟨b, off, none⟩ = some v := hv
    refine ⟨v, ?_, ?_, ?_, ?_⟩
    · simp only [Instr.loadAt, Instr.sureAddr, Sem.run_bind, Sem.run_pure, Result.andThen_ok, loadVar, isAgg_false hT h.known ha, Bool.false_eq_true, if_false, run_load, hv']
    · refine h.congr hT fun j hj => ?_
      obtain rfl : j = 0 := by omega
      have : v.cells = #[v] := by cases v <;> first | rfl | cases h1
      rw [this, hv]; rfl
    · have : v.cells = #[v] := by cases v <;> first | rfl | cases h1
      rw [this, hs]; rfl
    · rw [ha]; cases v <;> first | rfl | cases h1
/-- What an object says, where it lies. -/
theorem obj_read (hT : tabOk P T = true) (h : HR P T B I0 w0 gh w H) {o : Nat} {ob : Obj} {g : G} {b off n d : Nat} {t : TypeId} {p : List Nat} (ho : H o = some ob) (hg : objG ob = some g) (hb : baseV (gh.V o) = some (b, off, n)) (hp : pathD P T (gh.Y o) n p = some (d, t)) :
    CR P T gh.I t (fun j => w.cell? ⟨b, off + d + j, none⟩) (getP g p) := by
  have hor := h.obj o ob ho
  have varAt : ∀ {t0 : TypeId} {g : G} {b' : Nat}, VarAt P T gh.I w b' t0 g → gh.V o = .pointer (some ⟨b', 0, none⟩) → gh.Y o = .var t0 → CR P T gh.I t (fun j => w.cell? ⟨b, off + d + j, none⟩) (getP g p) := by
    rintro t0 g b' ⟨cs, t', h1, h2, h3, h4⟩ hV hY
    rw [hV] at hb
    simp only [baseV, Option.some.injEq, Prod.mk.injEq] at hb
    obtain ⟨rfl, rfl, rfl⟩ := hb
    rw [hY] at hp
    refine (h3.get p hp).mono (fun _ _ _ h => h) fun j v hv => ?_
    rw [cell_block h1, Nat.zero_add]
    exact hv
  cases ob with
  | var t0 g0 m =>
    obtain rfl : g0 = g := by simpa [objG] using hg
    cases m with
    | own => obtain ⟨hY, b', hV, _, hva⟩ := hor; exact varAt hva hV hY
    | ref => obtain ⟨hY, b', hV, _, hva⟩ := hor; exact varAt hva hV hY
    | fz =>
      obtain ⟨hY, b', hV, hc⟩ := hor
      rw [hV] at hb
      simp only [baseV, Option.some.injEq, Prod.mk.injEq] at hb
      obtain ⟨rfl, rfl, rfl⟩ := hb
      rw [hY] at hp
      refine (hc.get p hp).mono (fun _ _ _ h => h) fun j v hv => ?_
      rw [Nat.zero_add]
      exact h.imm _ _ _ hv
  | row e es m =>
    obtain rfl : G.tu es = g := by simpa [objG] using hg
    have path : gh.Y o = .row e → ∃ i p' d', p = i :: p' ∧ i < n ∧ goD P T e p' = some (d', t) ∧ d = i * sz P e + d' := by
      intro hY
      rw [hY] at hp
      cases p with
      | nil => simp [pathD] at hp
      | cons i p' =>
        simp only [pathD] at hp
        split at hp
        · rename_i hlt
          simp only [Option.map_eq_some_iff, Prod.mk.injEq] at hp
          obtain ⟨⟨d', u⟩, h1, h2, h3⟩ := hp
          simp only at h2 h3
          subst h3
          exact ⟨i, p', d', rfl, hlt, h1, h2.symm⟩
        · cases hp
    have slr : ∀ {I : Nat → Nat → Option Value}, gh.Y o = .row e → SLR P T gh.I e es (gh.V o) → CR P T gh.I t (fun j => w.cell? ⟨b, off + d + j, none⟩) (getP (.tu es) p) := by
      intro _ hY hs
      obtain ⟨i, p', d', rfl, hlt, hq, rfl⟩ := path hY
      rcases hs with ⟨x, c, hV, rfl⟩ | ⟨b', off', c, hV, hc1, hc2⟩
      · rw [hV] at hb
        cases x with
        | none => simp [baseV] at hb
        | some ad =>
          obtain ⟨ab, ao, as⟩ := ad
          cases as with
          | none => simp only [baseV, Option.some.injEq, Prod.mk.injEq] at hb; omega
          | some s => simp [baseV] at hb
      · rw [hV] at hb
        simp only [baseV, Option.some.injEq, Prod.mk.injEq] at hb
        obtain ⟨rfl, rfl, rfl⟩ := hb
        have hx := (hc2 i hlt).get p' hq
        simp only [getP, fld_tu es i hlt]
        refine hx.mono (fun _ _ _ h => h) fun j v hv => ?_
        have := h.imm _ _ _ hv
        rw [← this]
        congr 2
        omega
    cases m with
    | own =>
      obtain ⟨hY, hcase⟩ := hor
      rcases hcase with ⟨x, hV, rfl⟩ | ⟨xs, hown, hel, hno⟩
      · exact slr (I := gh.I) hY (.inl ⟨x, 0, hV, rfl⟩)
      · obtain ⟨i, p', d', rfl, hlt, hq, rfl⟩ := path hY
        obtain ⟨hlen, ⟨hV, hn⟩ | ⟨gb, cap, cur, hV, h5, h6, h7, h8, h9, h10⟩⟩ := hown
        · rw [hV] at hb; simp [baseV] at hb
        · rw [hV] at hb
          simp only [baseV, Option.some.injEq, Prod.mk.injEq] at hb
          obtain ⟨rfl, rfl, rfl⟩ := hb
          have hx := (hel i hlt).get p' hq
          simp only [getP, fld_tu es i hlt]
          refine hx.mono (fun _ _ _ h => h) fun j v hv => ?_
          rw [cell_block h6]
          rw [← h10, List.getElem?_take] at hv
          split at hv
          · rw [← hv]; simp only [Array.getElem?_toList]; congr 1; omega
          · cases hv
    | ref => exact hor.elim
    | fz => exact slr (I := gh.I) hor.1 hor.2
  | dead => cases hg
theorem does_load {x : Operand} {ob : Obj} {g : G} {oo t : Nat} {p : List Nat} (hT : tabOk P T = true) (h : HR P T B I0 w0 gh w H) (ho : o.op = .load t x) (hv : AVR P T gh (a.eval x) (.ptr oo t p)) (hob : H oo = some ob) (hg : objG ob = some g) : Does P T B I0 w0 gh w H a o Q (view T t (getP g p)) [] := by
  obtain ⟨b, off, n, d, hb, hp, hx⟩ := hv
  obtain ⟨val, hrun, hVR⟩ := load_VR (w := w) hT (obj_read hT h hob hg hb hp)
  refine does_same (val := val) h ?_ (view_AVR hT hVR)
  simp only [execOp, ho, hx, Sem.run_bind, hrun, Result.andThen_ok, Sem.run_pure]
theorem does_load_ro {x : Operand} {g : G} {t : Nat} (hT : tabOk P T = true) (h : HR P T B I0 w0 gh w H) (ho : o.op = .load t x) (hv : AVR P T gh (a.eval x) (.ro t g)) : Does P T B I0 w0 gh w H a o Q (view T t g) [] := by
  obtain ⟨b, off, hx, hc⟩ := hv
  obtain ⟨val, hrun, hVR⟩ := load_VR (w := w) (b := b) (off := off) hT (hc.mono (fun _ _ _ h => h) fun j v hv => h.imm _ _ _ hv)
  refine does_same (val := val) h ?_ (view_AVR hT hVR)
  simp only [execOp, ho, hx, Sem.run_bind, hrun, Result.andThen_ok, Sem.run_pure]
end
end Go.Proofs.Ytihipeicmbgegaa.Rf

namespace Go.Proofs.Ytihipeicmbgegaa.Rf
open Go Go.RowKit
set_option linter.unusedVariables false
set_option linter.unusedSimpArgs false
theorem setCells_heap : ∀ (vs : List Value) (b o : Nat) (w : World) (cs : Array Value) (t : TypeId) (fr : Nat × Nat), w.heap[b]? = some (.cells cs t fr) →
    ∃ cs', (w.setCells b o vs).heap[b]? = some (.cells cs' t fr) ∧ cs'.size = cs.size ∧ ∀ m, cs'[m]? = if o ≤ m ∧ m < o + vs.length ∧ m < cs.size then vs[m - o]? else cs[m]?
  | [], b, o, w, cs, t, fr, h => ⟨cs, h, rfl, fun m => by rw [if_neg (by simp; omega)]⟩
  | v :: r, b, o, w, cs, t, fr, h => by
    have h1 : (w.setCell ⟨b, o, none⟩ v).heap[b]? = some (.cells (cs.setIfInBounds o v) t fr) := by
      simp [World.setCell, Array.getElem?_modify, h]
    obtain ⟨cs', h2, h3, h4⟩ := setCells_heap r b (o + 1) _ _ _ _ h1
    refine ⟨cs', h2, by rw [h3]; simp, fun m => ?_⟩
    rw [h4 m]
    simp only [Array.size_setIfInBounds, List.length_cons]
    by_cases e : m = o
    · subst e
      rw [if_neg (by omega)]
      by_cases hm : m < cs.size
      · rw [if_pos ⟨by omega, by omega, hm⟩]
        simp [Array.getElem?_setIfInBounds, hm]
      · rw [if_neg (by omega)]
        simp [Array.getElem?_setIfInBounds, hm]
    · have hne : (cs.setIfInBounds o v)[m]? = cs[m]? := Array.getElem?_setIfInBounds_ne (fun h => e h.symm)
      by_cases hc : o ≤ m ∧ m < o + (r.length + 1) ∧ m < cs.size
      · rw [if_pos ⟨by omega, by omega, by omega⟩, if_pos hc]
        have : m - o = (m - (o + 1)) + 1 := by omega
        rw [this, List.getElem?_cons_succ]
      · rw [if_neg (by omega), if_neg hc, hne]
theorem setCells_upto : ∀ (vs : List Value) (b o : Nat) (w : World), Upto [b] w (w.setCells b o vs)
  | [], b, o, w => Upto.refl _ _
  | v :: r, b, o, w => by
    have h1 : Upto [b] w (w.setCell ⟨b, o, none⟩ v) := ⟨rfl, rfl, rfl, by simp [World.setCell], fun k hk hb => Below.heap_setCell w ⟨b, o, none⟩ v k (by simpa using hb)⟩
    exact h1.trans (setCells_upto r b (o + 1) _) (fun x hx => .inl hx)
section
variable {P : Program} {T : Tab} {B : List Nat} {I0 : Nat → Nat → Option Value} {w0 : World} {gh : Gh} {w : World} {H : Nat → Option Obj} {a : Act} {o : Oper} {Q : Exit → Act → World → Prop}
/-- The cells of a value of a type. -/
theorem VR.cells {I : Nat → Nat → Option Value} {t : TypeId} {v : Value} {g : G} (h : VR P T I t v g) (hT : tabOk P T = true) : ∀ u ∈ v.cells.toList, u.oneCell' = true := by
  intro u hu
  obtain ⟨j, hj, rfl⟩ := List.mem_iff_getElem.1 hu
  obtain ⟨x, hx, h1⟩ := h.1.cell hT j (by rw [← h.2.1]; simpa using hj)
  have : v.cells[j]? = some v.cells[j] := by simp at hj; simp [hj]
  rw [this] at hx
  obtain rfl : v.cells[j] = x := by simpa using hx
  simpa using h1
/-- A store into a block that is there. -/
theorem run_storeAt {I : Nat → Nat → Option Value} {t : TypeId} {v : Value} {g : G} {b off : Nat} {cs : Array Value} {t' : TypeId} (hT : tabOk P T = true) (h : VR P T I t v g) (hw : w.heap[b]? = some (.cells cs t' (0, 0))) (hs : off + sz P t ≤ cs.size) :
    (Instr.storeAt t (.pointer (some ⟨b, off, none⟩)) v).run P w = .ok () (w.setCells b off v.cells.toList) := by
  obtain ⟨i, z, hi, hsz, _⟩ := info_of (P := P) hT h.1.known
  have h2 := h.2.1
  have hst := run_storeCells_cells (P := P) b off v.cells.toList 0 w (fun j hj => by
      rw [cell_block hw]
      have : off + j < cs.size := by simp only [Array.length_toList] at hj; omega
      simp [this]) (fun j hj => by simp [World.frozen?, hw]) (h.cells hT)
  simp only [Nat.add_zero] at hst
  simp [Instr.storeAt, Instr.sureAddr, storeVar, sizeOf, typeInfo, hi, hsz, h2, hst]
theorem wrF_single (H : Nat → Option Obj) (o : Nat) (x : Obj) : wrF [(o, x)] H = updF H o (some x) := rfl
/-- What a store does to an object. -/
theorem obj_write (hT : tabOk P T = true) (h : HR P T B I0 w0 gh w H) {o : Nat} {ob ob' : Obj} {g0 g : G} {b off n d : Nat} {t : TypeId} {p : List Nat} {v : Value} (ho : H o = some ob) (hg : objG ob = some g0) (hput : objPut ob (setP g0 g p) = some ob') (hb : baseV (gh.V o) = some (b, off, n)) (hp : pathD P T (gh.Y o) n p = some (d, t)) (hv : VR P T gh.I t v g) :
    (Instr.storeAt t (.pointer (some ⟨b, off + d, none⟩)) v).run P w = .ok () (w.setCells b (off + d) v.cells.toList) ∧ HR P T B I0 w0 gh (w.setCells b (off + d) v.cells.toList) (updF H o (some ob')) := by
  have hor := h.obj o ob ho
  have hvl : v.cells.toList.length = sz P t := by simpa using hv.2.1
  have var : ∀ {t0 : TypeId} {g1 : G} {b' : Nat}, VarAt P T gh.I w b' t0 g1 → g1 = g0 → gh.V o = .pointer (some ⟨b', 0, none⟩) → gh.Y o = .var t0 →
      b' = b ∧ off = 0 ∧ (Instr.storeAt t (.pointer (some ⟨b, off + d, none⟩)) v).run P w = .ok () (w.setCells b (off + d) v.cells.toList) ∧ VarAt P T gh.I (w.setCells b (off + d) v.cells.toList) b' t0 (setP g0 g p) := by
    rintro t0 g1 b' ⟨cs, t', h1, h2, h3, h4⟩ rfl hV hY
    rw [hV] at hb
    simp only [baseV, Option.some.injEq, Prod.mk.injEq] at hb
    obtain ⟨rfl, rfl, rfl⟩ := hb
    rw [hY] at hp
    have hle := goD_le hT p _ _ _ hp
    obtain ⟨cs', k1, k2, k3⟩ := setCells_heap v.cells.toList b' (0 + d) w cs t' (0, 0) h1
    refine ⟨rfl, rfl, run_storeAt hT hv h1 (by omega), cs', t', k1, by omega, ?_, h4⟩
    refine h3.set hT p hp hv.1 (fun j hj => ?_) (fun j hj hout => ?_)
    · rw [k3, if_pos ⟨by omega, by omega, by omega⟩]
      simp only [Array.getElem?_toList]
      congr 1
      omega
    · rw [k3, if_neg (by omega)]
  cases ob with
  | var t0 g1 m =>
    obtain rfl : g1 = g0 := by simpa [objG] using hg
    cases m with
    | own =>
      obtain ⟨hY, b', hV, hba, hva⟩ := hor
      obtain ⟨rfl, rfl, hrun, hva'⟩ := var hva rfl hV hY
      obtain rfl : Obj.var t0 (setP g1 g p) .own = ob' := by simpa [objPut] using hput
      exact ⟨hrun, h.turn ho rfl (by rw [hV]; rfl) (setCells_upto _ _ _ _) ⟨hY, b', hV, hba, hva'⟩⟩
    | ref =>
      obtain ⟨hY, b', hV, hba, hva⟩ := hor
      obtain ⟨rfl, rfl, hrun, hva'⟩ := var hva rfl hV hY
      obtain rfl : Obj.var t0 (setP g1 g p) .ref = ob' := by simpa [objPut] using hput
      exact ⟨hrun, h.turn ho rfl (by rw [hV]; rfl) (setCells_upto _ _ _ _) ⟨hY, b', hV, hba, hva'⟩⟩
    | fz => simp [objPut] at hput
  | row e es m =>
    obtain rfl : G.tu es = g0 := by simpa [objG] using hg
    cases m with
    | own =>
      obtain ⟨hY, hcase⟩ := hor
      rw [hY] at hp
      cases p with
      | nil => simp [pathD] at hp
      | cons i p' =>
        simp only [pathD] at hp
        split at hp
        · rename_i hlt
          simp only [Option.map_eq_some_iff, Prod.mk.injEq] at hp
          obtain ⟨⟨d', u⟩, hq, h2, h3⟩ := hp
          simp only at h2 h3
          subst h3 h2
          obtain rfl : Obj.row e (es.set i (setP ((G.tu es).fld i) g p')) .own = ob' := by simpa [objPut, setP, G.parts] using hput
          rcases hcase with ⟨x, hV, rfl⟩ | ⟨xs, hown, hel, hno⟩
          · rw [hV] at hb
            cases x with
            | none => simp [baseV] at hb
            | some ad =>
              obtain ⟨ab, ao, as⟩ := ad
              cases as with
              | none => simp only [baseV, Option.some.injEq, Prod.mk.injEq] at hb; omega
              | some s => simp [baseV] at hb
          · obtain ⟨hlen, ⟨hV, hn⟩ | ⟨gb, cap, cur, hV, h5, h6, h7, h8, h9, h10⟩⟩ := hown
            · rw [hV] at hb; simp [baseV] at hb
            · rw [hV] at hb
              simp only [baseV, Option.some.injEq, Prod.mk.injEq] at hb
              obtain ⟨rfl, rfl, rfl⟩ := hb
              have hle := goD_le hT p' _ _ _ hq
              have hi1 : (i + 1) * sz P e ≤ es.length * sz P e := Nat.mul_le_mul_right _ hlt
              have hcap : es.length * sz P e ≤ cap * sz P e := Nat.mul_le_mul_right _ h7
              rw [Nat.add_mul] at hi1
              obtain ⟨cs', k1, k2, k3⟩ := setCells_heap v.cells.toList gb (0 + (i * sz P e + d')) w cur e (0, 0) h6
              have hbk : blkV (gh.V o) = some gb := by
                rw [hV]
                cases cap with
                | zero => omega
                | succ cap => rfl
              refine ⟨run_storeAt hT hv h6 (by omega), h.turn ho rfl hbk (setCells_upto _ _ _ _) ⟨hY, .inr ⟨cs'.toList.take (es.length * sz P e), ⟨?_, .inr ⟨gb, cap, cs', by simpa using hV, h5, k1, by simpa using h7, h8, by omega, by simp⟩⟩, fun k hk => ?_, hno⟩⟩⟩
              · simp only [List.length_take, Array.length_toList, List.length_set]
                omega
              · simp only [List.length_set] at hk
                have hk1 : (k + 1) * sz P e ≤ es.length * sz P e := Nat.mul_le_mul_right _ hk
                rw [Nat.add_mul] at hk1
                have hold : ∀ j, j < sz P e → cur[k * sz P e + j]? = xs[k * sz P e + j]? := by
                  intro j hj
                  rw [← h10, List.getElem?_take, if_pos (by omega)]
                  simp
                have hnew : ∀ j, j < sz P e → (cs'.toList.take (es.length * sz P e))[k * sz P e + j]? = cs'[k * sz P e + j]? := by
                  intro j hj
                  rw [List.getElem?_take, if_pos (by omega)]
                  simp
                by_cases e' : k = i
                · subst e'
                  simp only [List.getElem_set_self]
                  rw [fld_tu es k hlt]
                  refine (hel k hlt).set hT p' hq hv.1 (fun j hj => ?_) (fun j hj hout => ?_)
                  · rw [hnew _ (by omega), k3, if_pos ⟨by omega, by omega, by omega⟩]
                    simp only [Array.getElem?_toList]
                    congr 1
                    omega
                  · rw [hnew _ hj, k3, if_neg (by omega), hold j hj]
                · simp only [List.getElem_set_ne (fun h => e' h.symm)]
                  refine (hel k hk).congr hT fun j hj => ?_
                  rw [hnew j hj, k3, if_neg, hold j hj]
                  rcases Nat.lt_or_ge k i with hki | hki
                  · have : (k + 1) * sz P e ≤ i * sz P e := Nat.mul_le_mul_right _ hki
                    rw [Nat.add_mul] at this
                    omega
                  · have : (i + 1) * sz P e ≤ k * sz P e := Nat.mul_le_mul_right _ (by omega)
                    rw [Nat.add_mul] at this
                    omega
        · cases hp
    | ref => exact hor.elim
    | fz => simp [objPut] at hput
  | dead => cases hg
theorem does_store {x y : Operand} {ob ob' : Obj} {g0 g : G} {oo t : Nat} {p : List Nat} {av : AV} (hT : tabOk P T = true) (h : HR P T B I0 w0 gh w H) (ho : o.op = .store t x y) (hx : AVR P T gh (a.eval x) (.ptr oo t p)) (hy : AVR P T gh (a.eval y) av) (hr : ∀ o ∈ refs av, (H o).isSome = true) (hor : (H oo).isSome = true)
    (hn : notRow oo av = true) (hob : H oo = some ob) (hc : conv T H t av = some g) (hg : objG ob = some g0) (hput : objPut ob (setP g0 g p) = some ob') : Does P T B I0 w0 gh w H a o Q .undef (cat (share H av) [(oo, ob')]) := by
  obtain ⟨I', hI, h1⟩ := h.shares (share_ok H av)
  have hVR := conv_VR hT h1 (hy.mono (Gh.le_I (H := H) hI) av hr) hc (fun p hp => (share_ok H av).at hp) (wrF_fz (share_ok H av))
  have hob' : wrF (share H av) H oo = some ob := by
    rw [wrF_other _ _ _ (fun z hz => ?_)]
    · exact hob
    · unfold share at hz
      split at hz
      · rename_i o'
        split at hz
        · have : oo = o' := congrArg Prod.fst (List.mem_singleton.1 hz)
          subst this
          simp [notRow, beqT] at hn
        · cases hz
      · cases hz
  obtain ⟨b, off, n, d, hb, hp, hxe⟩ := hx
  obtain ⟨hrun, hHR⟩ := obj_write (gh := { gh with I := I' }) hT h1 hob' hg hput hb hp hVR
  refine does_skip (w' := w.setCells b (off + d) (a.eval y).cells.toList) (gh' := { gh with I := I' }) ?_ (Gh.le_I hI) ?_
  · simp only [execOp, ho, hxe, Sem.run_bind, hrun, Result.andThen_ok, Sem.run_pure]
  · rw [cat_eq, wrF_append]
    exact hHR
end
end Go.Proofs.Ytihipeicmbgegaa.Rf

namespace Go.Proofs.Ytihipeicmbgegaa.Rf
open Go Go.RowKit
set_option linter.unusedVariables false
set_option linter.unusedSimpArgs false
section
variable {P : Program} {T : Tab} {B : List Nat} {I0 : Nat → Nat → Option Value} {w0 : World} {gh : Gh} {w : World} {H : Nat → Option Obj} {a : Act} {o : Oper} {Q : Exit → Act → World → Prop}
theorem goD_append : ∀ (p : List Nat) {t u u' : TypeId} {d d' : Nat} {q : List Nat}, goD P T t p = some (d, u) → goD P T u q = some (d', u') → goD P T t (p ++ q) = some (d + d', u')
  | [], t, u, u', d, d', q, h, k => by
    simp only [goD, Option.some.injEq, Prod.mk.injEq] at h
    obtain ⟨rfl, rfl⟩ := h
    simpa using k
  | i :: p, t, u, u', d, d', q, h, k => by
    simp only [goD, List.cons_append] at h ⊢
    cases hy : ty T t with
    | tu ts =>
      simp only [hy] at h ⊢
      cases hi : ts[i]? with
      | none => simp [hi] at h
      | some t' =>
        simp only [hi, Option.map_eq_some_iff, Prod.mk.injEq] at h ⊢
        obtain ⟨⟨d1, u1⟩, h1, h2, h3⟩ := h
        simp only at h2 h3
        subst h3
        exact ⟨_, goD_append p h1 k, by simp only; omega, rfl⟩
    | arr n e =>
      simp only [hy] at h ⊢
      by_cases hi : i < n
      · simp only [hi, if_true, Option.map_eq_some_iff, Prod.mk.injEq] at h ⊢
        obtain ⟨⟨d1, u1⟩, h1, h2, h3⟩ := h
        simp only at h2 h3
        subst h3
        exact ⟨_, goD_append p h1 k, by simp only; omega, rfl⟩
      · simp [hi] at h
    | _ => simp [hy] at h
theorem pathD_append {y : Root} {n : Nat} {p q : List Nat} {d d' : Nat} {u u' : TypeId} (h : pathD P T y n p = some (d, u)) (k : goD P T u q = some (d', u')) : pathD P T y n (p ++ q) = some (d + d', u') := by
  cases y with
  | var t => exact goD_append p h k
  | row e =>
    cases p with
    | nil => simp [pathD] at h
    | cons i p =>
      simp only [pathD, List.cons_append] at h ⊢
      split at h
      · rename_i hi
        rw [if_pos hi]
        simp only [Option.map_eq_some_iff, Prod.mk.injEq] at h ⊢
        obtain ⟨⟨d1, u1⟩, h1, h2, h3⟩ := h
        simp only at h2 h3
        subst h3
        exact ⟨_, goD_append p h1 k, by simp only; omega, rfl⟩
      · cases h
theorem fieldT_goD {s f ft : Nat} (h : fieldT T s f = some ft) : ∃ ts, ty T s = .tu ts ∧ ts[f]? = some ft ∧ goD P T s [f] = some (offs P ts f, ft) := by
  unfold fieldT at h
  split at h
  · rename_i ts hy
    rw [atL_eq] at h
    refine ⟨ts, hy, h, ?_⟩
    simp [goD, hy, h]
  · cases h
theorem run_fieldAt (hT : tabOk P T = true) {s f ft : Nat} {ts : List TypeId} (hy : ty T s = .tu ts) (hf : ts[f]? = some ft) (b off : Nat) : (Instr.fieldAt s (.pointer (some ⟨b, off, none⟩)) f).run P w = .ok (.pointer (some ⟨b, off + offs P ts f, none⟩)) w := by
  obtain ⟨fs, hu, hfs, hst, hall⟩ := und_tu hT hy
  have hlen : fs.size = ts.length := by rw [← hfs]; simp
  have hlt : f < fs.size := by rw [hlen]; exact (List.getElem?_eq_some_iff.1 hf).1
  have hf0 : fs[f]? = some fs[f] := by simp [hlt]
  have := hall f _ hf0
  have hne : ¬ sz P fs[f].type = 0 := by omega
  simp [Instr.fieldAt, run_underlying hu, hf0, Instr.sureAddr, fieldPlace, run_size this.2.2.1, Addr.add_mid, this.1, hlt]
  intro hz
  exact absurd hz hne
theorem does_fieldAddr {x : Operand} {s f ft oo : Nat} {p : List Nat} (hT : tabOk P T = true) (h : HR P T B I0 w0 gh w H) (ho : o.op = .fieldAddr s x f) (hf : fieldT T s f = some ft) (hv : AVR P T gh (a.eval x) (.ptr oo s p)) : Does P T B I0 w0 gh w H a o Q (.ptr oo ft (cat p [f])) [] := by
  obtain ⟨ts, hy, hi, hg⟩ := fieldT_goD (P := P) hf
  obtain ⟨b, off, n, d, hb, hp, hx⟩ := hv
  refine does_same (val := .pointer (some ⟨b, off + d + offs P ts f, none⟩)) h ?_ ⟨b, off, n, d + offs P ts f, hb, by rw [cat_eq]; exact pathD_append hp hg, by rw [Nat.add_assoc]⟩
  simp only [execOp, ho, hx, Sem.run_bind, run_fieldAt hT hy hi, Result.andThen_ok, Sem.run_pure]
theorem does_fieldAddr_ro {x : Operand} {s f ft : Nat} {g : G} (hT : tabOk P T = true) (h : HR P T B I0 w0 gh w H) (ho : o.op = .fieldAddr s x f) (hf : fieldT T s f = some ft) (hv : AVR P T gh (a.eval x) (.ro s g)) : Does P T B I0 w0 gh w H a o Q (.ro ft (g.fld f)) [] := by
  obtain ⟨ts, hy, hi, hg⟩ := fieldT_goD (P := P) hf
  obtain ⟨b, off, hx, hc⟩ := hv
  refine does_same (val := .pointer (some ⟨b, off + offs P ts f, none⟩)) h ?_ ⟨b, off + offs P ts f, rfl, ?_⟩
  · simp only [execOp, ho, hx, Sem.run_bind, run_fieldAt hT hy hi, Result.andThen_ok, Sem.run_pure]
  · have := hc.get [f] hg
    simpa only [getP, Nat.add_assoc] using this
/-- A part of a value. -/
theorem part_VR (hT : tabOk P T = true) {I : Nat → Nat → Option Value} {t : TypeId} {cs : Array Value} {off : Nat} {g : G} (h : CR P T I t (fun j => cs[off + j]?) g) :
    ∃ val, (part t cs off).run P w = .ok val w ∧ VR P T I t val g := by
  obtain ⟨i, z, hi, hsz, _⟩ := info_of (P := P) hT h.known
  have hcell := h.cell hT
  cases ha : isAggT (ty T t) with
  | true =>
    obtain ⟨d, hu, hd⟩ := h.agg hT ha
    have hle : off + sz P t ≤ cs.size ∨ sz P t = 0 := by
      cases hs : sz P t with
      | zero => exact .inr rfl
      | succ m =>
        obtain ⟨v, hv, _⟩ := hcell m (by omega)
        have := (Array.getElem?_eq_some_iff.1 hv).1
        exact .inl (by omega)
    have hagg : (isAgg t).run P w = .ok true w := by
      unfold isAgg
      rw [Sem.run_bind, run_underlying hu w]
      cases d <;> simp_all
    refine ⟨.agg (cs.extract off (off + sz P t)), ?_, VR_agg (h.congr hT fun j hj => ?_) ?_ ha⟩
    · simp [part, hagg, sizeOf, typeInfo, hi, hsz]
    · obtain ⟨v, hv, _⟩ := hcell j hj
      have := (Array.getElem?_eq_some_iff.1 hv).1
      rw [Array.getElem?_extract]
      rw [if_pos (by omega)]
    · simp only [Array.size_extract]
      omega
  | false =>
    have hs := scalar_size hT rfl h.known ha
    obtain ⟨v, hv, h1⟩ := hcell 0 (by omega)
    have hv' : cs[off]? = some v := hv
    refine ⟨v, ?_, ?_, ?_, ?_⟩
    · simp only [part, Sem.run_bind, isAgg_false hT h.known ha, Result.andThen_ok, Bool.false_eq_true, if_false, hv', Sem.run_pure]
    · refine h.congr hT fun j hj => ?_
      obtain rfl : j = 0 := by omega
      have : v.cells = #[v] := by cases v <;> first | rfl | cases h1
      rw [this, hv]; rfl
    · have : v.cells = #[v] := by cases v <;> first | rfl | cases h1
      rw [this, hs]; rfl
    · rw [ha]; cases v <;> first | rfl | cases h1
theorem does_field {x : Operand} {s f ft : Nat} {g : G} (hT : tabOk P T = true) (h : HR P T B I0 w0 gh w H) (ho : o.op = .field s x f) (hf : fieldT T s f = some ft) (hv : AVR P T gh (a.eval x) (.agg s g)) : Does P T B I0 w0 gh w H a o Q (view T ft (g.fld f)) [] := by
  obtain ⟨ts, hy, hi, hg⟩ := fieldT_goD (P := P) hf
  obtain ⟨⟨hc, hs, ha⟩, _⟩ := hv
  obtain ⟨fs, hu, hfs, hst, hall⟩ := und_tu hT hy
  have hlen : fs.size = ts.length := by rw [← hfs]; simp
  have hlt : f < fs.size := by rw [hlen]; exact (List.getElem?_eq_some_iff.1 hi).1
  have hf0 : fs[f]? = some fs[f] := by simp [hlt]
  have hff := hall f _ hf0
  have hty : fs[f].type = ft := by have := hff.2.1; rw [hi] at this; simpa using this.symm
  obtain ⟨cs, hx⟩ : ∃ cs, a.eval x = .agg cs := by
    cases hq : a.eval x <;> rw [hq, hy] at ha <;> first | (cases ha; done) | exact ⟨_, rfl⟩
  rw [hx] at hc
  obtain ⟨val, hrun, hVR⟩ := part_VR (w := w) hT (hc.get [f] hg)
  refine does_same (val := val) h ?_ (view_AVR hT hVR)
  simp only [Value.cells] at hrun
  simp only [execOp, ho, hx, Instr.field, Sem.run_bind, run_underlying hu, Result.andThen_ok, hf0, asAgg, Sem.run_pure, hff.1, hty, hrun]
theorem idx_ok {n : Int} {m : Nat} (h : (decide (0 ≤ n) && decide (n < (m : Int))) = true) : 0 ≤ n ∧ n < m := by simpa using h
theorem does_indexAddr_sl {x i : Operand} {t e : Nat} {es : List G} {k : IntKind} {n : Int} (hT : tabOk P T = true) (h : HR P T B I0 w0 gh w H) (ho : o.op = .indexAddr t x i) (ht : ty T t = .sl e) (hv : AVR P T gh (a.eval x) (.sl e es)) (hi : a.eval i = .int k n) (hn : 0 ≤ n ∧ n < es.length) :
    Does P T B I0 w0 gh w H a o Q (.ro e (es.getD n.toNat default)) [] := by
  obtain ⟨hu, hpos, _⟩ := und_sl hT ht
  rcases hv with ⟨x', c, hx, rfl⟩ | ⟨b, off, c, hx, hc1, hc2⟩
  · simp at hn; omega
  · have hlt : n.toNat < es.length := by omega
    refine does_same (val := .pointer (some ⟨b, off + n.toNat * sz P e, none⟩)) h ?_ ⟨b, off + n.toNat * sz P e, rfl, ?_⟩
    · have h2 : ¬ (¬ (0 ≤ n ∧ n < (es.length : Int))) := fun hh => hh hn
      simp [execOp, ho, hx, hi, Instr.indexAt, asIntOf, run_underlying hu, run_size hpos, hn, Addr.add_mid]
    · have : es.getD n.toNat default = es[n.toNat] := by simp [hlt]
      rw [this]
      exact hc2 _ hlt
theorem does_indexAddr_row {x i : Operand} {t e oo : Nat} {es : List G} {m : Md} {k : IntKind} {n : Int} (hT : tabOk P T = true) (h : HR P T B I0 w0 gh w H) (ho : o.op = .indexAddr t x i) (ht : ty T t = .sl e) (hv : AVR P T gh (a.eval x) (.row oo)) (hob : H oo = some (.row e es m)) (hi : a.eval i = .int k n) (hn : 0 ≤ n ∧ n < es.length) :
    Does P T B I0 w0 gh w H a o Q (.ptr oo e [n.toNat]) [] := by
  obtain ⟨hu, hpos, _⟩ := und_sl hT ht
  have hv : a.eval x = gh.V oo := hv
  have hlt : n.toNat < es.length := by omega
  have key : gh.Y oo = .row e ∧ ∃ b off c, gh.V oo = .slice (some ⟨b, off, none⟩) es.length c := by
    have hor := h.obj oo _ hob
    cases m with
    | own =>
      obtain ⟨hY, ⟨x, hV, rfl⟩ | ⟨xs, ⟨_, ⟨hV, hn0⟩ | ⟨gb, cap, cur, hV, _⟩⟩, _⟩⟩ := hor
      · simp at hlt
      · omega
      · exact ⟨hY, gb, 0, cap, hV⟩
    | ref => exact hor.elim
    | fz =>
      obtain ⟨hY, ⟨x, c, hV, rfl⟩ | ⟨b, off, c, hV, _⟩⟩ := hor
      · simp at hlt
      · exact ⟨hY, b, off, c, hV⟩
  obtain ⟨hY, b, off, c, hV⟩ := key
  refine does_same (val := .pointer (some ⟨b, off + n.toNat * sz P e, none⟩)) h ?_ ⟨b, off, es.length, n.toNat * sz P e, by rw [hV]; rfl, by rw [hY]; simp [pathD, hlt, goD], rfl⟩
  simp [execOp, ho, hv, hV, hi, Instr.indexAt, asIntOf, run_underlying hu, run_size hpos, hn, Addr.add_mid]
theorem does_indexAddr_ptr {x i : Operand} {t e oo m : Nat} {p : List Nat} {k : IntKind} {n : Int} (hT : tabOk P T = true) (h : HR P T B I0 w0 gh w H) (ho : o.op = .indexAddr t x i) (ht : ty T t = .arr m e) (hv : AVR P T gh (a.eval x) (.ptr oo t p)) (hi : a.eval i = .int k n) (hn : 0 ≤ n ∧ n < (m : Int)) :
    Does P T B I0 w0 gh w H a o Q (.ptr oo e (cat p [n.toNat])) [] := by
  have hu := und_arr hT ht
  obtain ⟨_, hpos⟩ := arr_size hT ht
  obtain ⟨b, off, l, d, hb, hp, hx⟩ := hv
  have hlt : n.toNat < m := by omega
  refine does_same (val := .pointer (some ⟨b, off + d + n.toNat * sz P e, none⟩)) h ?_ ⟨b, off, l, d + n.toNat * sz P e, hb, by rw [cat_eq]; exact pathD_append hp (by simp [goD, ht, hlt]), by rw [Nat.add_assoc]⟩
  simp [execOp, ho, hx, hi, Instr.indexAt, asIntOf, Instr.sureAddr, run_underlying hu, run_size hpos, hn, Addr.add_mid]
theorem does_indexAddr_ro {x i : Operand} {t e m : Nat} {g : G} {k : IntKind} {n : Int} (hT : tabOk P T = true) (h : HR P T B I0 w0 gh w H) (ho : o.op = .indexAddr t x i) (ht : ty T t = .arr m e) (hv : AVR P T gh (a.eval x) (.ro t g)) (hi : a.eval i = .int k n) (hn : 0 ≤ n ∧ n < (m : Int)) :
    Does P T B I0 w0 gh w H a o Q (.ro e (g.fld n.toNat)) [] := by
  have hu := und_arr hT ht
  obtain ⟨_, hpos⟩ := arr_size hT ht
  obtain ⟨b, off, hx, hc⟩ := hv
  have hlt : n.toNat < m := by omega
  refine does_same (val := .pointer (some ⟨b, off + n.toNat * sz P e, none⟩)) h ?_ ⟨b, off + n.toNat * sz P e, rfl, ?_⟩
  · simp [execOp, ho, hx, hi, Instr.indexAt, asIntOf, Instr.sureAddr, run_underlying hu, run_size hpos, hn, Addr.add_mid]
  · have := hc.get [n.toNat] (d := n.toNat * sz P e) (u := e) (by simp [goD, ht, hlt])
    simpa only [getP, Nat.add_assoc] using this
theorem does_index_str {x i : Operand} {t : Nat} {l : List UInt8} {k : IntKind} {n : Int} (hu : P.underlying t = some .string) (h : HR P T B I0 w0 gh w H) (ho : o.op = .index t x i) (hv : AVR P T gh (a.eval x) (.str l)) (hi : a.eval i = .int k n) (hn : 0 ≤ n ∧ n < l.length) :
    Does P T B I0 w0 gh w H a o Q (.int .u8 (l.getD n.toNat 0).toNat) [] := by
  have hv : a.eval x = .string ⟨⟨l⟩⟩ := hv
  have hlt : n.toNat < l.length := by omega
  have hget : (⟨⟨l⟩⟩ : ByteArray)[n.toNat]? = some l[n.toNat] := by
    have hs : n.toNat < (⟨⟨l⟩⟩ : ByteArray).size := hlt
    exact getElem?_pos (⟨⟨l⟩⟩ : ByteArray) n.toNat hs
  refine does_same (val := .int .u8 l[n.toNat].toNat) h ?_ ?_
  · simp [execOp, ho, hv, hi, Instr.index, asIntOf, run_underlying hu, hn.1, hget]
  · show _ = _
    simp [hlt]
theorem does_index_arr {x i : Operand} {t e m : Nat} {g : G} {k : IntKind} {n : Int} (hT : tabOk P T = true) (h : HR P T B I0 w0 gh w H) (ho : o.op = .index t x i) (ht : ty T t = .arr m e) (hv : AVR P T gh (a.eval x) (.agg t g)) (hi : a.eval i = .int k n) (hn : 0 ≤ n ∧ n < (m : Int)) :
    Does P T B I0 w0 gh w H a o Q (view T e (g.fld n.toNat)) [] := by
  have hu := und_arr hT ht
  obtain ⟨_, hpos⟩ := arr_size hT ht
  obtain ⟨⟨hc, hs, ha⟩, _⟩ := hv
  have hlt : n.toNat < m := by omega
  obtain ⟨cs, hx⟩ : ∃ cs, a.eval x = .agg cs := by
    cases hq : a.eval x <;> rw [hq, ht] at ha <;> first | (cases ha; done) | exact ⟨_, rfl⟩
  rw [hx] at hc
  obtain ⟨val, hrun, hVR⟩ := part_VR (w := w) hT (hc.get [n.toNat] (d := n.toNat * sz P e) (u := e) (by simp [goD, ht, hlt]))
  refine does_same (val := val) h ?_ (view_AVR hT hVR)
  simp [execOp, ho, hx, hi, Instr.index, asIntOf, run_underlying hu, hn, run_size hpos]
  simp only [Value.cells] at hrun
  simp [hrun]
end
end Go.Proofs.Ytihipeicmbgegaa.Rf

namespace Go.Proofs.Ytihipeicmbgegaa.Rf
open Go Go.RowKit
set_option linter.unusedVariables false
set_option linter.unusedSimpArgs false
section
variable {P : Program} {T : Tab} {B : List Nat} {I0 : Nat → Nat → Option Value} {w0 : World} {gh : Gh} {w : World} {H : Nat → Option Obj} {a : Act} {o : Oper} {Q : Exit → Act → World → Prop}
theorem VR.int_eq {I : Nat → Nat → Option Value} {t : TypeId} {v : Value} {g : G} {k : IntKind} (hT : tabOk P T = true) (h : VR P T I t v g) (ht : ty T t = .int k) : v = .int k g.toInt := by
  have := view_AVR (gh := ⟨I, fun _ => undef, fun _ => .var 0⟩) hT h
  rw [view, ht] at this
  exact this
theorem VR.bool_eq {I : Nat → Nat → Option Value} {t : TypeId} {v : Value} {g : G} (hT : tabOk P T = true) (h : VR P T I t v g) (ht : ty T t = .bool) : v = .bool g.toBool := by
  have := view_AVR (gh := ⟨I, fun _ => undef, fun _ => .var 0⟩) hT h
  rw [view, ht] at this
  exact this
theorem VR.str_eq {I : Nat → Nat → Option Value} {t : TypeId} {v : Value} {g : G} (hT : tabOk P T = true) (h : VR P T I t v g) (ht : ty T t = .str) : v = .string ⟨⟨g.toStr⟩⟩ := by
  have := view_AVR (gh := ⟨I, fun _ => undef, fun _ => .var 0⟩) hT h
  rw [view, ht] at this
  exact this
theorem bytes_toList (l : List UInt8) : (⟨⟨l⟩⟩ : ByteArray).toList = l := by
  rw [ByteArray.toList_eq]
theorem beq_decide {α : Type} [BEq α] [LawfulBEq α] [DecidableEq α] (a b : α) : (a == b) = decide (a = b) := by
  by_cases h : a = b <;> simp [h]
/-- Two values of a type, held against each other. -/
theorem run_same (hT : tabOk P T = true) {I : Nat → Nat → Option Value} (w : World) : ∀ (d : Nat) (D : Nat) (t : TypeId) (v u : Value) (g h : G), cmpT T d t = true → d ≤ D → VR P T I t v g → VR P T I t u h → (Op.equalIn D t v u).run P w = .ok (same T d t g h) w
  | 0, _, _, _, _, _, _, hc, _, _, _ => by simp [cmpT] at hc
  | d + 1, 0, _, _, _, _, _, _, hD, _, _ => by omega
  | d + 1, D + 1, t, v, u, g, h, hc, hD, hv, hu => by
    simp only [cmpT] at hc
    simp only [same]
    cases ht : ty T t with
    | int k =>
      rw [hv.int_eq hT ht, hu.int_eq hT ht, run_equalIn_int w D t k k _ _ (und_int hT ht)]
      simp only [beq_decide]
    | bool =>
      rw [hv.bool_eq hT ht, hu.bool_eq hT ht, run_equalIn_bool' w D t _ _ (und_bool hT ht)]
    | str =>
      rw [hv.str_eq hT ht, hu.str_eq hT ht, run_equalIn_string w D t _ _ (und_str hT ht)]
      simp only [bytes_toList, beq_decide]
    | tu ts =>
      rw [ht] at hc
      simp only at hc
      obtain ⟨fs, hun, hfs, hst, hall⟩ := und_tu hT ht
      have hf : P.fieldsOf t = fs := by simp [Program.fieldsOf, hun]
      obtain ⟨hvc, hvs, hva⟩ := hv
      obtain ⟨huc, hus, hua⟩ := hu
      obtain ⟨xs, rfl⟩ : ∃ cs, v = .agg cs := by
        cases v <;> rw [ht] at hva <;> first | (cases hva; done) | exact ⟨_, rfl⟩
      obtain ⟨ys, rfl⟩ : ∃ cs, u = .agg cs := by
        cases u <;> rw [ht] at hua <;> first | (cases hua; done) | exact ⟨_, rfl⟩
      rw [run_equalIn_struct w D t xs ys (by rw [hf]; exact hun) hst.1, hf]
      have key : ∀ (l : List Field) (i : Nat), fs.toList.drop i = l → (Op.eqFields D xs ys l).run P w = .ok (sameL (same T d) i (l.map (·.type)) g h) w := by
        intro l
        induction l with
        | nil => intro i _; simp [Op.eqFields, sameL]
        | cons f l ih =>
          intro i hi
          have hfi : fs[i]? = some f := by
            have : (fs.toList.drop i)[0]? = some f := by rw [hi]; rfl
            simpa using this
          have hd : fs.toList.drop (i + 1) = l := by
            have : (fs.toList.drop i).drop 1 = l := by rw [hi]; rfl
            simpa [List.drop_drop] using this
          have hff := hall i f hfi
          have hg1 : goD P T t [i] = some (offs P ts i, f.type) := by simp [goD, ht, hff.2.1]
          obtain ⟨x, hx, hxv⟩ := part_VR (w := w) hT (hvc.get [i] hg1)
          obtain ⟨y, hy, hyv⟩ := part_VR (w := w) hT (huc.get [i] hg1)
          simp only [Value.cells] at hx hy
          have hcf : cmpT T d f.type = true := by
            refine (every_iff _ _).1 hc _ ?_
            rw [← hfs]
            have : f ∈ fs.toList := by
              have := Array.mem_of_getElem? hfi
              simpa using this
            exact List.mem_map.2 ⟨f, this, rfl⟩
          have hr := run_same hT w d D f.type x y _ _ hcf (by omega) hxv hyv
          simp only [getP] at hr
          rw [← hff.1] at hx hy
          have hih := ih (i + 1) hd
          simp only [Op.eqFields, hff.2.2.2, ne_eq, not_false_eq_true, if_true, Sem.run_bind, hx, hy, hr, Result.andThen_ok, List.map_cons]
          cases l with
          | nil =>
            simp only [List.map_nil, sameL, Op.eqFields]
            cases same T d f.type (g.fld i) (h.fld i) <;> simp
          | cons f' l =>
            simp only [List.map_cons] at hih ⊢
            simp only [sameL]
            cases same T d f.type (g.fld i) (h.fld i) with
            | true => simpa using hih
            | false => simp
      have := key fs.toList 0 rfl
      rw [hfs] at this
      exact this
    | arr n e => rw [ht] at hc; cases hc
    | sl e => rw [ht] at hc; cases hc
    | other => rw [ht] at hc; cases hc
theorem eqGuard_ok (hT : tabOk P T = true) (op : BinOp) (t : TypeId) (x y : Operand) (u v : Value) (h : isAggV u = false ∨ P.eqGuardType P.depth t = false) (hn : u ≠ .nilIface) : (eqGuard op t x y u v).run P w = .ok () w := by
  rcases h with h | h
  · cases op <;> simp [eqGuard] <;> (split <;> simp_all [isAggV])
  · cases op <;> simp [eqGuard] <;> (split <;> simp_all)
theorem does_bin {op : BinOp} {xt yt : TypeId} {x y : Operand} {av : AV} {val : Value} (h : HR P T B I0 w0 gh w H) (ho : o.op = .binOp op xt x y yt) (hg : (eqGuard op xt x y (a.eval x) (a.eval y)).run P w = .ok () w) (hrun : (Go.binOp op xt (a.eval x) (a.eval y)).run P w = .ok val w) (hv : AVR P T gh val av) : Does P T B I0 w0 gh w H a o Q av [] := by
  refine does_same (val := val) h ?_ hv
  simp only [execOp, ho, Sem.run_bind, hg, hrun, Result.andThen_ok, Sem.run_pure]
/-- An operation on values alone. -/
def Val (P : Program) (T : Tab) (w : World) (f : {β : Type} → (AV → Option β) → Option β) (s : Sem Value) : Prop :=
  ∃ av val, (∀ {β : Type} (K : AV → Option β), f K = K av) ∧ refs av = [] ∧ s.run P w = .ok val w ∧ ∀ gh, AVR P T gh val av
theorem eqK_cases {β : Type} {k k' : IntKind} {x : Option β} {r : β} (h : cnd (eqK k k') x none = some r) : k = k' ∧ x = some r := by
  cases hk : eqK k k' with
  | false => rw [hk] at h; cases h
  | true => rw [hk] at h; exact ⟨eqK_eq hk, h⟩
theorem eqK_refl (k : IntKind) : eqK k k = true := by cases k <;> rfl
theorem Val.int {f : {β : Type} → (AV → Option β) → Option β} {s : Sem Value} (k : IntKind) (n : Int) (h1 : ∀ {β : Type} (K : AV → Option β), f K = K (.int k n)) (h2 : s.run P w = .ok (.int k n) w) : Val P T w f s := ⟨_, _, h1, rfl, h2, fun _ => rfl⟩
theorem Val.bool {f : {β : Type} → (AV → Option β) → Option β} {s : Sem Value} (b : Bool) (h1 : ∀ {β : Type} (K : AV → Option β), f K = K (.bool b)) (h2 : s.run P w = .ok (.bool b) w) : Val P T w f s := ⟨_, _, h1, rfl, h2, fun _ => rfl⟩
theorem Val.str {f : {β : Type} → (AV → Option β) → Option β} {s : Sem Value} (l : List UInt8) (h1 : ∀ {β : Type} (K : AV → Option β), f K = K (.str l)) (h2 : s.run P w = .ok (.string ⟨⟨l⟩⟩) w) : Val P T w f s := ⟨_, _, h1, rfl, h2, fun _ => rfl⟩
theorem dec_cases {β : Type} {p : Prop} [Decidable p] {x : Option β} {r : β} (h : cnd (decide p) none x = some r) : ¬ p ∧ x = some r := by
  cases hk : decide p with
  | true => rw [hk] at h; cases h
  | false => rw [hk] at h; exact ⟨by simpa using hk, h⟩
theorem intOp_ok {op : BinOp} {xt : TypeId} {k k' : IntKind} {x y : Int} {α : Type} {K : AV → Option α} {r : α} (hK : intOp op k x k' y K = some r) : Val P T w (fun K => intOp op k x k' y K) (Go.binOp op xt (.int k x) (.int k' y)) := by
  cases op <;> simp only [intOp] at hK ⊢
  case shl =>
    obtain ⟨hq, hK⟩ := dec_cases hK
    exact Val.int k (k.wrap (x * 2 ^ min y.toNat k.bits)) (fun K => by simp [hq]) (by simp [Go.binOp, Op.shift, hq])
  case shr =>
    obtain ⟨hq, hK⟩ := dec_cases hK
    exact Val.int k (x.fdiv (2 ^ min y.toNat k.bits)) (fun K => by simp [hq]) (by simp [Go.binOp, Op.shift, hq])
  case quo =>
    obtain ⟨rfl, hK2⟩ := eqK_cases hK
    obtain ⟨hq, _⟩ := dec_cases hK2
    exact Val.int k (k.wrap (x.tdiv y)) (fun K => by simp [eqK_refl, hq]) (by simp [Go.binOp, Op.intDiv, hq])
  case rem =>
    obtain ⟨rfl, hK2⟩ := eqK_cases hK
    obtain ⟨hq, _⟩ := dec_cases hK2
    exact Val.int k (x.tmod y) (fun K => by simp [eqK_refl, hq]) (by simp [Go.binOp, Op.intDiv, hq])
  case add =>
    obtain ⟨rfl, hK⟩ := eqK_cases hK
    exact Val.int k (k.wrap (x + y)) (fun K => by simp [eqK_refl]) (by simp [Go.binOp, Op.intArith, Op.intBits])
  case sub =>
    obtain ⟨rfl, hK⟩ := eqK_cases hK
    exact Val.int k (k.wrap (x - y)) (fun K => by simp [eqK_refl]) (by simp [Go.binOp, Op.intArith, Op.intBits])
  case mul =>
    obtain ⟨rfl, hK⟩ := eqK_cases hK
    exact Val.int k (k.wrap (x * y)) (fun K => by simp [eqK_refl]) (by simp [Go.binOp, Op.intArith, Op.intBits])
  case and =>
    obtain ⟨rfl, hK⟩ := eqK_cases hK
    exact Val.int k (k.wrap (BitVec.ofInt k.bits x &&& BitVec.ofInt k.bits y).toNat) (fun K => by simp [eqK_refl]) (by simp [Go.binOp, Op.intArith, Op.intBits])
  case or =>
    obtain ⟨rfl, hK⟩ := eqK_cases hK
    exact Val.int k (k.wrap (BitVec.ofInt k.bits x ||| BitVec.ofInt k.bits y).toNat) (fun K => by simp [eqK_refl]) (by simp [Go.binOp, Op.intArith, Op.intBits])
  case xor =>
    obtain ⟨rfl, hK⟩ := eqK_cases hK
    exact Val.int k (k.wrap (BitVec.ofInt k.bits x ^^^ BitVec.ofInt k.bits y).toNat) (fun K => by simp [eqK_refl]) (by simp [Go.binOp, Op.intArith, Op.intBits])
  case andNot =>
    obtain ⟨rfl, hK⟩ := eqK_cases hK
    exact Val.int k (k.wrap (BitVec.ofInt k.bits x &&& ~~~ BitVec.ofInt k.bits y).toNat) (fun K => by simp [eqK_refl]) (by simp [Go.binOp, Op.intArith, Op.intBits])
  case eql =>
    obtain ⟨rfl, hK⟩ := eqK_cases hK
    exact Val.bool (decide (x = y)) (fun K => by simp [eqK_refl]) (by simp [Go.binOp, Op.intCmp, beq_decide, bne])
  case neq =>
    obtain ⟨rfl, hK⟩ := eqK_cases hK
    exact Val.bool (!decide (x = y)) (fun K => by simp [eqK_refl]) (by simp [Go.binOp, Op.intCmp, beq_decide, bne])
  case lss =>
    obtain ⟨rfl, hK⟩ := eqK_cases hK
    exact Val.bool (decide (x < y)) (fun K => by simp [eqK_refl]) (by simp [Go.binOp, Op.intCmp, beq_decide, bne])
  case leq =>
    obtain ⟨rfl, hK⟩ := eqK_cases hK
    exact Val.bool (decide (x ≤ y)) (fun K => by simp [eqK_refl]) (by simp [Go.binOp, Op.intCmp, beq_decide, bne])
  case gtr =>
    obtain ⟨rfl, hK⟩ := eqK_cases hK
    exact Val.bool (decide (y < x)) (fun K => by simp [eqK_refl]) (by simp [Go.binOp, Op.intCmp, beq_decide, bne])
  case geq =>
    obtain ⟨rfl, hK⟩ := eqK_cases hK
    exact Val.bool (decide (y ≤ x)) (fun K => by simp [eqK_refl]) (by simp [Go.binOp, Op.intCmp, beq_decide, bne])
theorem strOp_ok {op : BinOp} {xt : TypeId} {x y : List UInt8} {α : Type} {K : AV → Option α} {r : α} (hK : strOp op x y K = some r) : Val P T w (fun K => strOp op x y K) (Go.binOp op xt (.string ⟨⟨x⟩⟩) (.string ⟨⟨y⟩⟩)) := by
  cases op <;> simp only [strOp] at hK ⊢ <;> try (cases hK; done)
  case add =>
    cases hb : decide (x.length + y.length ≤ most) with
    | false => simp [hb] at hK
    | true =>
      have hq : x.length + y.length ≤ 68719476736 := of_decide_eq_true hb
      have hsz : ∀ l : List UInt8, (⟨⟨l⟩⟩ : ByteArray).size = l.length := fun l => rfl
      have hq2 : ¬ (((⟨⟨x⟩⟩ : ByteArray).size + (⟨⟨y⟩⟩ : ByteArray).size : Nat) : Int) > IntKind.i64.max := by
        rw [hsz, hsz]
        have : IntKind.i64.max = 9223372036854775807 := rfl
        rw [this]; omega
      have hcat : (⟨⟨x⟩⟩ : ByteArray) ++ (⟨⟨y⟩⟩ : ByteArray) = ⟨⟨x ++ y⟩⟩ := by
        apply ByteArray.ext
        simp
      refine Val.str (x ++ y) (fun K => by simp) ?_
      simp only [Go.binOp, Op.stringOp, if_neg hq2, Sem.run_pure, hcat]
  case eql => exact Val.bool (decide (x = y)) (fun K => rfl) (by simp [Go.binOp, Op.stringOp, bytes_toList, beq_decide])
  case neq => exact Val.bool (!decide (x = y)) (fun K => rfl) (by simp [Go.binOp, Op.stringOp, bytes_toList, beq_decide])
  case lss => exact Val.bool (Op.bytesLess x y) (fun K => rfl) (by simp [Go.binOp, Op.stringOp, bytes_toList])
  case leq => exact Val.bool (Op.bytesLess x y || decide (x = y)) (fun K => rfl) (by simp [Go.binOp, Op.stringOp, bytes_toList, beq_decide])
  case gtr => exact Val.bool (!(Op.bytesLess x y || decide (x = y))) (fun K => rfl) (by simp [Go.binOp, Op.stringOp, bytes_toList, beq_decide])
  case geq => exact Val.bool (!Op.bytesLess x y) (fun K => rfl) (by simp [Go.binOp, Op.stringOp, bytes_toList])
theorem boolOp_ok {op : BinOp} {xt : TypeId} {x y : Bool} {α : Type} {K : AV → Option α} {r : α} (hT : tabOk P T = true) (hK : boolOp T op xt x y K = some r) : Val P T w (fun K => boolOp T op xt x y K) (Go.binOp op xt (.bool x) (.bool y)) := by
  unfold boolOp at hK
  split at hK
  · rename_i ht
    exact Val.bool (x == y) (fun K => by simp [boolOp, ht]) (run_eql_bool (P := P) w xt x y (und_bool hT ht))
  · rename_i ht
    exact Val.bool (!(x == y)) (fun K => by simp [boolOp, ht]) (run_neq_bool (P := P) w xt x y (und_bool hT ht))
  · cases hK
theorem does_binOp {op : BinOp} {xt yt : TypeId} {x y : Operand} {ax ay : AV} {α : Type} {K : AV → Option α} {r : α} (hT : tabOk P T = true) (h : HR P T B I0 w0 gh w H) (ho : o.op = .binOp op xt x y yt) (hx : AVR P T gh (a.eval x) ax) (hy : AVR P T gh (a.eval y) ay) (hK : binOp T op xt ax ay K = some r) :
    ∃ av, (∀ {β : Type} (K' : AV → Option β), binOp T op xt ax ay K' = K' av) ∧ refs av = [] ∧ Does P T B I0 w0 gh w H a o Q av [] := by
  have fin : ∀ {u v : Value}, a.eval x = u → a.eval y = v → isAggV u = false → u ≠ .nilIface → Val P T w (fun K => binOp T op xt ax ay K) (Go.binOp op xt u v) → ∃ av, (∀ {β : Type} (K' : AV → Option β), binOp T op xt ax ay K' = K' av) ∧ refs av = [] ∧ Does P T B I0 w0 gh w H a o Q av [] := by
    rintro u v rfl rfl h1 h2 ⟨av, val, h3, h4, h5, h6⟩
    exact ⟨av, h3, h4, does_bin h ho (eqGuard_ok hT op _ _ _ _ _ (.inl h1) h2) h5 (h6 gh)⟩
  unfold binOp at hK
  split at hK
  · exact fin hx hy rfl (by simp) (intOp_ok hK)
  · exact fin hx hy rfl (by simp) (strOp_ok hK)
  · exact fin hx hy rfl (by simp) (boolOp_ok hT hK)
  · rename_i t g t' g'
    unfold aggOp at hK
    cases hc : Nat.beq t xt && Nat.beq t' xt && cmpT T deep xt with
    | false => rw [hc] at hK; cases hK
    | true =>
      rw [hc, cnd_true] at hK
      have hc0 := hc
      simp only [Bool.and_eq_true] at hc
      obtain ⟨⟨h1, h2⟩, h3⟩ := hc
      have e1 := beqI h1
      have e2 := beqI h2
      subst e1
      subst e2
      have hax := hx.1
      have hay := hy.1
      have hag := hx.2
      have hrs := run_same hT w deep 10000 t' _ _ _ _ h3 (by simp [deep]) hax hay
      obtain ⟨xs, hxe⟩ : ∃ cs, a.eval x = .agg cs := by
        have := hax.2.2
        rw [hag] at this
        cases hq : a.eval x <;> rw [hq] at this <;> first | (cases this; done) | exact ⟨_, rfl⟩
      obtain ⟨ys, hye⟩ : ∃ cs, a.eval y = .agg cs := by
        have := hay.2.2
        rw [hag] at this
        cases hq : a.eval y <;> rw [hq] at this <;> first | (cases this; done) | exact ⟨_, rfl⟩
      have hgd : P.eqGuardType P.depth t' = false := by
        cases ht : ty T t' with
        | tu ts => obtain ⟨fs, _, _, hst, _⟩ := und_tu hT ht; exact hst.2
        | arr n e => simp [deep, cmpT, ht] at h3
        | _ => rw [ht] at hag; cases hag
      rw [hxe, hye] at hrs
      split at hK
      · refine ⟨.bool (same T deep t' g g'), fun K' => by simp only [binOp, aggOp]; rw [hc0]; rfl, rfl, does_bin (val := .bool (same T deep t' g g')) h ho (eqGuard_ok hT _ _ _ _ _ _ (.inr hgd) (by rw [hxe]; simp)) ?_ rfl⟩
        rw [hxe, hye, run_eql_struct, hrs]
        rfl
      · refine ⟨.bool (!same T deep t' g g'), fun K' => by simp only [binOp, aggOp]; rw [hc0]; rfl, rfl, does_bin (val := .bool (!same T deep t' g g')) h ho (eqGuard_ok hT _ _ _ _ _ _ (.inr hgd) (by rw [hxe]; simp)) ?_ rfl⟩
        rw [hxe, hye, run_neq_struct, hrs]
        rfl
      · cases hK
  · cases hK
end
end Go.Proofs.Ytihipeicmbgegaa.Rf

namespace Go.Proofs.Ytihipeicmbgegaa.Rf
open Go Go.RowKit
set_option linter.unusedVariables false
set_option linter.unusedSimpArgs false
section
variable {P : Program} {T : Tab} {B : List Nat} {I0 : Nat → Nat → Option Value} {w0 : World} {gh : Gh} {w : World} {H : Nat → Option Obj} {a : Act} {o : Oper} {Q : Exit → Act → World → Prop}
theorem does_unOp {op : UnOp} {xt : TypeId} {x : Operand} {ax : AV} {α : Type} {K : AV → Option α} {r : α} (h : HR P T B I0 w0 gh w H) (ho : o.op = .unOp op xt x) (hx : AVR P T gh (a.eval x) ax) (hK : unOp op ax K = some r) :
    ∃ av, (∀ {β : Type} (K' : AV → Option β), unOp op ax K' = K' av) ∧ refs av = [] ∧ Does P T B I0 w0 gh w H a o Q av [] := by
  have fin : Val P T w (fun K => unOp op ax K) (Op.unary op (a.eval x)) → ∃ av, (∀ {β : Type} (K' : AV → Option β), unOp op ax K' = K' av) ∧ refs av = [] ∧ Does P T B I0 w0 gh w H a o Q av [] := by
    rintro ⟨av, val, h3, h4, h5, h6⟩
    exact ⟨av, h3, h4, does_same (val := val) h (by simp only [execOp, ho, Sem.run_bind, h5, Result.andThen_ok, Sem.run_pure]) (h6 gh)⟩
  unfold unOp at hK
  split at hK
  · rename_i k n
    have hx : a.eval x = .int k n := hx
    exact fin (Val.int k (k.wrap (0 - n)) (fun K => rfl) (by rw [hx]; simp [Op.unary, Op.intArith]))
  · rename_i b
    have hx : a.eval x = .bool b := hx
    exact fin (Val.bool (!b) (fun K => rfl) (by rw [hx]; simp [Op.unary]))
  · rename_i k n
    have hx : a.eval x = .int k n := hx
    exact fin (Val.int k (k.wrap (BitVec.ofInt k.bits (if k.signed then -1 else k.max) ^^^ BitVec.ofInt k.bits n).toNat) (fun K => rfl) (by rw [hx]; simp [Op.unary, Op.intBits]))
  · cases hK
theorem does_pick {c x y : Operand} {b : Bool} {av : AV} (h : HR P T B I0 w0 gh w H) (ho : o.op = .pick c x y) (hc : AVR P T gh (a.eval c) (.bool b)) (hv : AVR P T gh (if b then a.eval x else a.eval y) av) : Does P T B I0 w0 gh w H a o Q av [] := by
  have hc : a.eval c = .bool b := hc
  refine does_same (val := if b then a.eval x else a.eval y) h ?_ hv
  cases b <;> simp [execOp, ho, hc, asBool]
theorem does_nilCheck {x : Operand} {av : AV} (h : HR P T B I0 w0 gh w H) (ho : o.op = .nilCheck x) (hv : AVR P T gh (a.eval x) av) (hk : (∃ oo t p, av = .ptr oo t p) ∨ (∃ t g, av = .ro t g) ∨ ∃ f cs, av = .fn f cs) : Does P T B I0 w0 gh w H a o Q av [] := by
  refine does_same (val := a.eval x) h ?_ hv
  rcases hk with ⟨oo, t, p, rfl⟩ | ⟨t, g, rfl⟩ | ⟨f, cs, rfl⟩
  · obtain ⟨b, off, n, d, _, _, hx⟩ := hv
    simp [execOp, ho, hx]
  · obtain ⟨b, off, hx, _⟩ := hv
    simp [execOp, ho, hx]
  · obtain ⟨cs', hx, _⟩ := hv
    simp [execOp, ho, hx]
theorem AVRs_length : ∀ {vs : List Value} {as : List AV}, AVRs P T gh vs as → vs.length = as.length
  | [], [], _ => rfl
  | _ :: _, _ :: _, h => by simp [AVRs_length h.2]
  | [], _ :: _, h => h.elim
  | _ :: _, [], h => h.elim
theorem AVRs_at : ∀ {vs : List Value} {as : List AV}, AVRs P T gh vs as → ∀ {i : Nat} {v : Value}, vs[i]? = some v → ∃ b, as[i]? = some b ∧ AVR P T gh v b
  | [], [], _, i, v, h => by simp at h
  | v0 :: vs, a0 :: as, hr, 0, v, h => by
    simp only [List.getElem?_cons_zero, Option.some.injEq] at h
    subst h
    exact ⟨a0, rfl, hr.1⟩
  | v0 :: vs, a0 :: as, hr, i + 1, v, h => by simpa using AVRs_at hr.2 (by simpa using h)
  | [], _ :: _, h, _, _, _ => h.elim
  | _ :: _, [], h, _, _, _ => h.elim
theorem mem_refsL : ∀ {as : List AV} {b : AV}, b ∈ as → ∀ o ∈ refs b, o ∈ refsL as
  | [], _, h, _, _ => by cases h
  | a0 :: as, b, h, o, ho => by
    simp only [refsL, cat_eq, List.mem_append]
    rcases List.mem_cons.1 h with rfl | h
    · exact .inl ho
    · exact .inr (mem_refsL h o ho)
theorem does_extract {x : Operand} {vs : List AV} {i : Nat} (h : HR P T B I0 w0 gh w H) (ho : o.op = .extract x i) (hv : AVR P T gh (a.eval x) (.tup vs)) {b0 : AV} (hb0 : atL vs i = some b0) : Does P T B I0 w0 gh w H a o Q b0 [] := by
  rw [atL_eq] at hb0
  have hi : i < vs.length := (List.getElem?_eq_some_iff.1 hb0).1
  obtain ⟨cs, hx, hr⟩ := hv
  have hl := AVRs_length hr
  have hci : cs[i]? = some cs[i] := by simp [hl, hi]
  obtain ⟨b, hb, hav⟩ := AVRs_at hr hci
  refine does_same (val := cs[i]) h ?_ ?_
  · simp [execOp, ho, hx, Instr.extract, hl, hi]
  · rw [hb0] at hb
    obtain rfl : b0 = b := by simpa using hb
    exact hav
theorem AVRs_map {v : Operand → AV} : ∀ (xs : List Operand), (∀ x, AVR P T gh (a.eval x) (v x)) → AVRs P T gh (xs.map a.eval) (mp v xs)
  | [], _ => trivial
  | x :: xs, h => ⟨h x, AVRs_map xs h⟩
theorem does_makeFunc {f : FuncId} {first cs : Array Operand} {v : Operand → AV} (h : HR P T B I0 w0 gh w H) (ho : o.op = .makeFunc (.func f) first cs) (hz : first.size = 0) (hv : ∀ x, AVR P T gh (a.eval x) (v x)) : Does P T B I0 w0 gh w H a o Q (.fn f (mp v cs.toList)) [] := by
  have hf : first = #[] := Array.eq_empty_of_size_eq_zero hz
  refine does_same (val := .func (.func f) #[] (cs.map a.eval)) h ?_ ⟨cs.toList.map a.eval, by rw [show cs.map a.eval = (cs.toList.map a.eval).toArray from Array.toList_inj.1 (by simp)], AVRs_map cs.toList hv⟩
  simp [execOp, ho, hf, Instr.makeFunc]
/-- The builtins. -/
theorem run_builtin {b : Builtin} {xs : Array Operand} {ts : Array TypeId} (ho : o.op = .call { callee := .builtin b, args := xs, argTypes := ts }) : ∃ cs, (execOp a.eval o).run P w = (builtin b ts o.type cs (xs.map a.eval)).run P w := by
  simp only [execOp, ho, resolve, invoke, Sem.run_bind, Sem.run_pure, Result.andThen_ok]
  exact ⟨_, rfl⟩
theorem does_len {xs : Array Operand} {ts : Array TypeId} {x : Operand} {t : TypeId} {n : Nat} (h : HR P T B I0 w0 gh w H) (ho : o.op = .call { callee := .builtin .len, args := xs, argTypes := ts }) (hxs : xs.toList = [x]) (hts : ts.toList = [t])
    (hx : (P.underlying t = some .string ∧ ∃ l : List UInt8, a.eval x = .string ⟨⟨l⟩⟩ ∧ l.length = n) ∨ (∃ e, P.underlying t = some (.slice e)) ∧ ∃ p c, a.eval x = .slice p n c) : Does P T B I0 w0 gh w H a o Q (.int .i64 n) [] := by
  obtain rfl : xs = #[x] := Array.toList_inj.1 (by simpa using hxs)
  obtain rfl : ts = #[t] := Array.toList_inj.1 (by simpa using hts)
  refine does_same (val := .int .i64 n) h ?_ rfl
  obtain ⟨cs, hcs⟩ := run_builtin (P := P) (w := w) (a := a) ho
  rw [hcs]
  rcases hx with ⟨hu, l, hx, rfl⟩ | ⟨⟨e, hu⟩, p, c, hx⟩
  · simp [builtin, Builtin.len_, hx, run_underlying hu, goInt]
    rfl
  · simp [builtin, Builtin.len_, hx, run_underlying hu, goInt]
theorem does_max {xs : Array Operand} {ts : Array TypeId} {x y : Operand} {k k' : IntKind} {m n : Int} (h : HR P T B I0 w0 gh w H) (ho : o.op = .call { callee := .builtin .max, args := xs, argTypes := ts }) (hxs : xs.toList = [x, y]) (hx : a.eval x = .int k m) (hy : a.eval y = .int k' n) : Does P T B I0 w0 gh w H a o Q (.int k (if n > m then n else m)) [] := by
  obtain rfl : xs = #[x, y] := Array.toList_inj.1 (by simpa using hxs)
  refine does_same (val := .int k (if n > m then n else m)) h ?_ rfl
  obtain ⟨cs, hcs⟩ := run_builtin (P := P) (w := w) (a := a) ho
  rw [hcs]
  simp [builtin, Builtin.max_, hx, hy, Builtin.max2]
theorem does_min {xs : Array Operand} {ts : Array TypeId} {x y : Operand} {k k' : IntKind} {m n : Int} (h : HR P T B I0 w0 gh w H) (ho : o.op = .call { callee := .builtin .min, args := xs, argTypes := ts }) (hxs : xs.toList = [x, y]) (hx : a.eval x = .int k m) (hy : a.eval y = .int k' n) : Does P T B I0 w0 gh w H a o Q (.int k (if n < m then n else m)) [] := by
  obtain rfl : xs = #[x, y] := Array.toList_inj.1 (by simpa using hxs)
  refine does_same (val := .int k (if n < m then n else m)) h ?_ rfl
  obtain ⟨cs, hcs⟩ := run_builtin (P := P) (w := w) (a := a) ho
  rw [hcs]
  simp [builtin, Builtin.min_, hx, hy, Builtin.min2]
end
end Go.Proofs.Ytihipeicmbgegaa.Rf

namespace Go.Proofs.Ytihipeicmbgegaa.Rf
open Go Go.RowKit
set_option linter.unusedVariables false
set_option linter.unusedSimpArgs false
section
variable {P : Program} {T : Tab} {B : List Nat} {I0 : Nat → Nat → Option Value} {w0 : World} {gh : Gh} {w : World} {H : Nat → Option Obj} {a : Act} {o : Oper} {Q : Exit → Act → World → Prop}
/-- A slice that is read: where its elements lie. -/
def Src (P : Program) (T : Tab) (I : Nat → Nat → Option Value) (w : World) (e : TypeId) (v : Value) (ys : List G) : Prop :=
  (∃ p c, v = .slice p 0 c ∧ ys = []) ∨
  ∃ ad c news, v = .slice (some ad) ys.length c ∧ 0 < ys.length ∧ news.length = ys.length * sz P e ∧ (∀ (j : Nat) u, news[j]? = some u → w.cell? (ad.add j) = some u) ∧ (∀ u ∈ news, u.oneCell' = true) ∧ Elems P T I e news ys
theorem src_of_cells (hT : tabOk P T = true) {I : Nat → Nat → Option Value} {e : TypeId} {ys : List G} {b off c : Nat} (hp : 0 < sz P e) (hl : 0 < ys.length) (h : ∀ i (hi : i < ys.length), CR P T I e (fun j => w.cell? ⟨b, off + i * sz P e + j, none⟩) ys[i]) :
    Src P T I w e (.slice (some ⟨b, off, none⟩) ys.length c) ys := by
  have hcell : ∀ m, m < ys.length * sz P e → ∃ v, w.cell? ⟨b, off + m, none⟩ = some v ∧ v.oneCell' = true := by
    intro m hm
    have hi : m / sz P e < ys.length := (Nat.div_lt_iff_lt_mul hp).2 hm
    obtain ⟨v, hv, h1⟩ := (h _ hi).cell hT (m % sz P e) (Nat.mod_lt _ hp)
    refine ⟨v, ?_, h1⟩
    rw [← hv]
    congr 2
    have := Nat.div_add_mod m (sz P e)
    rw [Nat.mul_comm] at this
    omega
  refine .inr ⟨⟨b, off, none⟩, c, (List.range (ys.length * sz P e)).map fun m => (w.cell? ⟨b, off + m, none⟩).getD undef, rfl, hl, by simp, fun j u hu => ?_, fun u hu => ?_, fun i hi => ?_⟩
  · obtain ⟨hlt, rfl⟩ := List.getElem?_eq_some_iff.1 hu
    obtain ⟨v, hv, _⟩ := hcell j (by simpa using hlt)
    rw [Addr.add_mid]
    simp [hv]
  · obtain ⟨m, hm, rfl⟩ := List.mem_map.1 hu
    obtain ⟨v, hv, h1⟩ := hcell m (by simpa using hm)
    simp [hv, h1]
  · refine (h i hi).congr hT fun j hj => ?_
    have hi1 : (i + 1) * sz P e ≤ ys.length * sz P e := Nat.mul_le_mul_right _ hi
    rw [Nat.add_mul] at hi1
    obtain ⟨v, hv, _⟩ := hcell (i * sz P e + j) (by omega)
    have : off + i * sz P e + j = off + (i * sz P e + j) := by omega
    rw [this, hv]
    simp [show i * sz P e + j < ys.length * sz P e by omega, hv]
theorem src_of_SLR (hT : tabOk P T = true) (h : HR P T B I0 w0 gh w H) {e : TypeId} {ys : List G} {v : Value} (hp : 0 < sz P e) (hs : SLR P T gh.I e ys v) : Src P T gh.I w e v ys := by
  rcases hs with ⟨a, c, rfl, rfl⟩ | ⟨b, off, c, rfl, h2, h3⟩
  · exact .inl ⟨a, c, rfl, rfl⟩
  · rcases Nat.eq_zero_or_pos ys.length with h0 | h0
    · obtain rfl := List.eq_nil_of_length_eq_zero h0
      exact .inl ⟨_, c, rfl, rfl⟩
    · exact src_of_cells hT hp h0 fun i hi => (h3 i hi).mono (fun _ _ _ h => h) fun j v hv => h.imm _ _ _ hv
/-- What is read of a slice's value. -/
theorem elems_src (hT : tabOk P T = true) (h : HR P T B I0 w0 gh w H) {e : TypeId} {ys : List G} {v : Value} {av : AV} (hp : 0 < sz P e) (hv : AVR P T gh v av) (he : elems H e av = some ys) : Src P T gh.I w e v ys := by
  unfold elems at he
  split at he
  · rename_i e' es
    cases hk : Nat.beq e e' with
    | false => simp [hk] at he
    | true =>
      simp [hk] at he
      subst he
      obtain rfl := beqI hk
      exact src_of_SLR hT h hp hv
  · have hv : v = .slice none 0 0 := hv
    obtain rfl : [] = ys := by simpa using he
    exact .inl ⟨none, 0, hv, rfl⟩
  · rename_i oo
    have hv : v = gh.V oo := hv
    split at he
    · rename_i e' es m ho
      cases hk : Nat.beq e e' with
      | false => simp [hk] at he
      | true =>
        simp [hk] at he
        subst he
        obtain rfl := beqI hk
        have hor := h.obj oo _ ho
        rw [hv]
        cases m with
        | own =>
          obtain ⟨hY, ⟨x, hV, rfl⟩ | ⟨xs, ⟨hlen, hcase⟩, hel, hno⟩⟩ := hor
          · exact .inl ⟨x, 0, hV, rfl⟩
          · rcases hcase with ⟨hV, hn⟩ | ⟨gb, cap, cur, hV, h5, h6, h7, h8, h9, h10⟩
            · have := List.eq_nil_of_length_eq_zero hn
              exact .inl ⟨none, 0, hV, this⟩
            · rw [hV]
              rcases Nat.eq_zero_or_pos es.length with h0 | h0
              · have := List.eq_nil_of_length_eq_zero h0
                rw [h0]
                exact .inl ⟨_, cap, rfl, this⟩
              · refine src_of_cells hT hp h0 fun i hi => (hel i hi).mono (fun _ _ _ h => h) fun j v hv => ?_
                rw [cell_block h6]
                rw [← h10, List.getElem?_take] at hv
                split at hv
                · rw [← hv]; simp only [Array.getElem?_toList]; congr 1; omega
                · cases hv
        | ref => exact hor.elim
        | fz => exact src_of_SLR hT h hp hor.2
    · cases he
  · cases he
theorem run_append_none {t t' ty' e : TypeId} {p q : Option Addr} {n c c' : Nat} (ht : P.underlying t = some (.slice e)) (ht' : P.underlying t' = some (.slice e)) (hp : 0 < sz P e) (hn : n ≤ c) : (Builtin.append_ #[t, t'] ty' #[.slice p n c, .slice q 0 c']).run P w = .ok (.slice p n c) w := by
  have hf : (Builtin.firstCells (sz P e) 0 (.slice q 0 c')).run P w = .ok #[] w := by
    cases q <;> simp [Builtin.firstCells, loadCells, loadCellsFrom]
  simp [Builtin.append_, run_underlying ht, run_underlying ht', run_size hp, Builtin.lenOf, hn, hf]
  cases p <;> simp [storeCells]
end
end Go.Proofs.Ytihipeicmbgegaa.Rf

namespace Go.Proofs.Ytihipeicmbgegaa.Rf
open Go Go.RowKit
set_option linter.unusedVariables false
set_option linter.unusedSimpArgs false
section
variable {P : Program} {T : Tab} {B : List Nat} {I0 : Nat → Nat → Option Value} {w0 : World} {gh : Gh} {w : World} {H : Nat → Option Obj} {a : Act} {o : Oper} {Q : Exit → Act → World → Prop}
theorem Elems.append (hT : tabOk P T = true) {I : Nat → Nat → Option Value} {e : TypeId} {xs ys : List Value} {es fs : List G} (h : Elems P T I e xs es) (k : Elems P T I e ys fs) (hl : xs.length = es.length * sz P e) : Elems P T I e (xs ++ ys) (es ++ fs) := by
  intro i hi
  rcases Nat.lt_or_ge i es.length with hlt | hge
  · rw [List.getElem_append_left hlt]
    refine (h i hlt).congr hT fun j hj => ?_
    have hi1 : (i + 1) * sz P e ≤ es.length * sz P e := Nat.mul_le_mul_right _ hlt
    rw [Nat.add_mul] at hi1
    rw [List.getElem?_append_left (by omega)]
  · rw [List.getElem_append_right hge]
    have hlt : i - es.length < fs.length := by simp at hi; omega
    refine (k _ hlt).congr hT fun j hj => ?_
    have hi1 : es.length * sz P e ≤ i * sz P e := Nat.mul_le_mul_right _ hge
    rw [List.getElem?_append_right (by omega), hl]
    congr 1
    rw [Nat.sub_mul]
    omega
/-- What append gives: the same; a new row; the row grown in its place. -/
theorem run_append (hT : tabOk P T = true) {base : Nat} {t ty' e : TypeId} {es ys : List G} {v x : Value} (ht : ty T t = .sl e) (hk : known T e = true) (hb : base ≤ w.heap.size)
    (hs : (∃ p, v = .slice p 0 0 ∧ es = []) ∨ ∃ xs g, blkV v = some g ∧ w.ownsRow base e (sz P e) v es.length xs ∧ Elems P T gh.I e xs es) (hx : Src P T gh.I w e x ys) (hm : es.length + ys.length ≤ most) :
    ∃ v' w', (Builtin.append_ #[t, t] ty' #[v, x]).run P w = .ok v' w' ∧
      ((v' = v ∧ w' = w ∧ ys = []) ∨
       ∃ xs', w'.ownsRow base e (sz P e) v' (es ++ ys).length xs' ∧ Elems P T gh.I e xs' (es ++ ys) ∧
        ((Upto [] w w' ∧ ∀ b, blkV v' = some b → w.heap.size ≤ b) ∨ ∃ g, blkV v = some g ∧ blkV v' = some g ∧ Upto [g] w w')) := by
  obtain ⟨hu, hpos, hby, hsz2⟩ := und_sl hT ht
  obtain ⟨i, z, hi, hsz, hz, hb', hl, hzs⟩ := info_of (P := P) hT (known_ne hk)
  have hm' : es.length + ys.length ≤ 68719476736 := hm
  have hbytes : ∀ n, n ≤ 68719476736 → n * i.bytes ≤ 140737488355328 := by
    intro n hn
    rw [hb']
    calc n * P.bytesOf e ≤ 68719476736 * 2048 := Nat.mul_le_mul hn hby
      _ = 140737488355328 := rfl
  rcases hx with ⟨q, c', rfl, rfl⟩ | ⟨ad, c', news, rfl, h0, hnl, hnc, hn1, hnel⟩
  · -- nothing is appended
    rcases hs with ⟨p, rfl, rfl⟩ | ⟨xs, g, hg, hown, hel⟩
    · exact ⟨_, w, run_append_none hu hu hpos (Nat.le_refl _), .inl ⟨rfl, rfl, rfl⟩⟩
    · obtain ⟨hlen, ⟨hV, hn⟩ | ⟨gb, cap, cur, hV, h5, h6, h7, h8, h9, h10⟩⟩ := hown
      · subst hV; cases hg
      · subst hV
        exact ⟨_, w, run_append_none hu hu hpos h7, .inl ⟨rfl, rfl, rfl⟩⟩
  · have hnl' : news.length = ys.length * i.size := by rw [hsz]; exact hnl
    -- what a grown row is
    have grown : ∀ (xs : List Value) (old : Nat), xs.length = es.length * sz P e → Elems P T gh.I e xs es → old < es.length + ys.length →
        ∃ xs', (w.drew.alloc (.cells (xs.toArray ++ news.toArray ++ Builtin.zeroCells z.cells (grownCap w (es.length + ys.length) old e - (es.length + ys.length))) e)).ownsRow base e (sz P e) (.slice (some ⟨w.heap.size, 0, none⟩) (es.length + ys.length) (grownCap w (es.length + ys.length) old e)) (es ++ ys).length xs' ∧ Elems P T gh.I e xs' (es ++ ys) := by
      intro xs old hxl hxe ho
      have hge := grownCap_ge w (es.length + ys.length) old e
      have hcm : grownCap w (es.length + ys.length) old e ≤ maxLen := grownCap_le_maxLen w _ old e (by simp only [maxLen]; omega)
      refine ⟨xs ++ news, ⟨?_, .inr ⟨w.heap.size, _, _, by rw [List.length_append], hb, heap_new w.drew _, by rw [List.length_append]; exact hge, hcm, ?_, ?_⟩⟩, hxe.append hT hnel hxl⟩
      · rw [List.length_append, List.length_append, hxl, hnl, Nat.add_mul]
      · simp only [Array.size_append, List.size_toArray, size_zeroCells, hzs, hxl, hnl, ← Nat.add_mul]
        congr 1
        omega
      · simp only [Array.toList_append]
        rw [List.append_assoc, List.length_append, Nat.add_mul, ← hxl, ← hnl, ← List.length_append, ← List.append_assoc]
        exact List.take_left
    have up : ∀ ob, Upto [] w (w.drew.alloc ob) := fun ob => (Upto.drew w).trans (Upto.alloc _ _) (fun x hx => by cases hx)
    have frs : ∀ (n c : Nat) b, blkV (.slice (some ⟨w.heap.size, 0, none⟩) n c) = some b → w.heap.size ≤ b := by
      intro n c b hb
      cases c with
      | zero => simp [blkV] at hb
      | succ c => obtain rfl : w.heap.size = b := by simpa [blkV] using hb
                  exact Nat.le_refl _
    rcases hs with ⟨p, rfl, rfl⟩ | ⟨xs, g, hg, hown, hel⟩
    · simp only [List.length_nil, Nat.zero_add] at hm'
      obtain ⟨xs', hr1, hr2⟩ := grown [] 0 (by simp) (fun i hi => by simp at hi) (by simpa using h0)
      simp only [List.length_nil, Nat.zero_add] at hr1 hr2
      cases p with
      | none =>
        have hr := run_append_nil (P := P) w t ty' e i z hu hi hz ad ys.length c' news hnl' hnc h0 (by omega) (by have := hbytes ys.length hm'; omega)
        simp only [Array.empty_append] at hr1
        exact ⟨_, _, hr, .inr ⟨xs', hr1, hr2, .inl ⟨up _, frs _ _⟩⟩⟩
      | some pa =>
        have hr := run_append_grow (P := P) w t ty' e i z hu hi hz pa 0 0 [] (by simp) (fun j v hv => by simp at hv) ad ys.length c' news hnl' hnc (by omega) (by omega) (growslice_fits (by omega) (by simpa using hbytes ys.length hm'))
        simp only [Nat.zero_add] at hr
        exact ⟨_, _, hr, .inr ⟨xs', hr1, hr2, .inl ⟨up _, frs _ _⟩⟩⟩
    · have hown0 := hown
      obtain ⟨hlen, ⟨hV, hn⟩ | ⟨gb, cap, cur, hV, h5, h6, h7, h8, h9, h10⟩⟩ := hown
      · subst hV; cases hg
      · subst hV
        have hgb : gb = g := by
          cases cap with
          | zero => simp [blkV] at hg
          | succ cap => simpa [blkV] using hg
        by_cases hroom : es.length + ys.length ≤ cap
        · have hfit : es.length * i.size + news.length ≤ cur.size := by
            rw [hnl', hsz, h9, ← Nat.add_mul]
            exact Nat.mul_le_mul_right _ hroom
          have hr := run_append_room (P := P) w t ty' e i hu hi gb es.length cap cur h6 ad ys.length c' news hnl' hnc hn1 hroom hfit
          rw [hsz] at hr hfit
          refine ⟨_, _, hr, .inr ⟨xs ++ news, ⟨?_, .inr ⟨gb, cap, _, by rw [List.length_append], h5, setRow_heap w gb cur _ e _ h6, by rw [List.length_append]; exact hroom, h8, ?_, ?_⟩⟩, hel.append hT hnel hlen, .inr ⟨g, hg, ?_, ?_⟩⟩⟩
          · rw [List.length_append, List.length_append, hlen, hnl, Nat.add_mul]
          · simp only [List.size_toArray, List.length_append, List.length_take, List.length_drop, Array.length_toList]
            omega
          · simp only [h10]
            rw [List.length_append, Nat.add_mul, ← hlen, ← hnl, ← List.length_append]
            exact List.take_left
          · cases cap with
            | zero => simp [blkV] at hg
            | succ cap => simpa [blkV] using hgb
          · exact ⟨rfl, rfl, rfl, by simp [World.setRow], fun k hk hb => setRow_other w gb k _ (fun e' => hb (by simp [← hgb, e']))⟩
        · have holds : ∀ (j : Nat) u, xs[j]? = some u → w.cell? ((⟨gb, 0, none⟩ : Addr).add j) = some u := hown0.cells (g := gb) rfl
          have hr := run_append_grow (P := P) w t ty' e i z hu hi hz ⟨gb, 0, none⟩ es.length cap xs (by rw [hsz]; exact hlen) holds ad ys.length c' news hnl' hnc (by omega) (by omega) (growslice_fits (by omega) (hbytes _ hm'))
          obtain ⟨xs', hr1, hr2⟩ := grown xs cap hlen hel (by omega)
          exact ⟨_, _, hr, .inr ⟨xs', hr1, hr2, .inl ⟨up _, frs _ _⟩⟩⟩
/-- The world behind an append to a row of the call's own. -/
theorem HR.moved (h : HR P T B I0 w0 gh w H) {oo d : Nat} {e : TypeId} {es : List G} {fs : List G} {v' : Value} {w' : World} {xs' : List Value} (ho : H oo = some (.row e es .own)) (hd : H d = none) (hown : w'.ownsRow w0.heap.size e (sz P e) v' fs.length xs') (hel : Elems P T gh.I e xs' fs)
    (hw : (Upto [] w w' ∧ ∀ b, blkV v' = some b → w.heap.size ≤ b) ∨ ∃ g, blkV (gh.V oo) = some g ∧ blkV v' = some g ∧ Upto [g] w w') :
    HR P T B I0 w0 (gh.put d v' (.row e)) w' (wrF [(oo, .dead), (d, .row e fs .own)] H) := by
  have hne : d ≠ oo := fun e' => by rw [e', ho] at hd; cases hd
  rcases hw with ⟨hup, hfr⟩ | ⟨g, hg, hg', hup⟩
  · have hk := h.kill ho
    exact hk.newRow (by rw [updF_ne _ _ hne]; exact hd) hup hfr hown hel
  · have hap := (h.obj oo _ ho).apart rfl hg
    have hother : ∀ x obx, x ≠ oo → H x = some obx → loose obx = true → blkV (gh.V x) ≠ some g := fun x obx hx1 hx2 hx3 hx4 => h.sep oo x _ obx g (Ne.symm hx1) ho hx2 rfl hx3 hg hx4
    have hH : ∀ x obx, wrF [(oo, .dead), (d, .row e fs .own)] H x = some obx → (x = d ∧ obx = .row e fs .own) ∨ (x = oo ∧ obx = .dead) ∨ (x ≠ d ∧ x ≠ oo ∧ H x = some obx) := by
      intro x obx hx
      simp only [wrF] at hx
      by_cases e1 : x = d
      · subst e1; rw [updF_same] at hx; exact .inl ⟨rfl, by simpa using hx.symm⟩
      · rw [updF_ne _ _ e1] at hx
        by_cases e2 : x = oo
        · subst e2; rw [updF_same] at hx; exact .inr (.inl ⟨rfl, by simpa using hx.symm⟩)
        · rw [updF_ne _ _ e2] at hx; exact .inr (.inr ⟨e1, e2, hx⟩)
    refine h.step (ch := [g]) hup (fun b hb => ?_) (fun _ _ _ h => h) (fun b off v hv => .inl hv) (fun x obx hx => ?_) (fun x x' ob1 ob2 b hxx h1 h2 l1 l2 hb hb2 => ?_)
    · obtain rfl : b = g := by simpa using hb
      exact ⟨hap.2.symm, hap.1⟩
    · rcases hH x obx hx with ⟨rfl, rfl⟩ | ⟨rfl, rfl⟩ | ⟨e1, e2, hx⟩
      · refine .inr ⟨updF_same _ _ _, .inr ⟨xs', by simpa [Gh.put] using hown, hel, fun b hb off => ?_⟩⟩
        simp only [Gh.put, updF_same] at hb
        rw [hg'] at hb
        obtain rfl : g = b := by simpa using hb
        exact hap.1 off
      · exact .inr trivial
      · refine .inl ⟨hx, updF_ne _ _ e1, updF_ne _ _ e1, fun hl b hb => ⟨fun hc => ?_, ((h.obj x obx hx).apart hl hb).1⟩⟩
        obtain rfl : b = g := by simpa using hc
        exact hother x obx e2 hx hl hb
    · rcases hH x ob1 h1 with ⟨rfl, rfl⟩ | ⟨rfl, rfl⟩ | ⟨e1, e2, hx⟩
      · rcases hH x' ob2 h2 with ⟨rfl, rfl⟩ | ⟨rfl, rfl⟩ | ⟨e3, e4, hx'⟩
        · exact hxx rfl
        · cases l2
        · simp only [Gh.put, updF_same] at hb
          simp only [Gh.put, updF_ne _ _ e3] at hb2
          rw [hg'] at hb
          obtain rfl : g = b := by simpa using hb
          exact hother x' ob2 e4 hx' l2 hb2
      · cases l1
      · rcases hH x' ob2 h2 with ⟨rfl, rfl⟩ | ⟨rfl, rfl⟩ | ⟨e3, e4, hx'⟩
        · simp only [Gh.put, updF_same] at hb2
          simp only [Gh.put, updF_ne _ _ e1] at hb
          rw [hg'] at hb2
          obtain rfl : g = b := by simpa using hb2
          exact hother x ob1 e2 hx l1 hb
        · cases l2
        · simp only [Gh.put, updF_ne _ _ e1] at hb
          simp only [Gh.put, updF_ne _ _ e3] at hb2
          exact h.sep x x' ob1 ob2 b hxx hx hx' l1 l2 hb hb2
theorem does_append {xs : Array Operand} {ts : Array TypeId} {t : TypeId} {x y : Operand} {d : Nat} {ax ay : AV} {α : Type} {K : AV → Ws → Option α} {r : α} (hT : tabOk P T = true) (h : HR P T B I0 w0 gh w H) (ho : o.op = .call { callee := .builtin .append, args := xs, argTypes := ts }) (hxs : xs.toList = [x, y]) (hts : ts.toList = [t, t])
    (hx : AVR P T gh (a.eval x) ax) (hy : AVR P T gh (a.eval y) ay) (hK : append T H d t ax ay K = some r) :
    ∃ av ws, (∀ {β : Type} (K' : AV → Ws → Option β), append T H d t ax ay K' = K' av ws) ∧ Does P T B I0 w0 gh w H a o Q av ws := by
  obtain rfl : xs = #[x, y] := Array.toList_inj.1 (by simpa using hxs)
  obtain rfl : ts = #[t, t] := Array.toList_inj.1 (by simpa using hts)
  obtain ⟨cs, hcs⟩ := run_builtin (P := P) (w := w) (a := a) ho
  have hrun : ∀ {v' w'}, (Builtin.append_ #[t, t] o.type #[a.eval x, a.eval y]).run P w = .ok v' w' → (execOp a.eval o).run P w = .ok (.value v') w' := by
    intro v' w' hr
    rw [hcs]
    simp [builtin, hr]
  have hK0 := hK
  unfold append at hK
  split at hK
  · rename_i e ht
    obtain ⟨hu, hpos, _⟩ := und_sl hT ht
    split at hK
    · cases hK
    · rename_i ys hys
      have hkn : known T e = true ∧ elems H e ay = some ys := by
        cases hk : known T e with
        | false => rw [hk] at hys; cases hys
        | true => rw [hk] at hys; exact ⟨rfl, hys⟩
      have hsrc := elems_src hT h hpos hy hkn.2
      split at hK
      · -- nothing yet
        have hx : a.eval x = .slice none 0 0 := hx
        cases hm : decide (ys.length ≤ most) with
        | false => simp [hm] at hK
        | true =>
          cases hd : H d with
          | some z => simp [hm, anew, hd] at hK
          | none =>
            refine ⟨.row d, [(d, .row e ys .own)], fun K' => by simp [append, ht, hys, hm, anew, hd], ?_⟩
            obtain ⟨v', w', hr, hc⟩ := run_append (base := w0.heap.size) (ty' := o.type) (es := []) (v := .slice none 0 0) hT ht hkn.1 h.up.size (.inl ⟨none, rfl, rfl⟩) hsrc (by simpa using of_decide_eq_true hm)
            rw [← hx] at hr
            rcases hc with ⟨hv', rfl, rfl⟩ | ⟨xs', h1, h2, h3⟩
            · subst hv'
              refine does_value (hrun hr) (Gh.le_put hd _ _) ?_ (AVR_row_new gh d e _)
              exact h.newEmpty hd
            · simp only [List.nil_append] at h1 h2
              rcases h3 with ⟨h3, h4⟩ | ⟨g, h3, _⟩
              · exact does_value (hrun hr) (Gh.le_put hd _ _) (h.newRow hd h3 h4 h1 h2) (AVR_row_new gh d e _)
              · cases h3
      · rename_i oo
        have hx : a.eval x = gh.V oo := hx
        split at hK
        · rename_i e' es hob
          cases hee : Nat.beq e e' with
          | false => simp [hee] at hK
          | true =>
            have hee' := beqI hee
            subst hee'
            cases hm : decide (es.length + ys.length ≤ most) with
            | false => simp [hee, hm] at hK
            | true =>
              cases hd : H d with
              | some z => simp [hee, hm, anew, hd] at hK
              | none =>
                refine ⟨.row d, [(oo, .dead), (d, .row e (es ++ ys) .own)], fun K' => by simp [append, ht, hys, hob, hm, anew, hd, beqT], ?_⟩
                have hne : d ≠ oo := fun e' => by rw [e', hob] at hd; cases hd
                have hor := h.obj oo _ hob
                have hS : (∃ p, gh.V oo = .slice p 0 0 ∧ es = []) ∨ ∃ xs g, blkV (gh.V oo) = some g ∧ w.ownsRow w0.heap.size e (sz P e) (gh.V oo) es.length xs ∧ Elems P T gh.I e xs es := by
                  obtain ⟨hY, ⟨p, hV, he⟩ | ⟨xs, h1, h2, h3⟩⟩ := hor
                  · exact .inl ⟨p, hV, he⟩
                  · cases hz : blkV (gh.V oo) with
                    | none =>
                      obtain ⟨hn, p, hp⟩ := ownsRow_zero h1 hz
                      exact .inl ⟨p, hp, List.eq_nil_of_length_eq_zero hn⟩
                    | some g => exact .inr ⟨xs, g, rfl, h1, h2⟩
                obtain ⟨v', w', hr, hc⟩ := run_append (base := w0.heap.size) (ty' := o.type) hT ht hkn.1 h.up.size hS hsrc (of_decide_eq_true hm)
                rw [← hx] at hr
                rcases hc with ⟨hv', rfl, rfl⟩ | ⟨xs', h1, h2, h3⟩
                · subst hv'
                  refine does_value (hrun hr) (Gh.le_put hd _ _) ?_ (AVR_row_new gh d e _)
                  rw [List.append_nil]
                  rcases hS with ⟨p, hV, rfl⟩ | ⟨xs, g, hg, h1, h2⟩
                  · rw [hV]
                    exact (h.kill hob).newEmpty (by rw [updF_ne _ _ hne]; exact hd)
                  · exact h.moved hob hd h1 h2 (.inr ⟨g, hg, hg, Upto.refl _ _⟩)
                · exact does_value (hrun hr) (Gh.le_put hd _ _) (h.moved hob hd h1 h2 h3) (AVR_row_new gh d e _)
        · cases hK
      · cases hK
  · cases hK
end
end Go.Proofs.Ytihipeicmbgegaa.Rf

namespace Go.Proofs.Ytihipeicmbgegaa.Rf
open Go Go.RowKit
set_option linter.unusedVariables false
set_option linter.unusedSimpArgs false
section
variable {P : Program} {T : Tab} {B : List Nat} {I0 : Nat → Nat → Option Value} {w0 : World} {gh : Gh} {w : World} {H : Nat → Option Obj} {a : Act} {o : Oper} {Q : Exit → Act → World → Prop}
def Bound (v : Option Value) (dflt n : Int) : Prop := (v = none ∧ n = dflt) ∨ ∃ k, v = some (.int k n)
theorem run_bounds {b : Bool} {len cap : Nat} {lo hi : Option Value} {x y : Int} (hlo : Bound lo 0 x) (hhi : Bound hi len y) (h0 : 0 ≤ x) (h1 : x ≤ y) (h2 : y ≤ len) (h3 : len ≤ cap) : (Instr.sliceBounds b len cap lo hi none).run P w = .ok (x.toNat, y.toNat, cap) w := by
  have hy : 0 ≤ y ∧ y ≤ (cap : Int) := by omega
  have hx : 0 ≤ x ∧ x ≤ (y.toNat : Int) := by omega
  rcases hhi with ⟨rfl, rfl⟩ | ⟨k, rfl⟩
  · rcases hlo with ⟨rfl, rfl⟩ | ⟨k', rfl⟩
    · simp [Instr.sliceBounds]
    · have hx' : 0 ≤ x ∧ x ≤ (len : Int) := by omega
      simp [Instr.sliceBounds, Instr.sliceBound, asIntOf, hx']
  · rcases hlo with ⟨rfl, rfl⟩ | ⟨k', rfl⟩
    · simp [Instr.sliceBounds, Instr.sliceBound, asIntOf, hy]
    · have hyy : (0 ≤ y) := hy.1
      simp [Instr.sliceBounds, Instr.sliceBound, asIntOf, hy, hx]
      omega
theorem numD_bound {v : Operand → AV} {x : Option Operand} {dflt n : Int} (hv : ∀ x, AVR P T gh (a.eval x) (v x)) (h : numD v dflt x = some n) : Bound (x.map a.eval) dflt n := by
  cases x with
  | none => exact .inl ⟨rfl, by simpa [numD] using h.symm⟩
  | some x =>
    simp only [numD] at h
    split at h
    · rename_i k m hm
      obtain rfl : m = n := by simpa using h
      have := hv x
      rw [hm] at this
      exact .inr ⟨k, congrArg some this⟩
    · cases h
theorem extract_bytes (l : List UInt8) (i j : Nat) : (⟨⟨l⟩⟩ : ByteArray).extract i j = ⟨⟨(l.take j).drop i⟩⟩ := by
  apply ByteArray.ext
  rw [ByteArray.data_extract]
  apply Array.toList_inj.1
  simp [List.extract_eq_take_drop]
  rw [List.drop_take]
theorem does_slice {t : TypeId} {x : Operand} {lo hi mx : Option Operand} {v : Operand → AV} {α : Type} {K : AV → Ws → Option α} {r : α} (hT : tabOk P T = true) (h : HR P T B I0 w0 gh w H) (ho : o.op = .slice t x lo hi mx) (hv : ∀ x, AVR P T gh (a.eval x) (v x)) (hr : ∀ x, ∀ o ∈ refs (v x), (H o).isSome = true)
    (hK : slice T H t (v x) lo hi mx v K = some r) : ∃ av ws, (∀ {β : Type} (K' : AV → Ws → Option β), slice T H t (v x) lo hi mx v K' = K' av ws) ∧ Does P T B I0 w0 gh w H a o Q av ws := by
  cases mx with
  | some m => simp [slice] at hK
  | none =>
  unfold slice at hK
  simp only at hK
  split at hK
  · rename_i l ht hvx
    split at hK
    · rename_i i j hi' hj'
      cases hc : decide (0 ≤ i) && (decide (i ≤ j) && decide (j ≤ (l.length : Int))) with
      | false => rw [hc] at hK; cases hK
      | true =>
        refine ⟨.str (sub l i j), [], fun K' => by simp only [slice, ht, hvx, hi', hj']; rw [hc]; rfl, ?_⟩
        simp only [Bool.and_eq_true, decide_eq_true_eq] at hc
        have hx := hv x
        rw [hvx] at hx
        have hx : a.eval x = .string ⟨⟨l⟩⟩ := hx
        have hb := run_bounds (P := P) (w := w) (b := false) (len := l.length) (cap := l.length) (numD_bound hv hi') (numD_bound hv hj') hc.1 hc.2.1 hc.2.2 (Nat.le_refl _)
        refine does_same (val := .string ⟨⟨sub l i j⟩⟩) h ?_ rfl
        have hsz : (⟨⟨l⟩⟩ : ByteArray).size = l.length := rfl
        have hu := und_str hT ht
        simp [execOp, ho, hx, Instr.sliceAt, Instr.slice, run_underlying hu, hsz, hb, extract_bytes, sub]
    · cases hK
  · rename_i e ht
    split at hK
    · rename_i es hes
      split at hK
      · rename_i i j hi' hj'
        cases hc : decide (0 ≤ i) && (decide (i ≤ j) && decide (j ≤ (es.length : Int))) with
        | false => rw [hc] at hK; cases hK
        | true =>
          refine ⟨.sl e (sub es i j), share H (v x), fun K' => by simp only [slice, ht, hes, hi', hj']; rw [hc]; rfl, ?_⟩
          simp only [Bool.and_eq_true, decide_eq_true_eq] at hc
          obtain ⟨hu, hpos, _⟩ := und_sl hT ht
          obtain ⟨I', hI, h1⟩ := h.shares (share_ok H (v x))
          have hx := hv x
          -- what the slice is, once it is shared
          have hS : SLR P T I' e es (a.eval x) := by
            unfold elems at hes
            split at hes
            · rename_i e' es' hvx
              cases hk : Nat.beq e e' with
              | false => simp [hk] at hes
              | true =>
                simp [hk] at hes
                subst hes
                obtain rfl := beqI hk
                rw [hvx] at hx
                exact SLR.mono hI hx
            · rename_i hvx
              rw [hvx] at hx
              have hx : a.eval x = .slice none 0 0 := hx
              obtain rfl : [] = es := by simpa using hes
              exact .inl ⟨none, 0, hx, rfl⟩
            · rename_i oo hvx
              rw [hvx] at hx
              have hx : a.eval x = gh.V oo := hx
              split at hes
              · rename_i e' es' m hob
                cases hk : Nat.beq e e' with
                | false => simp [hk] at hes
                | true =>
                  simp [hk] at hes
                  subst hes
                  obtain rfl := beqI hk
                  rw [hx]
                  cases m with
                  | own =>
                    have := (share_ok H (v x)).at (o := oo) (x := .row e es' .fz) (by rw [hvx]; simp [share, hob])
                    exact (h1.obj oo _ this).2
                  | ref => exact (h.obj oo _ hob).elim
                  | fz => exact SLR.mono hI (h.obj oo _ hob).2
              · cases hes
            · cases hes
          have hblo := numD_bound (P := P) (T := T) hv hi'
          have hbhi := numD_bound (P := P) (T := T) hv hj'
          have hgo : ∀ (pa : Option Addr) (c : Nat), a.eval x = .slice pa es.length c → es.length ≤ c → (execOp a.eval o).run P w = .ok (.value (.slice (if c = i.toNat then pa else pa.map (·.add (i.toNat * sz P e))) (j.toNat - i.toNat) (c - i.toNat))) w := by
            intro pa c hxe hle
            have hb := run_bounds (P := P) (w := w) (b := true) (len := es.length) (cap := c) hblo hbhi hc.1 hc.2.1 hc.2.2 hle
            simp [execOp, ho, hxe, Instr.sliceAt, Instr.slice, run_underlying hu, hb, run_size hpos]
          have hlen : (sub es i j).length = j.toNat - i.toNat := by
            simp only [sub, List.length_drop, List.length_take]
            omega
          rcases hS with ⟨pa, c, hxe, rfl⟩ | ⟨b, off, c, hxe, h2, h3⟩
          · have hz := hgo pa c hxe (Nat.zero_le _)
            have e1 : i.toNat = 0 ∧ j.toNat = 0 := by simp at hc; omega
            refine does_value hz (Gh.le_I hI) h1 ?_
            rw [e1.1, e1.2]
            exact .inl ⟨_, _, rfl, by simp [sub]⟩
          · have hz := hgo (some ⟨b, off, none⟩) c hxe h2
            refine does_value hz (Gh.le_I hI) h1 ?_
            show SLR P T I' e (sub es i j) _
            by_cases hij : j.toNat - i.toNat = 0
            · rw [hij] at hlen ⊢
              exact .inl ⟨_, _, rfl, List.eq_nil_of_length_eq_zero hlen⟩
            · rw [if_neg (by omega)]
              refine .inr ⟨b, off + i.toNat * sz P e, c - i.toNat, by rw [hlen]; simp [Addr.add_mid], by rw [hlen]; omega, fun k hk => ?_⟩
              have hk2 : i.toNat + k < es.length := by omega
              have he : (sub es i j)[k] = es[i.toNat + k] := by
                simp [sub]
              rw [he]
              have hcr := h3 (i.toNat + k) hk2
              have : ∀ m, off + (i.toNat + k) * sz P e + m = off + i.toNat * sz P e + k * sz P e + m := by
                intro m
                rw [Nat.add_mul]
                omega
              simp only [this] at hcr
              exact hcr
      · cases hK
    · cases hK
  · cases hK
end
end Go.Proofs.Ytihipeicmbgegaa.Rf

namespace Go.Proofs.Ytihipeicmbgegaa.Rf
open Go Go.RowKit
set_option linter.unusedVariables false
set_option linter.unusedSimpArgs false
section
variable {P : Program} {T : Tab} {B : List Nat} {I0 : Nat → Nat → Option Value} {w0 : World} {gh : Gh} {w : World} {H : Nat → Option Obj} {a : Act} {o : Oper} {Q : Exit → Act → World → Prop}
theorem run_convert {src dst : TypeId} {x : Operand} (ho : o.op = .convert src dst x) {val : Value} {w' : World} (h : (convert src dst (a.eval x)).run P w = .ok val w') : (execOp a.eval o).run P w = .ok (.value val) w' := by
  simp only [execOp, ho, Sem.run_bind, h, Result.andThen_ok, Sem.run_pure]
theorem und_any (hT : tabOk P T = true) {t : TypeId} (h : ty T t ≠ .other) : ∃ d, P.underlying t = some d := by
  cases hy : ty T t with
  | int k => exact ⟨_, und_int hT hy⟩
  | bool => exact ⟨_, und_bool hT hy⟩
  | str => exact ⟨_, und_str hT hy⟩
  | tu ts => obtain ⟨fs, hu, _⟩ := und_tu hT hy; exact ⟨_, hu⟩
  | arr n e => exact ⟨_, und_arr hT hy⟩
  | sl e => exact ⟨_, (und_sl hT hy).1⟩
  | other => exact absurd hy h
theorem does_conv_int {src dst : TypeId} {x : Operand} {k k' k0 : IntKind} {n : Int} (hT : tabOk P T = true) (h : HR P T B I0 w0 gh w H) (ho : o.op = .convert src dst x) (h1 : ty T src = .int k0) (h2 : ty T dst = .int k') (hx : a.eval x = .int k n) : Does P T B I0 w0 gh w H a o Q (.int k' (k'.wrap n)) [] := by
  refine does_same (val := .int k' (k'.wrap n)) h (run_convert ho ?_) rfl
  rw [hx]
  simp [convert, run_underlying (und_int hT h1), run_underlying (und_int hT h2), Conv.intToInt]
theorem does_conv_str {src dst : TypeId} {x : Operand} {l : List UInt8} (hT : tabOk P T = true) (h : HR P T B I0 w0 gh w H) (ho : o.op = .convert src dst x) (h1 : ty T src = .str) (h2 : ty T dst = .str) (hx : a.eval x = .string ⟨⟨l⟩⟩) : Does P T B I0 w0 gh w H a o Q (.str l) [] := by
  refine does_same (val := .string ⟨⟨l⟩⟩) h (run_convert ho ?_) rfl
  rw [hx]
  simp [convert, run_underlying (und_str hT h1), run_underlying (und_str hT h2)]
/-- More is known: a new block. -/
theorem HR.learn (h : HR P T B I0 w0 gh w H) {w' : World} {nb : Nat} {f : Nat → Option Value} (hup : Upto [] w w') (hnb : w.heap.size ≤ nb) (hf : ∀ off v, f off = some v → w'.cell? ⟨nb, off, none⟩ = some v) : HR P T B I0 w0 { gh with I := also gh.I nb f } w' H := by
  refine h.step (ch := []) hup (fun b hb => by cases hb) (fun b off v hv => ?_) (fun b off v hv => ?_) (fun o ob ho => .inl ⟨ho, rfl, rfl, fun hl b hb => ⟨by simp, fun off => ?_⟩⟩) h.sep
  · show (if b = nb then f off else gh.I b off) = some v
    split
    · rename_i e; subst e
      rw [h.fresh_none hnb off] at hv; cases hv
    · exact hv
  · replace hv : (if b = nb then f off else gh.I b off) = some v := hv
    split at hv
    · rename_i e; subst e
      exact .inr ⟨hf _ _ hv, Nat.le_trans h.up.size hnb⟩
    · exact .inl hv
  · show also gh.I nb f b off = none
    unfold also
    rw [if_neg (fun e => by have := h.blk_lt ho hl hb; omega)]
    exact ((h.obj o ob ho).apart hl hb).1 off
theorem does_conv_bytes {src dst e : TypeId} {x : Operand} {l : List UInt8} (hT : tabOk P T = true) (h : HR P T B I0 w0 gh w H) (ho : o.op = .convert src dst x) (h1 : ty T src = .str) (h2 : ty T dst = .sl e) (h3 : ty T e = .int .u8) (hx : a.eval x = .string ⟨⟨l⟩⟩) :
    Does P T B I0 w0 gh w H a o Q (.sl e (l.map fun (b : UInt8) => G.int .u8 b.toNat)) [] := by
  obtain ⟨hu, hpos, _⟩ := und_sl hT h2
  have hsz1 : sz P e = 1 := scalar_size hT h3 (by simp) rfl
  let cap := grownCap w l.length 0 e
  have hcap : l.length ≤ cap := grownCap_ge w _ _ _
  let cells : Array Value := (l.map fun (b : UInt8) => Value.int .u8 b.toNat).toArray ++ Array.replicate (cap - l.length) (.int .u8 0)
  let w1 := w.drew.alloc (.cells cells e)
  let w2 := w1.freeze ⟨w.heap.size, l.length + (cap - l.length), none⟩ 1
  have hw1 : w1.heap[w.heap.size]? = some (.cells cells e) := heap_new w.drew _
  have hw2 : ∃ fr, w2.heap[w.heap.size]? = some (.cells cells e fr) := by
    refine ⟨(l.length + (cap - l.length), l.length + (cap - l.length) + 1), ?_⟩
    show (w1.freeze _ 1).heap[w.heap.size]? = _
    unfold World.freeze
    rw [if_neg (by decide)]
    simp only [Array.getElem?_modify, hw1]
    rfl
  have hup1 : Upto [] w w1 := (Upto.drew w).trans (Upto.alloc _ _) (fun x hx => by cases hx)
  have hup : Upto [] w w2 := by
    refine ⟨rfl, rfl, rfl, ?_, fun k hk _ => ?_⟩
    · have := hup1.size
      show w.heap.size ≤ (w1.freeze _ 1).heap.size
      unfold World.freeze
      rw [if_neg (by decide)]
      simpa using this
    · show (w1.freeze _ 1).heap[k]? = _
      unfold World.freeze
      rw [if_neg (by decide)]
      simp only [Array.getElem?_modify]
      rw [if_neg (by show ¬ (w.heap.size = k); omega)]
      exact hup1.block k hk (by simp)
  obtain ⟨fr, hw2⟩ := hw2
  have hlen : (l.map fun (b : UInt8) => G.int .u8 b.toNat).length = l.length := by simp
  refine does_value (val := .slice (some ⟨w.heap.size, 0, none⟩) l.length cap) (w' := w2) (gh' := { gh with I := also gh.I w.heap.size fun off => cells[off]? }) (run_convert ho ?_) (Gh.le_I fun b off v hv => ?_) (h.learn hup (Nat.le_refl _) fun off v hv => by rw [cell_block hw2]; exact hv) ?_
  · rw [hx]
    have hs : (⟨⟨l⟩⟩ : ByteArray).size = l.length := rfl
    simp [convert, run_underlying (und_str hT h1), run_underlying hu, run_underlying (und_int hT h3), Conv.stringToBytes, Question.forced, newRow, hs]
    have hsh : w1.shape? w.heap.size = some (e, cells.size) := by simp [World.shape?, hw1]
    have hcs : cells.size = l.length + (cap - l.length) := by simp [cells]
    show ((markStringish ⟨w.heap.size, 0, none⟩).run P w1).andThen _ = _
    simp only [markStringish, Sem.run_bind, run_shape, hsh, Result.andThen_ok, run_freeze, hcs]
    rfl
  · unfold also
    split
    · rename_i e'; subst e'
      rw [h.fresh_none (Nat.le_refl _) off] at hv; cases hv
    · exact hv
  · refine .inr ⟨w.heap.size, 0, cap, by rw [hlen], by rw [hlen]; exact hcap, fun i hi => ?_⟩
    have hil : i < l.length := by simpa using hi
    simp only [List.getElem_map]
    refine .int h3 ?_
    simp only [also, if_true, hsz1]
    have : i < (l.map fun (b : UInt8) => Value.int .u8 (b.toNat : Int)).toArray.size := by simpa using hil
    simp only [cells, Nat.zero_add, Nat.mul_one, Nat.add_zero]
    rw [Array.getElem?_append_left this]
    simp [hil]
theorem foldl_push : ∀ (ns : List Int) (s : ByteArray), ns.foldl (fun r n => r.push (UInt8.ofNat n.toNat)) s = ⟨⟨s.data.toList ++ ns.map fun n => UInt8.ofNat n.toNat⟩⟩
  | [], s => by simp
  | n :: ns, s => by
    rw [List.foldl_cons, foldl_push ns]
    simp [ByteArray.push]
theorem does_conv_string {src dst e : TypeId} {x : Operand} {av : AV} {es : List G} (hT : tabOk P T = true) (h : HR P T B I0 w0 gh w H) (ho : o.op = .convert src dst x) (h1 : ty T src = .sl e) (h2 : ty T dst = .str) (h3 : ty T e = .int .u8) (hv : AVR P T gh (a.eval x) av) (hes : elems H e av = some es) :
    Does P T B I0 w0 gh w H a o Q (.str (es.map fun g => UInt8.ofNat g.toInt.toNat)) [] := by
  obtain ⟨hu, hpos, _⟩ := und_sl hT h1
  have hsz1 : sz P e = 1 := scalar_size hT h3 (by simp) rfl
  have hsrc := elems_src hT h hpos hv hes
  have hconv : ∀ pa l c, (convert src dst (.slice pa l c)).run P w = (Conv.bytesToString (.slice pa l c)).run P w := fun pa l c => run_convert_bytes_string w src dst e pa l c hu (und_int hT h3) (und_str hT h2)
  refine does_same (val := .string ⟨⟨es.map fun (g : G) => UInt8.ofNat g.toInt.toNat⟩⟩) h (run_convert ho ?_) rfl
  rcases hsrc with ⟨pa, c, hx, rfl⟩ | ⟨ad, c, news, hx, h0, hnl, hnc, hn1, hnel⟩
  · rw [hx, hconv]
    cases pa with
    | none => simp [Conv.bytesToString]; rfl
    | some ad =>
      have := run_bytesToString (P := P) w ad 0 c [] (by simp [loadCells, loadCellsFrom])
      rw [this]
      rfl
  · rw [hx, hconv]
    have hnews : news = es.map fun (g : G) => Value.int .u8 g.toInt := by
      apply List.ext_getElem?
      intro i
      rcases Nat.lt_or_ge i es.length with hi | hi
      · have hcr := hnel i hi
        rw [hsz1] at hcr
        have hlt : i < news.length := by rw [hnl, hsz1]; omega
        obtain ⟨u, hu'⟩ : ∃ u, news[i]? = some u := ⟨_, List.getElem?_eq_getElem hlt⟩
        have h1c := hn1 u (List.mem_of_getElem? hu')
        have hcs : u.cells = #[u] := by cases u <;> first | rfl | cases h1c
        have hvr : VR P T gh.I e u es[i] := ⟨hcr.congr hT fun j hj => by
            rw [hsz1] at hj
            obtain rfl : j = 0 := by omega
            rw [hcs]
            simpa using hu'.symm, by rw [hcs, hsz1]; rfl, by rw [h3]; cases u <;> first | rfl | cases h1c⟩
        rw [hu', hvr.int_eq hT h3]
        simp [hi]
      · rw [List.getElem?_eq_none (by rw [hnl, hsz1]; omega), List.getElem?_eq_none (by simpa using hi)]
    have hmm : es.map (fun (g : G) => Value.int .u8 g.toInt) = (es.map G.toInt).map (Value.int .u8) := by simp
    have hll : news.length = es.length := by rw [hnl, hsz1]; omega
    have hload : (loadCells ad es.length).run P w = .ok ((es.map G.toInt).map (Value.int .u8)).toArray w := by
      have := run_loadCells_list (P := P) w ad news hnc
      rw [hll, hnews, hmm] at this
      exact this
    rw [run_bytesToString w ad es.length c (es.map G.toInt) hload, foldl_push]
    simp
end
end Go.Proofs.Ytihipeicmbgegaa.Rf

