/- The function that is read by its contract: schema.regions. No conditions. -/
import Derived.Test.YtihipeicmbgegaaExR2
namespace Go.Proofs.Ytihipeicmbgegaa.Rf
open Go Go.Proofs Go.RowKit Go.Sort
set_option linter.unusedVariables false
set_option linter.unusedSimpArgs false
theorem upto_of {w w' : World} (h : Below w.heap.size w w') : Upto [] w w' := ⟨h.os, h.tape, h.output, h.size, fun k hk _ => h.block k hk⟩
theorem reg_good (s : G) (r : R) (hr : regF [.val s] = some r) : Good Try.prog tab own 47 [.val s] r := by
  have hr : cnd (Nat.ble (s.fld 0).toList.length 4096) (some ((G.sl ((srtI ((s.fld 0).toList.map G.toInt)).map fun x => G.int .i64 x), []) : R)) none = some r := hr
  cases hlenB : Nat.ble (s.fld 0).toList.length 4096 with
  | false => rw [hlenB] at hr; cases hr
  | true =>
  rw [hlenB] at hr
  cases hr
  have hlen := Nat.le_of_ble_eq_true hlenB
  clear hlenB
  intro fn hfn w I vs hA hI hn
  rw [Try.func47] at hfn
  cases hfn
  have hp : Try.f47.params.toList ++ List.replicate Try.f47.nfree 0 = [25] := by kernel_rfl
  rw [hp] at hA
  have hVv : ∃ v, vs = [v] ∧ VR Try.prog tab I 25 v s := by
    cases vs with
    | nil => exact hA.elim
    | cons v vs => cases vs with
      | nil => exact ⟨v, rfl, hA.1⟩
      | cons v' vs' => exact hA.2.elim
  clear hA
  obtain ⟨v, rfl, hV⟩ := hVv
  · obtain ⟨hc, hs, ha⟩ := hV
    have hs2 : v.cells.size = 2 := hs.trans (by kernel_rfl)
    have ht : ty tab 25 = .tu [22, 23] := rfl
    rw [ht] at ha
    obtain ⟨cs, rfl⟩ : ∃ cs, v = .agg cs := by
      cases v <;> first | exact ⟨_, rfl⟩ | cases ha
    obtain ⟨arg, t, rfl⟩ : ∃ arg t, cs = #[arg, t] := by
      obtain ⟨l⟩ := cs
      match l, hs2 with
      | [a, b], _ => exact ⟨a, b, rfl⟩
    cases hc with
    | int h _ => rw [ht] at h; cases h
    | bool h _ => rw [ht] at h; cases h
    | str h _ => rw [ht] at h; cases h
    | nil h _ => rw [ht] at h; cases h
    | sl h _ _ _ => rw [ht] at h; cases h
    | arr h _ _ => rw [ht] at h; cases h
    | tu h1 h2 h3 =>
      rename_i ts gs
      rw [ht] at h1
      cases h1
      have h0 := h3 0 (by simp) (by rw [h2]; simp)
      obtain ⟨g0, g1, rfl⟩ : ∃ g0 g1, gs = [g0, g1] := by
        match gs, h2 with
        | [a, b], _ => exact ⟨a, b, rfl⟩
      have h0' : CR Try.prog tab I 22 (fun j => (#[arg, t] : Array Value)[offs Try.prog [22, 23] 0 + j]?) g0 := h0
      have ht22 : ty tab 22 = .sl 3 := rfl
      have ht3 : ty tab 3 = .int .i64 := rfl
      have hsz3 : sz Try.prog 3 = 1 := by kernel_rfl
      have hres : Try.f47.resultTypes.toList = [22] := by kernel_rfl
      -- what the end wants
      have fin : ∀ (zs : List Int), (G.tu [g0, g1]).fld 0 = g0 → g0.toList.map G.toInt = zs → ∀ (e : Ending) (w' : World), RegLeft w zs e w' → ∃ v I', e = .returned v ∧ (∀ b off v, I b off = some v → I' b off = some v) ∧ (∀ b off, b < w.heap.size → I' b off = I b off) ∧ (∀ b off v, I' b off = some v → w'.cell? ⟨b, off, none⟩ = some v) ∧
          Upto [] w w' ∧ ResR Try.prog tab I' w' w.heap.size (own 47) [22] v (.sl ((srtI (((G.tu [g0, g1]).fld 0).toList.map G.toInt)).map fun x => .int .i64 x)) ∧ FinsR Try.prog tab I' w' [.agg #[arg, t]] [.val (G.tu [g0, g1])] [] := by
        intro zs hz0 hz e w' ⟨v, he, hown, hbel⟩
        refine ⟨v, I, he, fun _ _ _ h => h, fun _ _ _ => rfl, fun b off x hx => ?_, upto_of hbel, ?_, trivial⟩
        · rw [hbel.cell (cell_lt (hI b off x hx))]; exact hI b off x hx
        · show ResAt Try.prog tab I w' w.heap.size (own 47) 0 22 v _
          unfold ResAt
          rw [if_pos (show isOwn tab (own 47) 0 22 = true from rfl)]
          refine ⟨3, ht22, ?_⟩
          rw [hz0, hz]
          right
          refine ⟨(srtI zs).map (Value.int .i64), ?_, ?_, ?_⟩
          · rw [hsz3, show (G.sl ((srtI zs).map fun x => G.int .i64 x)).toList.length = (srtI zs).length by simp [G.toList]]
            exact hown
          · intro i hi
            rw [hsz3]
            have hi' : i < (srtI zs).length := by simpa [G.toList] using hi
            have : ((G.sl ((srtI zs).map fun x => G.int .i64 x)).toList)[i]'hi = G.int .i64 ((srtI zs)[i]) := by simp [G.toList]
            rw [this]
            refine .int ht3 ?_
            simp [hi']
          · intro b hb off
            rcases hown.2 with ⟨rfl, _⟩ | ⟨g, cap, cur, rfl, hbase, _⟩
            · cases hb
            · cases cap with
              | zero => cases hb
              | succ cap =>
                cases hb
                cases hx : I g off with
                | none => rfl
                | some x =>
                  have := cell_lt (hI g off x hx)
                  omega
      rw [hres]
      have hf0 : (G.tu [g0, g1]).fld 0 = g0 := rfl
      have nilcase : ∀ (a : Option Addr) (c : Nat), arg = .slice a 0 c → g0.toList = [] → Calls Try.prog 47 #[.agg #[arg, t]] w fun e w' => ∃ v I', e = .returned v ∧ (∀ b off v, I b off = some v → I' b off = some v) ∧ (∀ b off, b < w.heap.size → I' b off = I b off) ∧ (∀ b off v, I' b off = some v → w'.cell? ⟨b, off, none⟩ = some v) ∧
          Upto [] w w' ∧ ResR Try.prog tab I' w' w.heap.size (own 47) [22] v (.sl ((srtI (((G.tu [g0, g1]).fld 0).toList.map G.toInt)).map fun x => .int .i64 x)) ∧ FinsR Try.prog tab I' w' [.agg #[arg, t]] [.val (G.tu [g0, g1])] [] := by
        intro a c harg hg
        subst harg
        have hbw : Below w.heap.size w (w.alloc (Go.Obj.cells #[.slice a 0 c, t] 25)) := (Below.refl _ w).alloc (Nat.le_refl _) _
        cases a with
        | none =>
          refine (reg_nil 0 c t w).mono fun e w' ⟨he, hw⟩ => ?_
          subst hw
          refine ⟨_, I, he, fun _ _ _ h => h, fun _ _ _ => rfl, fun b off x hx => ?_, upto_of hbw, ?_, trivial⟩
          · rw [hbw.cell (cell_lt (hI b off x hx))]; exact hI b off x hx
          · show ResAt Try.prog tab I _ w.heap.size (own 47) 0 22 _ _
            unfold ResAt
            rw [if_pos (show isOwn tab (own 47) 0 22 = true from rfl)]
            refine ⟨3, ht22, .inl ⟨none, rfl, ?_⟩⟩
            rw [hf0, hg]
            rfl
        | some a =>
          have hcl : Calls Try.prog 75 #[.slice (some a) 0 c] (w.alloc (Go.Obj.cells #[.slice (some a) 0 c, t] 25)) fun e w' => ∃ v', e = .returned v' ∧ w'.ownsRow w.heap.size 3 1 v' 0 (([] : List Int).map (Value.int .i64)) ∧ v' ≠ .slice none 0 0 ∧ Below w.heap.size w w' := (clone_zero a c (w.alloc (Go.Obj.cells #[.slice (some a) 0 c, t] 25))).mono fun e w' ⟨v', he, hown, hnn, hb⟩ =>
            ⟨v', he, ⟨by simp, (hown.2).imp id fun ⟨g, cap, cur, q1, q2, q3⟩ => ⟨g, cap, cur, q1, by simp at q2; omega, by simpa using q3⟩⟩, hnn, hbw.trans (hb.mono (by simp))⟩
          exact (reg_tail 0 (.slice (some a) 0 c) t [] w (by omega) hcl).mono fun e w' h => fin [] hf0 (by rw [hg]; rfl) e w' h
      cases h0' with
      | int h _ => rw [ht22] at h; cases h
      | bool h _ => rw [ht22] at h; cases h
      | str h _ => rw [ht22] at h; cases h
      | tu h _ _ => rw [ht22] at h; cases h
      | arr h _ _ => rw [ht22] at h; cases h
      | nil h1 hrd =>
        rename_i a c
        have harg : arg = .slice a 0 c := by simpa [offs] using hrd
        exact nilcase a c harg rfl
      | sl h1 hrd hle hel =>
        rename_i b off c es
        rw [ht22] at h1
        cases h1
        have harg : arg = .slice (some ⟨b, off, none⟩) es.length c := by simpa [offs] using hrd
        subst harg
        have hbw : Below w.heap.size w (w.alloc (Go.Obj.cells #[.slice (some ⟨b, off, none⟩) es.length c, t] 25)) := (Below.refl _ w).alloc (Nat.le_refl _) _
        have hes : es.length ≤ 4096 := hlen
        have hcell : ∀ j, j < (es.map G.toInt).length → (w.alloc (Go.Obj.cells #[.slice (some ⟨b, off, none⟩) es.length c, t] 25)).cell? ⟨b, off + j, none⟩ = some (.int .i64 ((es.map G.toInt).getD j 0)) := by
          intro j hj
          have hj' : j < es.length := by simpa using hj
          have h5 := hel j hj'
          have hv : ∃ n, es[j] = .int .i64 n ∧ I b (off + j) = some (.int .i64 n) := by
            rw [hsz3] at h5
            generalize hx : es[j] = x at h5
            cases h5 with
            | int h6 h7 => rw [ht3] at h6; cases h6; exact ⟨_, rfl, by simpa using h7⟩
            | bool h6 _ => rw [ht3] at h6; cases h6
            | str h6 _ => rw [ht3] at h6; cases h6
            | tu h6 _ _ => rw [ht3] at h6; cases h6
            | arr h6 _ _ => rw [ht3] at h6; cases h6
            | nil h6 _ => rw [ht3] at h6; cases h6
            | sl h6 _ _ _ => rw [ht3] at h6; cases h6
          obtain ⟨n, hn1, hn2⟩ := hv
          rw [hbw.cell (cell_lt (hI b (off + j) _ hn2)), hI b (off + j) _ hn2]
          simp [List.getD, hj', hn1, G.toInt]
        have hcl : Calls Try.prog 75 #[.slice (some ⟨b, off, none⟩) es.length c] (w.alloc (Go.Obj.cells #[.slice (some ⟨b, off, none⟩) es.length c, t] 25)) fun e w' => ∃ v', e = .returned v' ∧ w'.ownsRow w.heap.size 3 1 v' es.length ((es.map G.toInt).map (Value.int .i64)) ∧ v' ≠ .slice none 0 0 ∧ Below w.heap.size w w' := (clone_calls b off es.length c (es.map G.toInt) (w.alloc (Go.Obj.cells #[.slice (some ⟨b, off, none⟩) es.length c, t] 25)) (by simp) (by omega) hcell).mono fun e w' ⟨v', he, hown, hnn, hb⟩ => by
          have hown' : w'.ownsRow (w.alloc (Go.Obj.cells #[.slice (some ⟨b, off, none⟩) es.length c, t] 25)).heap.size 3 1 v' es.length ((es.map G.toInt).map (Value.int .i64)) := by
            have : (es.map G.toInt).take es.length = es.map G.toInt := List.take_of_length_le (by simp)
            rw [this] at hown
            exact hown
          exact ⟨v', he, ⟨hown'.1, (hown'.2).imp id fun ⟨g, cap, cur, q1, q2, q3⟩ => ⟨g, cap, cur, q1, by simp at q2; omega, q3⟩⟩, hnn, hbw.trans (hb.mono (by simp))⟩
        exact (reg_tail es.length _ t (es.map G.toInt) w (by omega) hcl).mono fun e w' h => fin _ hf0 rfl e w' h
theorem ext_good : ∀ f F, ext f = some F → ∀ xs r, F xs = some r → Good Try.prog tab own f xs r := by
  intro f F hF xs r hr
  unfold ext at hF
  cases hb : Nat.beq f 47 with
  | false => rw [hb] at hF; cases hF
  | true =>
    have := beqI hb
    subst this
    rw [hb] at hF
    cases hF
    match xs, hr with
    | [.val s], hr => exact reg_good s r hr
theorem prog_ok : progOk Try.prog = true := by kernel_rfl
theorem C_good {n : Nat} {f : FuncId} {xs : List A} {r : R} (h : C n f xs = some r) : Good Try.prog tab own f xs r := run_good prog_ok tab_ok ext_good n f xs r h
theorem tab_shut : tabShut tab = true := by kernel_rfl
theorem f47_eq (n : Nat) (a0 : G) : C (n + 1) 47 [.val a0] = regF [.val a0] := by kernel_rfl
end Go.Proofs.Ytihipeicmbgegaa.Rf
