/- What the one function of the library without Go text says: strings held against each other. No conditions. -/
import Derived.Test.YtpmecpmankpcbaaRJd
import Derived.Test.YtpmecpmankpcbaaCx
import Derived.OwnWalk
import Derived.Tactics
import Derived.RowKit3
import Derived.Lib.Bytealg
import Derived.Lib.AppendStr
import Derived.KernelRfl
namespace Go.Proofs.Ytpmecpmankpcbaa.Rf
open Go Go.Proofs Go.RowKit
set_option linter.unusedVariables false
set_option linter.unusedSimpArgs false
set_option maxHeartbeats 1000000 in
set_option maxRecDepth 100000 in
theorem cmp_calls (a0 : ByteArray) (a1 : ByteArray) (w : World) :
  Calls Try.prog 70 #[.string a0, .string a1] w fun e w' => e = .returned (.int .i64 (Lib.compareBytes a0.data.toList a1.data.toList)) ∧ w' = w := by
 go_enter Try.func70, Try.ntmps70
 go_wp2
 rw [run_callFunc_extern Try.func73 (by kernel_rfl) (by kernel_rfl) (by kernel_rfl) (e := Extern.BytealgCompare.compare) (by kernel_rfl), Lib.run_compareString]
 simp only [Result.andThen]
 rw [Oper.upon_value]
 go_wp2
 go_ret
 exact ⟨rfl, rfl⟩
theorem str_of {I : Nat → Nat → Option Value} {t : TypeId} {v : Value} {g : G} (ht : ty tab t = .str) (h : VR Try.prog tab I t v g) : v = .string ⟨⟨g.toStr⟩⟩ := by
  obtain ⟨hc, hs, ha⟩ := h
  cases hc with
  | str h1 h2 =>
    rw [h1] at ha
    rw [scalar_size tab_ok h1 (by simp) rfl] at hs
    exact scalar_of h2 hs ha
  | int h1 _ => rw [ht] at h1; cases h1
  | bool h1 _ => rw [ht] at h1; cases h1
  | tu h1 _ _ => rw [ht] at h1; cases h1
  | arr h1 _ _ => rw [ht] at h1; cases h1
  | nil h1 _ => rw [ht] at h1; cases h1
  | sl h1 _ _ _ => rw [ht] at h1; cases h1
theorem ext_good : ∀ f F, ext f = some F → ∀ xs r, F xs = some r → Good Try.prog tab own f xs r := by
  intro f F hF xs r hr
  unfold ext at hF
  cases hb : Nat.beq f 70 with
  | false => rw [hb] at hF; cases hF
  | true =>
    have := beqI hb
    subst this
    rw [hb] at hF
    cases hF
    match xs, hr with
    | [.val a, .val b], hr =>
      cases hr
      intro fn hfn w I vs hA hI hn
      rw [Try.func70] at hfn
      cases hfn
      have hp : Try.f70.params.toList ++ List.replicate Try.f70.nfree 0 = [9, 9] := by kernel_rfl
      rw [hp] at hA
      match vs, hA with
      | [v1, v2], hA =>
        have e1 := str_of rfl (show VR Try.prog tab I 9 v1 a from hA.1)
        have e2 := str_of rfl (show VR Try.prog tab I 9 v2 b from hA.2.1)
        subst e1
        subst e2
        refine (cmp_calls ⟨⟨a.toStr⟩⟩ ⟨⟨b.toStr⟩⟩ w).mono fun e w' ⟨he, hw⟩ => ?_
        subst hw
        refine ⟨_, I, he, fun _ _ _ h => h, fun _ _ _ => rfl, hI, Upto.refl _ _, ?_, trivial⟩
        have hr : Try.f70.resultTypes.toList = [3] := by kernel_rfl
        rw [hr]
        exact VR.int tab_ok rfl
theorem prog_ok : progOk Try.prog = true := by kernel_rfl
theorem C_good {n : Nat} {f : FuncId} {xs : List A} {r : R} (h : C n f xs = some r) : Good Try.prog tab own f xs r := run_good prog_ok tab_ok ext_good n f xs r h
theorem tab_shut : tabShut tab = true := by kernel_rfl
theorem f70_eq (n : Nat) (a0 a1 : G) : C (n + 1) 70 [.val a0, .val a1] = some (.int .i64 (Lib.compareBytes a0.toStr a1.toStr), []) := by kernel_rfl
end Go.Proofs.Ytpmecpmankpcbaa.Rf
