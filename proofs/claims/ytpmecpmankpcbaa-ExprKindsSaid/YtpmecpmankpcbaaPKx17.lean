/- Go functions of the program as plain functions, and that each call comes to them. Written by a program of this session (hprint.py) on the kit's print. No conditions. -/
import Derived.Test.YtpmecpmankpcbaaPKx0
import Derived.Test.YtpmecpmankpcbaaPKx2
import Derived.Test.YtpmecpmankpcbaaPKx5
import Derived.Test.YtpmecpmankpcbaaPKx9
import Derived.Test.YtpmecpmankpcbaaPKx10
import Derived.Test.YtpmecpmankpcbaaPKx15
import Derived.Test.YtpmecpmankpcbaaPKx16
import Derived.Test.YtpmecpmankpcbaaSq
namespace Go.Proofs.Ytpmecpmankpcbaa.PK
open Go.RowKit Go.Proofs.YtpmecpmankpcbaaW.PrintWords Go.Proofs.YtpmecpmankpcbaaW.PrintLast Go.Proofs.YtpmecpmankpcbaaW.PrintMore Go.Proofs.Ytpmecpmankpcbaa.Sq
set_option linter.unusedVariables false
set_option linter.unusedSimpArgs false

/-! ### antipodelaw19_begun: function 10 -/
def antipodelaw19_begun.hole (v0 v1 : Int) (v2 : ByteArray) (f k g : Int) : Bool := decide (v0 = 1) && decide (v1 = 1) && v2.toList.isEmpty && decide (f = 0) && decide (k = 3) && decide (g = 0)
theorem antipodelaw19_begun.empty : (⟨#[]⟩ : ByteArray).toList = [] := by
 simp [ByteArray.toList, ByteArray.toList.loop, ByteArray.size]
def antipodelaw19_begun.f (k : Nat)  : Option (Bool) := (antipodelaw19_lit.f 0 0 (⟨#[]⟩ : ByteArray)).bind fun bt247 => ((antipodelaw19_lit.f 1 1 (⟨#[]⟩ : ByteArray)).bind fun bt255 => ((antipodelaw19_op.f (⟨#[79, 82]⟩ : ByteArray) (([(⟨bt247.1, bt247.2.1, (⟨bt247.2.2.1, bt247.2.2.2.1, bt247.2.2.2.2.1⟩ : S23), bt247.2.2.2.2.2⟩ : S26), (⟨bt255.1, bt255.2.1, (⟨bt255.2.2.1, bt255.2.2.2.1, bt255.2.2.2.2.1⟩ : S23), bt255.2.2.2.2.2⟩ : S26)] : List (S26)))).bind fun bt266 => ((antipodelaw19_Table.f).bind fun bt275 => (if 3 ≤ 8796093022208 then ((expr_Eval.f k bt275.1 bt275.2.1 bt275.2.2.1 bt275.2.2.2.1 bt275.2.2.2.2.1 bt275.2.2.2.2.2.1 bt275.2.2.2.2.2.2.1 bt275.2.2.2.2.2.2.2.1 bt275.2.2.2.2.2.2.2.2.1 bt275.2.2.2.2.2.2.2.2.2.1 bt275.2.2.2.2.2.2.2.2.2.2 (List.replicate 3 z23) bt266.1 bt266.2.1 bt266.2.2.1 bt266.2.2.2.1 bt266.2.2.2.2.1 bt266.2.2.2.2.2).bind fun bt297 => ((antipodelaw19_Table.f).bind fun bt302 => ((antipodelaw19_name.f (⟨#[83]⟩ : ByteArray)).bind fun bt321 => ((expr_Type.f k bt302.1 bt302.2.1 bt302.2.2.1 bt302.2.2.2.1 bt302.2.2.2.2.1 bt302.2.2.2.2.2.1 bt302.2.2.2.2.2.2.1 bt302.2.2.2.2.2.2.2.1 bt302.2.2.2.2.2.2.2.2.1 bt302.2.2.2.2.2.2.2.2.2.1 bt302.2.2.2.2.2.2.2.2.2.2 bt321.1 bt321.2.1 bt321.2.2.1 bt321.2.2.2.1 bt321.2.2.2.2.1 bt321.2.2.2.2.2).bind fun bt329 => (if antipodelaw19_begun.hole bt297.1 bt297.2.1 bt297.2.2.1 bt297.2.2.2 bt329.1 bt329.2 = true then (some true) else (none)))))) else (none)))))
theorem antipodelaw19_begun.mono : ∀ k, LeO (antipodelaw19_begun.f k ) (antipodelaw19_begun.f (k + 1) ) := by
 intro  k
 unfold antipodelaw19_begun.f
 repeat' first
   | (with_reducible exact expr_Eval.mono _ _ _ _ _ _ _ _ _ _ _ _ _ _ _ _ _ _ _)
   | (with_reducible exact expr_Type.mono _ _ _ _ _ _ _ _ _ _ _ _ _ _ _ _ _ _)
   | (with_reducible exact LeO.refl _)
   | (with_reducible exact LeO.none _)
   | (with_reducible refine LeO.ite ?_ ?_)
   | (with_reducible refine LeO.bind ?_ (fun _ => ?_))
   | exact expr_Eval.mono _ _ _ _ _ _ _ _ _ _ _ _ _ _ _ _ _ _ _
   | exact expr_Type.mono _ _ _ _ _ _ _ _ _ _ _ _ _ _ _ _ _ _
   | exact LeO.none _
   | refine LeO.ite ?_ ?_
   | refine LeO.bind ?_ (fun _ => ?_)
def antipodelaw19_begun.T2 : Bool × List (List Nat × List Nat) := (true, [([], []), ([], []), ([], []), ([0, 1, 2, 0], [0, 1, 2]), ([3], [3]), ([4], [4]), ([4], [4]), ([], []), ([7, 5, 3, 0, 1, 2, 3, 4, 5, 7], [5, 7]), ([6, 8, 0, 1, 2, 3, 4, 5, 6, 7, 8], [6])])
def antipodelaw19_begun.B2 : List Nat := [0, 0, 0, 7, 15, 31, 31, 0, 191, 511]
theorem antipodelaw19_begun.tab2 : rtab .any (opsOf Try.f10 2) = antipodelaw19_begun.T2 := by kernel_rfl
theorem antipodelaw19_begun.bits2 : waitsOk antipodelaw19_begun.T2.2 antipodelaw19_begun.B2 = true := by kernel_rfl
set_option maxHeartbeats 8000000 in
set_option maxRecDepth 100000 in
theorem antipodelaw19_begun.calls (k : Nat)  (r : Bool) (w : World) (h : antipodelaw19_begun.f k  = some r) :
  Calls Try.prog 10 #[] w fun e w' => e = .returned (.bool r) ∧ Below w.heap.size w w' := by
 have hu23 := Try.underlying23
 have hu26 := Try.underlying26
 have HB := aM (Below.refl w.heap.size w)
 have H : ((antipodelaw19_lit.f 0 0 (⟨#[]⟩ : ByteArray)).bind fun bt247 => ((antipodelaw19_lit.f 1 1 (⟨#[]⟩ : ByteArray)).bind fun bt255 => ((antipodelaw19_op.f (⟨#[79, 82]⟩ : ByteArray) (([(⟨bt247.1, bt247.2.1, (⟨bt247.2.2.1, bt247.2.2.2.1, bt247.2.2.2.2.1⟩ : S23), bt247.2.2.2.2.2⟩ : S26), (⟨bt255.1, bt255.2.1, (⟨bt255.2.2.1, bt255.2.2.2.1, bt255.2.2.2.2.1⟩ : S23), bt255.2.2.2.2.2⟩ : S26)] : List (S26)))).bind fun bt266 => ((antipodelaw19_Table.f).bind fun bt275 => (if 3 ≤ 8796093022208 then ((expr_Eval.f k bt275.1 bt275.2.1 bt275.2.2.1 bt275.2.2.2.1 bt275.2.2.2.2.1 bt275.2.2.2.2.2.1 bt275.2.2.2.2.2.2.1 bt275.2.2.2.2.2.2.2.1 bt275.2.2.2.2.2.2.2.2.1 bt275.2.2.2.2.2.2.2.2.2.1 bt275.2.2.2.2.2.2.2.2.2.2 (List.replicate 3 z23) bt266.1 bt266.2.1 bt266.2.2.1 bt266.2.2.2.1 bt266.2.2.2.2.1 bt266.2.2.2.2.2).bind fun bt297 => ((antipodelaw19_Table.f).bind fun bt302 => ((antipodelaw19_name.f (⟨#[83]⟩ : ByteArray)).bind fun bt321 => ((expr_Type.f k bt302.1 bt302.2.1 bt302.2.2.1 bt302.2.2.2.1 bt302.2.2.2.2.1 bt302.2.2.2.2.2.1 bt302.2.2.2.2.2.2.1 bt302.2.2.2.2.2.2.2.1 bt302.2.2.2.2.2.2.2.2.1 bt302.2.2.2.2.2.2.2.2.2.1 bt302.2.2.2.2.2.2.2.2.2.2 bt321.1 bt321.2.1 bt321.2.2.1 bt321.2.2.2.1 bt321.2.2.2.2.1 bt321.2.2.2.2.2).bind fun bt329 => (if antipodelaw19_begun.hole bt297.1 bt297.2.1 bt297.2.2.1 bt297.2.2.2 bt329.1 bt329.2 = true then (some true) else (none)))))) else (none)))))) = some r := h
 clear h
 replace H := Option.bind_eq_some_iff.mp H
 obtain ⟨⟨t247, t248, t249, t250, t251, t252⟩, A10, H⟩ := H
 replace H : ((antipodelaw19_lit.f 1 1 (⟨#[]⟩ : ByteArray)).bind fun bt255 => ((antipodelaw19_op.f (⟨#[79, 82]⟩ : ByteArray) (([(⟨t247, t248, (⟨t249, t250, t251⟩ : S23), t252⟩ : S26), (⟨bt255.1, bt255.2.1, (⟨bt255.2.2.1, bt255.2.2.2.1, bt255.2.2.2.2.1⟩ : S23), bt255.2.2.2.2.2⟩ : S26)] : List (S26)))).bind fun bt266 => ((antipodelaw19_Table.f).bind fun bt275 => (if 3 ≤ 8796093022208 then ((expr_Eval.f k bt275.1 bt275.2.1 bt275.2.2.1 bt275.2.2.2.1 bt275.2.2.2.2.1 bt275.2.2.2.2.2.1 bt275.2.2.2.2.2.2.1 bt275.2.2.2.2.2.2.2.1 bt275.2.2.2.2.2.2.2.2.1 bt275.2.2.2.2.2.2.2.2.2.1 bt275.2.2.2.2.2.2.2.2.2.2 (List.replicate 3 z23) bt266.1 bt266.2.1 bt266.2.2.1 bt266.2.2.2.1 bt266.2.2.2.2.1 bt266.2.2.2.2.2).bind fun bt297 => ((antipodelaw19_Table.f).bind fun bt302 => ((antipodelaw19_name.f (⟨#[83]⟩ : ByteArray)).bind fun bt321 => ((expr_Type.f k bt302.1 bt302.2.1 bt302.2.2.1 bt302.2.2.2.1 bt302.2.2.2.2.1 bt302.2.2.2.2.2.1 bt302.2.2.2.2.2.2.1 bt302.2.2.2.2.2.2.2.1 bt302.2.2.2.2.2.2.2.2.1 bt302.2.2.2.2.2.2.2.2.2.1 bt302.2.2.2.2.2.2.2.2.2.2 bt321.1 bt321.2.1 bt321.2.2.1 bt321.2.2.2.1 bt321.2.2.2.2.1 bt321.2.2.2.2.2).bind fun bt329 => (if antipodelaw19_begun.hole bt297.1 bt297.2.1 bt297.2.2.1 bt297.2.2.2 bt329.1 bt329.2 = true then (some true) else (none)))))) else (none))))) = some r := H
 have A1 := aM A10
 clear A10
 replace H := Option.bind_eq_some_iff.mp H
 obtain ⟨⟨t255, t256, t257, t258, t259, t260⟩, A20, H⟩ := H
 replace H : ((antipodelaw19_op.f (⟨#[79, 82]⟩ : ByteArray) (([(⟨t247, t248, (⟨t249, t250, t251⟩ : S23), t252⟩ : S26), (⟨t255, t256, (⟨t257, t258, t259⟩ : S23), t260⟩ : S26)] : List (S26)))).bind fun bt266 => ((antipodelaw19_Table.f).bind fun bt275 => (if 3 ≤ 8796093022208 then ((expr_Eval.f k bt275.1 bt275.2.1 bt275.2.2.1 bt275.2.2.2.1 bt275.2.2.2.2.1 bt275.2.2.2.2.2.1 bt275.2.2.2.2.2.2.1 bt275.2.2.2.2.2.2.2.1 bt275.2.2.2.2.2.2.2.2.1 bt275.2.2.2.2.2.2.2.2.2.1 bt275.2.2.2.2.2.2.2.2.2.2 (List.replicate 3 z23) bt266.1 bt266.2.1 bt266.2.2.1 bt266.2.2.2.1 bt266.2.2.2.2.1 bt266.2.2.2.2.2).bind fun bt297 => ((antipodelaw19_Table.f).bind fun bt302 => ((antipodelaw19_name.f (⟨#[83]⟩ : ByteArray)).bind fun bt321 => ((expr_Type.f k bt302.1 bt302.2.1 bt302.2.2.1 bt302.2.2.2.1 bt302.2.2.2.2.1 bt302.2.2.2.2.2.1 bt302.2.2.2.2.2.2.1 bt302.2.2.2.2.2.2.2.1 bt302.2.2.2.2.2.2.2.2.1 bt302.2.2.2.2.2.2.2.2.2.1 bt302.2.2.2.2.2.2.2.2.2.2 bt321.1 bt321.2.1 bt321.2.2.1 bt321.2.2.2.1 bt321.2.2.2.2.1 bt321.2.2.2.2.2).bind fun bt329 => (if antipodelaw19_begun.hole bt297.1 bt297.2.1 bt297.2.2.1 bt297.2.2.2 bt329.1 bt329.2 = true then (some true) else (none)))))) else (none)))) = some r := H
 have A2 := aM A20
 clear A20
 obtain ⟨y263, hy263⟩ : ∃ y_ : List (S26), y_ = (([(⟨t247, t248, (⟨t249, t250, t251⟩ : S23), t252⟩ : S26), (⟨t255, t256, (⟨t257, t258, t259⟩ : S23), t260⟩ : S26)] : List (S26))) := ⟨_, rfl⟩
 replace H : ((antipodelaw19_op.f (⟨#[79, 82]⟩ : ByteArray) y263).bind fun bt266 => ((antipodelaw19_Table.f).bind fun bt275 => (if 3 ≤ 8796093022208 then ((expr_Eval.f k bt275.1 bt275.2.1 bt275.2.2.1 bt275.2.2.2.1 bt275.2.2.2.2.1 bt275.2.2.2.2.2.1 bt275.2.2.2.2.2.2.1 bt275.2.2.2.2.2.2.2.1 bt275.2.2.2.2.2.2.2.2.1 bt275.2.2.2.2.2.2.2.2.2.1 bt275.2.2.2.2.2.2.2.2.2.2 (List.replicate 3 z23) bt266.1 bt266.2.1 bt266.2.2.1 bt266.2.2.2.1 bt266.2.2.2.2.1 bt266.2.2.2.2.2).bind fun bt297 => ((antipodelaw19_Table.f).bind fun bt302 => ((antipodelaw19_name.f (⟨#[83]⟩ : ByteArray)).bind fun bt321 => ((expr_Type.f k bt302.1 bt302.2.1 bt302.2.2.1 bt302.2.2.2.1 bt302.2.2.2.2.1 bt302.2.2.2.2.2.1 bt302.2.2.2.2.2.2.1 bt302.2.2.2.2.2.2.2.1 bt302.2.2.2.2.2.2.2.2.1 bt302.2.2.2.2.2.2.2.2.2.1 bt302.2.2.2.2.2.2.2.2.2.2 bt321.1 bt321.2.1 bt321.2.2.1 bt321.2.2.2.1 bt321.2.2.2.2.1 bt321.2.2.2.2.2).bind fun bt329 => (if antipodelaw19_begun.hole bt297.1 bt297.2.1 bt297.2.2.1 bt297.2.2.2 bt329.1 bt329.2 = true then (some true) else (none)))))) else (none)))) = some r := by first | (rw [hy263]; with_reducible exact H) | (have H2_ := (Option.bind_some _ _).symm.trans H; rw [hy263]; with_reducible exact H2_) | (have H2_ := (Option.bind_some _ _).symm.trans H; with_reducible exact H2_) | with_reducible exact H | (rw [hy263]; exact H) | exact H
 have Ny263 := aM hy263
 clear hy263
 replace H := Option.bind_eq_some_iff.mp H
 obtain ⟨⟨t266, t267, t268, t269, t270, t271⟩, A30, H⟩ := H
 replace H : ((antipodelaw19_Table.f).bind fun bt275 => (if 3 ≤ 8796093022208 then ((expr_Eval.f k bt275.1 bt275.2.1 bt275.2.2.1 bt275.2.2.2.1 bt275.2.2.2.2.1 bt275.2.2.2.2.2.1 bt275.2.2.2.2.2.2.1 bt275.2.2.2.2.2.2.2.1 bt275.2.2.2.2.2.2.2.2.1 bt275.2.2.2.2.2.2.2.2.2.1 bt275.2.2.2.2.2.2.2.2.2.2 (List.replicate 3 z23) t266 t267 t268 t269 t270 t271).bind fun bt297 => ((antipodelaw19_Table.f).bind fun bt302 => ((antipodelaw19_name.f (⟨#[83]⟩ : ByteArray)).bind fun bt321 => ((expr_Type.f k bt302.1 bt302.2.1 bt302.2.2.1 bt302.2.2.2.1 bt302.2.2.2.2.1 bt302.2.2.2.2.2.1 bt302.2.2.2.2.2.2.1 bt302.2.2.2.2.2.2.2.1 bt302.2.2.2.2.2.2.2.2.1 bt302.2.2.2.2.2.2.2.2.2.1 bt302.2.2.2.2.2.2.2.2.2.2 bt321.1 bt321.2.1 bt321.2.2.1 bt321.2.2.2.1 bt321.2.2.2.2.1 bt321.2.2.2.2.2).bind fun bt329 => (if antipodelaw19_begun.hole bt297.1 bt297.2.1 bt297.2.2.1 bt297.2.2.2 bt329.1 bt329.2 = true then (some true) else (none)))))) else (none))) = some r := H
 have A3 := aM A30
 clear A30
 replace H := Option.bind_eq_some_iff.mp H
 obtain ⟨⟨t275, t276, t279, t280, t281, t282, t285, t288, t291, t292, t293⟩, A40, H⟩ := H
 replace H : (if 3 ≤ 8796093022208 then ((expr_Eval.f k t275 t276 t279 t280 t281 t282 t285 t288 t291 t292 t293 (List.replicate 3 z23) t266 t267 t268 t269 t270 t271).bind fun bt297 => ((antipodelaw19_Table.f).bind fun bt302 => ((antipodelaw19_name.f (⟨#[83]⟩ : ByteArray)).bind fun bt321 => ((expr_Type.f k bt302.1 bt302.2.1 bt302.2.2.1 bt302.2.2.2.1 bt302.2.2.2.2.1 bt302.2.2.2.2.2.1 bt302.2.2.2.2.2.2.1 bt302.2.2.2.2.2.2.2.1 bt302.2.2.2.2.2.2.2.2.1 bt302.2.2.2.2.2.2.2.2.2.1 bt302.2.2.2.2.2.2.2.2.2.2 bt321.1 bt321.2.1 bt321.2.2.1 bt321.2.2.2.1 bt321.2.2.2.2.1 bt321.2.2.2.2.2).bind fun bt329 => (if antipodelaw19_begun.hole bt297.1 bt297.2.1 bt297.2.2.1 bt297.2.2.2 bt329.1 bt329.2 = true then (some true) else (none)))))) else (none)) = some r := H
 have A4 := aM A40
 clear A40
 by_cases c5 : 3 ≤ 8796093022208
 ·rw [if_pos c5] at H
  have c5b0 := eq_true c5
  have c5b1 : decide (3 ≤ 8796093022208) = true := decide_eq_true c5
  clear c5
  obtain ⟨y294, hy294⟩ : ∃ y_ : List (S23), y_ = (List.replicate 3 z23) := ⟨_, rfl⟩
  replace H : ((expr_Eval.f k t275 t276 t279 t280 t281 t282 t285 t288 t291 t292 t293 y294 t266 t267 t268 t269 t270 t271).bind fun bt297 => ((antipodelaw19_Table.f).bind fun bt302 => ((antipodelaw19_name.f (⟨#[83]⟩ : ByteArray)).bind fun bt321 => ((expr_Type.f k bt302.1 bt302.2.1 bt302.2.2.1 bt302.2.2.2.1 bt302.2.2.2.2.1 bt302.2.2.2.2.2.1 bt302.2.2.2.2.2.2.1 bt302.2.2.2.2.2.2.2.1 bt302.2.2.2.2.2.2.2.2.1 bt302.2.2.2.2.2.2.2.2.2.1 bt302.2.2.2.2.2.2.2.2.2.2 bt321.1 bt321.2.1 bt321.2.2.1 bt321.2.2.2.1 bt321.2.2.2.2.1 bt321.2.2.2.2.2).bind fun bt329 => (if antipodelaw19_begun.hole bt297.1 bt297.2.1 bt297.2.2.1 bt297.2.2.2 bt329.1 bt329.2 = true then (some true) else (none)))))) = some r := by first | (rw [hy294]; with_reducible exact H) | (have H2_ := (Option.bind_some _ _).symm.trans H; rw [hy294]; with_reducible exact H2_) | (have H2_ := (Option.bind_some _ _).symm.trans H; with_reducible exact H2_) | with_reducible exact H | (rw [hy294]; exact H) | exact H
  have Ny294 := aM hy294
  clear hy294
  replace H := Option.bind_eq_some_iff.mp H
  obtain ⟨⟨t297, t298, t299, t300⟩, A60, H⟩ := H
  replace H : ((antipodelaw19_Table.f).bind fun bt302 => ((antipodelaw19_name.f (⟨#[83]⟩ : ByteArray)).bind fun bt321 => ((expr_Type.f k bt302.1 bt302.2.1 bt302.2.2.1 bt302.2.2.2.1 bt302.2.2.2.2.1 bt302.2.2.2.2.2.1 bt302.2.2.2.2.2.2.1 bt302.2.2.2.2.2.2.2.1 bt302.2.2.2.2.2.2.2.2.1 bt302.2.2.2.2.2.2.2.2.2.1 bt302.2.2.2.2.2.2.2.2.2.2 bt321.1 bt321.2.1 bt321.2.2.1 bt321.2.2.2.1 bt321.2.2.2.2.1 bt321.2.2.2.2.2).bind fun bt329 => (if antipodelaw19_begun.hole t297 t298 t299 t300 bt329.1 bt329.2 = true then (some true) else (none))))) = some r := H
  have A6 := aM A60
  clear A60
  replace H := Option.bind_eq_some_iff.mp H
  obtain ⟨⟨t302, t303, t306, t307, t308, t309, t312, t315, t318, t319, t320⟩, A70, H⟩ := H
  replace H : ((antipodelaw19_name.f (⟨#[83]⟩ : ByteArray)).bind fun bt321 => ((expr_Type.f k t302 t303 t306 t307 t308 t309 t312 t315 t318 t319 t320 bt321.1 bt321.2.1 bt321.2.2.1 bt321.2.2.2.1 bt321.2.2.2.2.1 bt321.2.2.2.2.2).bind fun bt329 => (if antipodelaw19_begun.hole t297 t298 t299 t300 bt329.1 bt329.2 = true then (some true) else (none)))) = some r := H
  have A7 := aM A70
  clear A70
  replace H := Option.bind_eq_some_iff.mp H
  obtain ⟨⟨t321, t322, t323, t324, t325, t326⟩, A80, H⟩ := H
  replace H : ((expr_Type.f k t302 t303 t306 t307 t308 t309 t312 t315 t318 t319 t320 t321 t322 t323 t324 t325 t326).bind fun bt329 => (if antipodelaw19_begun.hole t297 t298 t299 t300 bt329.1 bt329.2 = true then (some true) else (none))) = some r := H
  have A8 := aM A80
  clear A80
  replace H := Option.bind_eq_some_iff.mp H
  obtain ⟨⟨t329, t330⟩, A90, H⟩ := H
  replace H : (if antipodelaw19_begun.hole t297 t298 t299 t300 t329 t330 = true then (some true) else (none)) = some r := H
  have A9 := aM A90
  clear A90
  have HC_ := aM H
  clear H
  go_enter Try.func10, Try.ntmps10
  try go_wp2_with (first | ((with_reducible refine gate_callee (f := 22) rfl ?_); refine gL (some 7) rfl rfl Try.func22 (by kernel_rfl) rfl #[.agg #[.int .i64 0, .int .i64 0, .string (⟨#[]⟩ : ByteArray)]] rfl ?_; (with_reducible refine (antipodelaw19_lit.calls 0 0 (⟨#[]⟩ : ByteArray) t247 t248 t249 t250 t251 t252 _ A1.out).mono ?_); rintro e w10 ⟨v253, rfl, ho0, hb⟩; refine ⟨_, rfl, ?_⟩; have n0_ := aM (Kd.N_lower (Kd.N_mono (ok' := fun k_ => True) (Kd.R_N (Kd.R_bound ho0)) (fun k_ hk_ => trivial)) (below_size (lO HB))); have n1_ := aM (below_step (lO HB) hb); clear HB; have HO254 := n0_; have HB := n1_; clear n0_ n1_; (try clear hb); (try clear hb2); (try clear hk); (try clear hi); (try clear ho0)) | ((with_reducible refine gate_callee (f := 22) rfl ?_); refine gL (some 9) rfl rfl Try.func22 (by kernel_rfl) rfl #[.agg #[.int .i64 1, .int .i64 1, .string (⟨#[]⟩ : ByteArray)]] rfl ?_; (with_reducible refine (antipodelaw19_lit.calls 1 1 (⟨#[]⟩ : ByteArray) t255 t256 t257 t258 t259 t260 _ A2.out).mono ?_); rintro e w11 ⟨v261, rfl, ho0, hb⟩; refine ⟨_, rfl, ?_⟩; have n0_ := aM (Kd.N_elder' (nO HO254) (by first | exact Kd.N_base ho0 | exact Kd.R_base ho0) hb); have n1_ := aM (Kd.N_lower (Kd.N_mono (ok' := fun k_ => some k_ ≠ (v253 : Value).ownBlock) (Kd.R_N (Kd.R_bound ho0)) (fun k_ hk_ => (Kd.fresh' (Kd.N_lt (nO HO254)) k_ hk_.2.1))) (below_size (lO HB))); have n2_ := aM (below_step (lO HB) hb); clear HO254; clear HB; have HO254 := n0_; have HO262 := n1_; have HB := n2_; clear n0_ n1_ n2_; (try clear hb); (try clear hb2); (try clear hk); (try clear hi); (try clear ho0); obtain ⟨Ao12, co12, eo12⟩ := Kd.N_slice HO254.out; subst eo12; obtain ⟨Ao13, co13, eo13⟩ := Kd.N_slice HO262.out; subst eo13) | ((with_reducible refine gate_dst (N := 10) rfl ?_); refine Kd.N_lit k26 _ 26 ?hg (N' := 10) ?hd (xs := ([(⟨t247, t248, (⟨t249, t250, t251⟩ : S23), t252⟩ : S26), (⟨t255, t256, (⟨t257, t258, t259⟩ : S23), t260⟩ : S26)] : List (S26))) (inner := [.int .i64 t247, .string t248, .int .i64 t249, .int .i64 t250, .string t251, .slice Ao12 t252.length co12, .int .i64 t255, .string t256, .int .i64 t257, .int .i64 t258, .string t259, .slice Ao13 t260.length co13]) (ok := (fun _ => True)) (okp := (fun _ => True)) ?hr ?hp (fun _ hk => hk) ((show ∀ k_, w11.heap.size ≤ k_ → (fun _ => True) k_ from fun k_ hk => trivial) _ (Nat.le_refl _)) (Below.refl _ _) (Nat.le_refl _) (by simp) ?_; (case hd => rfl); (case hg => rfl); (case hr => first | (go_simp; done) | (go_simp; rfl)); (case hp => exact (Reps.c6 (show Kd.FK k26 _ _ (⟨t247, t248, (⟨t249, t250, t251⟩ : S23), t252⟩ : S26) [.int .i64 t247, .string t248, .int .i64 t249, .int .i64 t250, .string t251, .slice Ao12 t252.length co12] from (k26_mkF _ _ (⟨t247, t248, (⟨t249, t250, t251⟩ : S23), t252⟩ : S26) (Kd.N_reads' (Kd.N_mono (ok' := (fun _ => True)) (HO254.out) (fun k_ hk => trivial))).2.1 (Kd.N_F (Kd.N_mono (ok' := (fun _ => True)) (HO254.out) (fun k_ hk => trivial))))) (Reps.c6 (show Kd.FK k26 _ _ (⟨t255, t256, (⟨t257, t258, t259⟩ : S23), t260⟩ : S26) [.int .i64 t255, .string t256, .int .i64 t257, .int .i64 t258, .string t259, .slice Ao13 t260.length co13] from (k26_mkF _ _ (⟨t255, t256, (⟨t257, t258, t259⟩ : S23), t260⟩ : S26) (Kd.N_reads' (Kd.N_mono (ok' := (fun _ => True)) (HO262.out) (fun k_ hk => trivial))).2.1 (Kd.N_F (Kd.N_mono (ok' := (fun _ => True)) (HO262.out) (fun k_ hk => trivial))))) (Reps.none _ _)))); intro v264 w14 ho15 hb hg_ hnew_; clear hg_ hnew_; (first | rw [← Ny263.out] at ho15 | (simp only [Int.reduceToNat] at ho15; rw [← Ny263.out] at ho15)); have n0_ := aM (Kd.N_lower ho15 (below_size (lO HB))); have n1_ := aM (below_step (lO HB) hb); clear HB; clear HO254; clear HO262; have HO265 := n0_; have HB := n1_; clear n0_ n1_; clear hb ho15; obtain ⟨Ao16, co16, eo16⟩ := Kd.N_slice HO265.out; subst eo16) | ((with_reducible refine gate_callee (f := 21) rfl ?_); refine gL (some 11) rfl rfl Try.func21 (by kernel_rfl) rfl #[.string (⟨#[79, 82]⟩ : ByteArray), .slice Ao16 y263.length co16] rfl ?_; (with_reducible refine (antipodelaw19_op.calls (⟨#[79, 82]⟩ : ByteArray) (fun k_ => True) _ _ y263 t266 t267 t268 t269 t270 t271 _ ?side1 A3.out).mono ?_); (case side1 => exact Kd.N_V (HO265.out)); rintro e w17 ⟨v272, rfl, ho0, hb⟩; refine ⟨_, rfl, ?_⟩; have n0_ := aM (Kd.N_below (nO HO265) hb); have n1_ := aM (Kd.V_lower (Kd.V_mono (ok' := fun k_ => True) ho0 (fun k_ hk_ => trivial)) (below_size (lO HB))); have n2_ := aM (below_step (lO HB) hb); clear HO265; clear HB; have HO265 := n0_; have HO273 := n1_; have HB := n2_; clear n0_ n1_ n2_; (try clear hb); (try clear hb2); (try clear hk); (try clear hi); (try clear ho0)) | ((with_reducible refine gate_dst (N := 1) rfl ?_); refine bE (N := 1) (cs := #[.int .i64 0, .string (⟨#[]⟩ : ByteArray), .int .i64 0, .int .i64 0, .string (⟨#[]⟩ : ByteArray), .slice none 0 0]) (t := 26) ?_; intro gb274 hg w18 hbox hb; have n0_ := aM (Kd.N_below (Kd.N_elderB (nO HO265) gb274 (Nat.le_of_eq hg.symm)) hb); have n1_ := aM (Kd.V_below (Kd.V_elderB (vO HO273) gb274 (Nat.le_of_eq hg.symm)) hb); have n2_ := aM (below_step (lO HB) hb); have n3_ := aM (hbox); have n4_ := aM (gO hg (lO HB)); have n5_ := aM (gO hg (lO HB)); clear HO265; clear HO273; clear HB; have HO265 := n0_; have HO273 := n1_; have HB := n2_; have BK274 := n3_; have GW274 := n4_; have GE274 := n5_; clear n0_ n1_ n2_ n3_ n4_ n5_; clear hb hbox hg; have C19_0 := c6_0 BK274; have C19_1 := c6_1 BK274; have C19_2 := c6_2 BK274; have C19_3 := c6_3 BK274; have C19_4 := c6_4 BK274; have C19_5 := c6_5 BK274; have F19_0 := fz BK274 0; have F19_1 := fz BK274 1; have F19_2 := fz BK274 2; have F19_3 := fz BK274 3; have F19_4 := fz BK274 4; have F19_5 := fz BK274 5; obtain ⟨Ao20, co20, eo20⟩ := Kd.V_slice HO273.out; subst eo20))
  have n0_ : Aside0 (Kd.N k26 26 ((((((w18.setCell ⟨gb274, 0, none⟩ (.int .i64 t266)).setCell ⟨gb274, 1, none⟩ (.string t267)).setCell ⟨gb274, 2, none⟩ (.int .i64 t268)).setCell ⟨gb274, 3, none⟩ (.int .i64 t269)).setCell ⟨gb274, 4, none⟩ (.string t270)).setCell ⟨gb274, 5, none⟩ (.slice Ao20 t271.length co20)) w.heap.size (fun k_ => k_ ≠ gb274) (.slice Ao16 y263.length co16) y263) := ⟨by (with_reducible repeat (first | apply Kd.N_alloc | apply Kd.N_drewN | apply Kd.N_drew)); exact Kd.N_mono (Kd.N_far (p := ⟨gb274, 5, none⟩) (Kd.N_far (p := ⟨gb274, 4, none⟩) (Kd.N_far (p := ⟨gb274, 3, none⟩) (Kd.N_far (p := ⟨gb274, 2, none⟩) (Kd.N_far (p := ⟨gb274, 1, none⟩) (Kd.N_far (p := ⟨gb274, 0, none⟩) (Kd.N_mono HO265.out (fun k_ hk => (⟨hk, hk.2⟩ : _ ∧ k_ ≠ gb274))) (fun _ hk => hk.2) (.int .i64 t266)) (fun _ hk => hk.2) (.string t267)) (fun _ hk => hk.2) (.int .i64 t268)) (fun _ hk => hk.2) (.int .i64 t269)) (fun _ hk => hk.2) (.string t270)) (fun _ hk => hk.2) (.slice Ao20 t271.length co20)) (fun _ hk => hk.1.2)⟩
  have n1_ : Aside0 (Kd.V k26 26 ((((((w18.setCell ⟨gb274, 0, none⟩ (.int .i64 t266)).setCell ⟨gb274, 1, none⟩ (.string t267)).setCell ⟨gb274, 2, none⟩ (.int .i64 t268)).setCell ⟨gb274, 3, none⟩ (.int .i64 t269)).setCell ⟨gb274, 4, none⟩ (.string t270)).setCell ⟨gb274, 5, none⟩ (.slice Ao20 t271.length co20)) w.heap.size (fun k_ => k_ ≠ gb274) (.slice Ao20 t271.length co20) t271) := ⟨by (with_reducible repeat (first | apply Kd.V_alloc | apply Kd.V_drewN | apply Kd.V_drew)); exact Kd.V_mono (Kd.V_far (p := ⟨gb274, 5, none⟩) (Kd.V_far (p := ⟨gb274, 4, none⟩) (Kd.V_far (p := ⟨gb274, 3, none⟩) (Kd.V_far (p := ⟨gb274, 2, none⟩) (Kd.V_far (p := ⟨gb274, 1, none⟩) (Kd.V_far (p := ⟨gb274, 0, none⟩) (Kd.V_mono HO273.out (fun k_ hk => (⟨hk, hk.2⟩ : _ ∧ k_ ≠ gb274))) (fun _ hk => hk.2) (.int .i64 t266)) (fun _ hk => hk.2) (.string t267)) (fun _ hk => hk.2) (.int .i64 t268)) (fun _ hk => hk.2) (.int .i64 t269)) (fun _ hk => hk.2) (.string t270)) (fun _ hk => hk.2) (.slice Ao20 t271.length co20)) (fun _ hk => hk.1.2)⟩
  have n2_ : Aside0 (((((((w18.setCell ⟨gb274, 0, none⟩ (.int .i64 t266)).setCell ⟨gb274, 1, none⟩ (.string t267)).setCell ⟨gb274, 2, none⟩ (.int .i64 t268)).setCell ⟨gb274, 3, none⟩ (.int .i64 t269)).setCell ⟨gb274, 4, none⟩ (.string t270)).setCell ⟨gb274, 5, none⟩ (.slice Ao20 t271.length co20)).heap[gb274]? = some (.cells #[.int .i64 t266, .string t267, .int .i64 t268, .int .i64 t269, .string t270, .slice Ao20 t271.length co20] 26 (0, 0))) := ⟨by (with_reducible repeat (first | refine blk_drewN ?_ _ | refine blk_drew ?_ | refine blk_alloc ?_ _)); refine blk_put (cs := #[.int .i64 t266, .string t267, .int .i64 t268, .int .i64 t269, .string t270, .slice none 0 0]) ?_ 5 _ rfl; (with_reducible repeat (first | refine blk_drewN ?_ _ | refine blk_drew ?_ | refine blk_alloc ?_ _)); refine blk_put (cs := #[.int .i64 t266, .string t267, .int .i64 t268, .int .i64 t269, .string (⟨#[]⟩ : ByteArray), .slice none 0 0]) ?_ 4 _ rfl; (with_reducible repeat (first | refine blk_drewN ?_ _ | refine blk_drew ?_ | refine blk_alloc ?_ _)); refine blk_put (cs := #[.int .i64 t266, .string t267, .int .i64 t268, .int .i64 0, .string (⟨#[]⟩ : ByteArray), .slice none 0 0]) ?_ 3 _ rfl; (with_reducible repeat (first | refine blk_drewN ?_ _ | refine blk_drew ?_ | refine blk_alloc ?_ _)); refine blk_put (cs := #[.int .i64 t266, .string t267, .int .i64 0, .int .i64 0, .string (⟨#[]⟩ : ByteArray), .slice none 0 0]) ?_ 2 _ rfl; (with_reducible repeat (first | refine blk_drewN ?_ _ | refine blk_drew ?_ | refine blk_alloc ?_ _)); refine blk_put (cs := #[.int .i64 t266, .string (⟨#[]⟩ : ByteArray), .int .i64 0, .int .i64 0, .string (⟨#[]⟩ : ByteArray), .slice none 0 0]) ?_ 1 _ rfl; (with_reducible repeat (first | refine blk_drewN ?_ _ | refine blk_drew ?_ | refine blk_alloc ?_ _)); refine blk_put (cs := #[.int .i64 0, .string (⟨#[]⟩ : ByteArray), .int .i64 0, .int .i64 0, .string (⟨#[]⟩ : ByteArray), .slice none 0 0]) ?_ 0 _ rfl; (with_reducible repeat (first | refine blk_drewN ?_ _ | refine blk_drew ?_ | refine blk_alloc ?_ _)); exact BK274.out⟩
  have n3_ : Aside0 (Below w.heap.size w ((((((w18.setCell ⟨gb274, 0, none⟩ (.int .i64 t266)).setCell ⟨gb274, 1, none⟩ (.string t267)).setCell ⟨gb274, 2, none⟩ (.int .i64 t268)).setCell ⟨gb274, 3, none⟩ (.int .i64 t269)).setCell ⟨gb274, 4, none⟩ (.string t270)).setCell ⟨gb274, 5, none⟩ (.slice Ao20 t271.length co20))) := ⟨(lO HB)⟩
  (try clear HO265)
  (try clear HO273)
  (try clear BK274)
  (try clear HB)
  generalize ((((((w18.setCell ⟨gb274, 0, none⟩ (.int .i64 t266)).setCell ⟨gb274, 1, none⟩ (.string t267)).setCell ⟨gb274, 2, none⟩ (.int .i64 t268)).setCell ⟨gb274, 3, none⟩ (.int .i64 t269)).setCell ⟨gb274, 4, none⟩ (.string t270)).setCell ⟨gb274, 5, none⟩ (.slice Ao20 t271.length co20)) = w21 at n0_ n1_ n2_ n3_ ⊢
  have HO265 := n0_
  have HO273 := n1_
  have BK274 := n2_
  have HB := n3_
  clear n0_ n1_ n2_ n3_
  have n0_ := aM (Kd.N_drew HO265.out)
  have n1_ := aM (Kd.V_drew HO273.out)
  have n2_ := aM (blk_drew BK274.out)
  have n3_ := aM (below_drew1 HB.out)
  clear HO265
  clear HO273
  clear BK274
  clear HB
  have HO265 := n0_
  have HO273 := n1_
  have BK274 := n2_
  have HB := n3_
  clear n0_ n1_ n2_ n3_
  refine start_ (n := 10) (S := fun w' => w'.cell? ⟨gb274, 0, none⟩ = some (.int .i64 t266) ∧ w'.cell? ⟨gb274, 1, none⟩ = some (.string t267) ∧ w'.cell? ⟨gb274, 2, none⟩ = some (.int .i64 t268) ∧ w'.cell? ⟨gb274, 3, none⟩ = some (.int .i64 t269) ∧ w'.cell? ⟨gb274, 4, none⟩ = some (.string t270) ∧ w'.cell? ⟨gb274, 5, none⟩ = some (.slice Ao20 t271.length co20)) (ds := []) #[false, false, false, false, false, false, false, false, false, false] (by kernel_rfl) rfl rfl ⟨(blk_cell BK274.out 0).trans rfl, (blk_cell BK274.out 1).trans rfl, (blk_cell BK274.out 2).trans rfl, (blk_cell BK274.out 3).trans rfl, (blk_cell BK274.out 4).trans rfl, (blk_cell BK274.out 5).trans rfl⟩ (fun hHeld => ?_); refine with_tabW antipodelaw19_begun.tab2 antipodelaw19_begun.bits2 (fun HT_ HW_ => ?_)
  generalize w21.drew = w22 at HO265 HO273 BK274 HB hHeld ⊢
  refine take_ (i := 2) (N := some 15) (v := ?_) (a' := ?_) #[false, false, true, false, false, false, false, false, false, false] rfl rfl (take_ofW HT_.out HW_.out (by kernel_rfl)) (fun _ _ _ h => h) (Or.inl ⟨by rfl, ?_⟩) hHeld ?_ ?_
  rotate_left
  ·rintro w' ⟨s0, s1, s2, s3, s4, s5⟩
   go_simp
   with_reducible rfl
  rotate_left
  ·simp only [Act.put, sA, sB, sC, i64_w, i32_w]
   rfl
  refine join_ (σ := Value × Value × Value × Value × Value × Nat) 2 #[true, true, true, true, true, true, true, true, false, false] (fun s_ => [(13, .agg #[.string t275, s_.1, .int .i64 t279, .int .i64 t280, .int .i64 t281, s_.2.1, s_.2.2.1, s_.2.2.2.1, .int .i64 t291, .int .i64 t292, .int .i64 t293]), (14, s_.2.2.2.2.1), (16, .tuple #[.agg #[.int .i64 t297, .int .i64 t298, .string t299], .int .i64 t300]), (2, .pointer (some ⟨s_.2.2.2.2.2, 0, none⟩)), (12, .tuple #[.agg #[.int .i64 t297, .int .i64 t298, .string t299], .int .i64 t300]), (17, .agg #[.int .i64 t297, .int .i64 t298, .string t299]), (18, .int .i64 t300)]) (fun s_ w' => (w'.cell? ⟨gb274, 0, none⟩ = some (.int .i64 t266) ∧ w'.cell? ⟨gb274, 1, none⟩ = some (.string t267) ∧ w'.cell? ⟨gb274, 2, none⟩ = some (.int .i64 t268) ∧ w'.cell? ⟨gb274, 3, none⟩ = some (.int .i64 t269) ∧ w'.cell? ⟨gb274, 4, none⟩ = some (.string t270) ∧ w'.cell? ⟨gb274, 5, none⟩ = some (.slice Ao20 t271.length co20)) ∧ (Kd.N k26 26 w' w.heap.size (fun k_ => some k_ ≠ (s_.1 : Value).ownBlock ∧ some k_ ≠ (s_.2.1 : Value).ownBlock ∧ some k_ ≠ (s_.2.2.1 : Value).ownBlock ∧ some k_ ≠ (s_.2.2.2.1 : Value).ownBlock ∧ some k_ ≠ (s_.2.2.2.2.1 : Value).ownBlock ∧ k_ ≠ gb274 ∧ k_ ≠ s_.2.2.2.2.2) (.slice Ao16 y263.length co16) y263) ∧ (Kd.V k26 26 w' w.heap.size (fun k_ => some k_ ≠ (s_.1 : Value).ownBlock ∧ some k_ ≠ (s_.2.1 : Value).ownBlock ∧ some k_ ≠ (s_.2.2.1 : Value).ownBlock ∧ some k_ ≠ (s_.2.2.2.1 : Value).ownBlock ∧ some k_ ≠ (s_.2.2.2.2.1 : Value).ownBlock ∧ k_ ≠ gb274 ∧ k_ ≠ s_.2.2.2.2.2) (.slice Ao20 t271.length co20) t271) ∧ (Kd.R k57 57 w' w.heap.size (fun _ => True) s_.1 t276) ∧ (Kd.R (Kd.int .i64) 3 w' w.heap.size (fun k_ => some k_ ≠ (s_.2.2.1 : Value).ownBlock ∧ some k_ ≠ (s_.2.2.2.1 : Value).ownBlock) s_.2.1 t282) ∧ (Kd.R (Kd.int .i64) 3 w' w.heap.size (fun k_ => some k_ ≠ (s_.2.1 : Value).ownBlock ∧ some k_ ≠ (s_.2.2.2.1 : Value).ownBlock) s_.2.2.1 t285) ∧ (Kd.R (Kd.int .i64) 3 w' w.heap.size (fun k_ => some k_ ≠ (s_.2.1 : Value).ownBlock ∧ some k_ ≠ (s_.2.2.1 : Value).ownBlock) s_.2.2.2.1 t288) ∧ (Kd.R k23 23 w' w.heap.size (fun k_ => k_ ≠ s_.2.2.2.2.2) s_.2.2.2.2.1 y294) ∧ (w'.heap[gb274]? = some (.cells #[.int .i64 t266, .string t267, .int .i64 t268, .int .i64 t269, .string t270, .slice Ao20 t271.length co20] 26 (0, 0))) ∧ (w'.heap[s_.2.2.2.2.2]? = some (.cells #[.int .i64 0, .int .i64 0, .string (⟨#[]⟩ : ByteArray)] 23 (0, 0))) ∧ (w.heap.size ≤ s_.2.2.2.2.2) ∧ (w.heap.size ≤ s_.2.2.2.2.2) ∧ (gb274 ≠ s_.2.2.2.2.2) ∧ (s_.2.2.2.2.2 ≠ gb274) ∧ (Below w.heap.size w w')) ?_ ?_
  rotate_left
  ·intro hJ0_1_3_7
   refine join_ (σ := Value × Value × Value × Value × Value) 3 #[true, true, true, true, true, true, true, false, false, false] (fun s_ => [(13, .agg #[.string t275, s_.1, .int .i64 t279, .int .i64 t280, .int .i64 t281, s_.2.1, s_.2.2.1, s_.2.2.2.1, .int .i64 t291, .int .i64 t292, .int .i64 t293]), (14, s_.2.2.2.2), (16, .tuple #[.agg #[.int .i64 t297, .int .i64 t298, .string t299], .int .i64 t300]), (12, .tuple #[.agg #[.int .i64 t297, .int .i64 t298, .string t299], .int .i64 t300]), (17, .agg #[.int .i64 t297, .int .i64 t298, .string t299]), (18, .int .i64 t300)]) (fun s_ w' => (w'.cell? ⟨gb274, 0, none⟩ = some (.int .i64 t266) ∧ w'.cell? ⟨gb274, 1, none⟩ = some (.string t267) ∧ w'.cell? ⟨gb274, 2, none⟩ = some (.int .i64 t268) ∧ w'.cell? ⟨gb274, 3, none⟩ = some (.int .i64 t269) ∧ w'.cell? ⟨gb274, 4, none⟩ = some (.string t270) ∧ w'.cell? ⟨gb274, 5, none⟩ = some (.slice Ao20 t271.length co20)) ∧ (Kd.N k26 26 w' w.heap.size (fun k_ => some k_ ≠ (s_.1 : Value).ownBlock ∧ some k_ ≠ (s_.2.1 : Value).ownBlock ∧ some k_ ≠ (s_.2.2.1 : Value).ownBlock ∧ some k_ ≠ (s_.2.2.2.1 : Value).ownBlock ∧ some k_ ≠ (s_.2.2.2.2 : Value).ownBlock ∧ k_ ≠ gb274) (.slice Ao16 y263.length co16) y263) ∧ (Kd.V k26 26 w' w.heap.size (fun k_ => some k_ ≠ (s_.1 : Value).ownBlock ∧ some k_ ≠ (s_.2.1 : Value).ownBlock ∧ some k_ ≠ (s_.2.2.1 : Value).ownBlock ∧ some k_ ≠ (s_.2.2.2.1 : Value).ownBlock ∧ some k_ ≠ (s_.2.2.2.2 : Value).ownBlock ∧ k_ ≠ gb274) (.slice Ao20 t271.length co20) t271) ∧ (Kd.R k57 57 w' w.heap.size (fun _ => True) s_.1 t276) ∧ (Kd.R (Kd.int .i64) 3 w' w.heap.size (fun k_ => some k_ ≠ (s_.2.2.1 : Value).ownBlock ∧ some k_ ≠ (s_.2.2.2.1 : Value).ownBlock) s_.2.1 t282) ∧ (Kd.R (Kd.int .i64) 3 w' w.heap.size (fun k_ => some k_ ≠ (s_.2.1 : Value).ownBlock ∧ some k_ ≠ (s_.2.2.2.1 : Value).ownBlock) s_.2.2.1 t285) ∧ (Kd.R (Kd.int .i64) 3 w' w.heap.size (fun k_ => some k_ ≠ (s_.2.1 : Value).ownBlock ∧ some k_ ≠ (s_.2.2.1 : Value).ownBlock) s_.2.2.2.1 t288) ∧ (Kd.R k23 23 w' w.heap.size (fun _ => True) s_.2.2.2.2 y294) ∧ (w'.heap[gb274]? = some (.cells #[.int .i64 t266, .string t267, .int .i64 t268, .int .i64 t269, .string t270, .slice Ao20 t271.length co20] 26 (0, 0))) ∧ (Below w.heap.size w w')) ?_ ?_
   rotate_left
   ·intro hJ0_1_3
    refine join_ (σ := Value × Value × Value × Value × Value × Nat) 6 #[true, true, true, false, false, false, false, true, false, false] (fun s_ => [(13, .agg #[.string t275, s_.1, .int .i64 t279, .int .i64 t280, .int .i64 t281, s_.2.1, s_.2.2.1, s_.2.2.2.1, .int .i64 t291, .int .i64 t292, .int .i64 t293]), (14, s_.2.2.2.2.1), (2, .pointer (some ⟨s_.2.2.2.2.2, 0, none⟩))]) (fun s_ w' => (w'.cell? ⟨gb274, 0, none⟩ = some (.int .i64 t266) ∧ w'.cell? ⟨gb274, 1, none⟩ = some (.string t267) ∧ w'.cell? ⟨gb274, 2, none⟩ = some (.int .i64 t268) ∧ w'.cell? ⟨gb274, 3, none⟩ = some (.int .i64 t269) ∧ w'.cell? ⟨gb274, 4, none⟩ = some (.string t270) ∧ w'.cell? ⟨gb274, 5, none⟩ = some (.slice Ao20 t271.length co20)) ∧ (Kd.N k26 26 w' w.heap.size (fun k_ => some k_ ≠ (s_.1 : Value).ownBlock ∧ some k_ ≠ (s_.2.1 : Value).ownBlock ∧ some k_ ≠ (s_.2.2.1 : Value).ownBlock ∧ some k_ ≠ (s_.2.2.2.1 : Value).ownBlock ∧ some k_ ≠ (s_.2.2.2.2.1 : Value).ownBlock ∧ k_ ≠ gb274 ∧ k_ ≠ s_.2.2.2.2.2) (.slice Ao16 y263.length co16) y263) ∧ (Kd.V k26 26 w' w.heap.size (fun k_ => some k_ ≠ (s_.1 : Value).ownBlock ∧ some k_ ≠ (s_.2.1 : Value).ownBlock ∧ some k_ ≠ (s_.2.2.1 : Value).ownBlock ∧ some k_ ≠ (s_.2.2.2.1 : Value).ownBlock ∧ some k_ ≠ (s_.2.2.2.2.1 : Value).ownBlock ∧ k_ ≠ gb274 ∧ k_ ≠ s_.2.2.2.2.2) (.slice Ao20 t271.length co20) t271) ∧ (Kd.R k57 57 w' w.heap.size (fun _ => True) s_.1 t276) ∧ (Kd.R (Kd.int .i64) 3 w' w.heap.size (fun k_ => some k_ ≠ (s_.2.2.1 : Value).ownBlock ∧ some k_ ≠ (s_.2.2.2.1 : Value).ownBlock) s_.2.1 t282) ∧ (Kd.R (Kd.int .i64) 3 w' w.heap.size (fun k_ => some k_ ≠ (s_.2.1 : Value).ownBlock ∧ some k_ ≠ (s_.2.2.2.1 : Value).ownBlock) s_.2.2.1 t285) ∧ (Kd.R (Kd.int .i64) 3 w' w.heap.size (fun k_ => some k_ ≠ (s_.2.1 : Value).ownBlock ∧ some k_ ≠ (s_.2.2.1 : Value).ownBlock) s_.2.2.2.1 t288) ∧ (Kd.R k23 23 w' w.heap.size (fun k_ => k_ ≠ s_.2.2.2.2.2) s_.2.2.2.2.1 y294) ∧ (w'.heap[gb274]? = some (.cells #[.int .i64 t266, .string t267, .int .i64 t268, .int .i64 t269, .string t270, .slice Ao20 t271.length co20] 26 (0, 0))) ∧ (w'.heap[s_.2.2.2.2.2]? = some (.cells #[.int .i64 0, .int .i64 0, .string (⟨#[]⟩ : ByteArray)] 23 (0, 0))) ∧ (w.heap.size ≤ s_.2.2.2.2.2) ∧ (w.heap.size ≤ s_.2.2.2.2.2) ∧ (gb274 ≠ s_.2.2.2.2.2) ∧ (s_.2.2.2.2.2 ≠ gb274) ∧ (Below w.heap.size w w')) ?_ ?_
    rotate_left
    ·intro hJ0_1_7
     refine join_ (σ := Value × Value × Value × Value × Value) 7 #[true, true, true, false, false, false, false, false, false, false] (fun s_ => [(13, .agg #[.string t275, s_.1, .int .i64 t279, .int .i64 t280, .int .i64 t281, s_.2.1, s_.2.2.1, s_.2.2.2.1, .int .i64 t291, .int .i64 t292, .int .i64 t293]), (14, s_.2.2.2.2)]) (fun s_ w' => (w'.cell? ⟨gb274, 0, none⟩ = some (.int .i64 t266) ∧ w'.cell? ⟨gb274, 1, none⟩ = some (.string t267) ∧ w'.cell? ⟨gb274, 2, none⟩ = some (.int .i64 t268) ∧ w'.cell? ⟨gb274, 3, none⟩ = some (.int .i64 t269) ∧ w'.cell? ⟨gb274, 4, none⟩ = some (.string t270) ∧ w'.cell? ⟨gb274, 5, none⟩ = some (.slice Ao20 t271.length co20)) ∧ (Kd.N k26 26 w' w.heap.size (fun k_ => some k_ ≠ (s_.1 : Value).ownBlock ∧ some k_ ≠ (s_.2.1 : Value).ownBlock ∧ some k_ ≠ (s_.2.2.1 : Value).ownBlock ∧ some k_ ≠ (s_.2.2.2.1 : Value).ownBlock ∧ some k_ ≠ (s_.2.2.2.2 : Value).ownBlock ∧ k_ ≠ gb274) (.slice Ao16 y263.length co16) y263) ∧ (Kd.V k26 26 w' w.heap.size (fun k_ => some k_ ≠ (s_.1 : Value).ownBlock ∧ some k_ ≠ (s_.2.1 : Value).ownBlock ∧ some k_ ≠ (s_.2.2.1 : Value).ownBlock ∧ some k_ ≠ (s_.2.2.2.1 : Value).ownBlock ∧ some k_ ≠ (s_.2.2.2.2 : Value).ownBlock ∧ k_ ≠ gb274) (.slice Ao20 t271.length co20) t271) ∧ (Kd.R k57 57 w' w.heap.size (fun _ => True) s_.1 t276) ∧ (Kd.R (Kd.int .i64) 3 w' w.heap.size (fun k_ => some k_ ≠ (s_.2.2.1 : Value).ownBlock ∧ some k_ ≠ (s_.2.2.2.1 : Value).ownBlock) s_.2.1 t282) ∧ (Kd.R (Kd.int .i64) 3 w' w.heap.size (fun k_ => some k_ ≠ (s_.2.1 : Value).ownBlock ∧ some k_ ≠ (s_.2.2.2.1 : Value).ownBlock) s_.2.2.1 t285) ∧ (Kd.R (Kd.int .i64) 3 w' w.heap.size (fun k_ => some k_ ≠ (s_.2.1 : Value).ownBlock ∧ some k_ ≠ (s_.2.2.1 : Value).ownBlock) s_.2.2.2.1 t288) ∧ (Kd.R k23 23 w' w.heap.size (fun _ => True) s_.2.2.2.2 y294) ∧ (w'.heap[gb274]? = some (.cells #[.int .i64 t266, .string t267, .int .i64 t268, .int .i64 t269, .string t270, .slice Ao20 t271.length co20] 26 (0, 0))) ∧ (Below w.heap.size w w')) ?_ ?_
     rotate_left
     ·intro hJ0_1
      refine join_ (σ := Value × Value × Value × Value × Nat) 7 #[true, false, true, false, false, false, false, true, false, false] (fun s_ => [(13, .agg #[.string t275, s_.1, .int .i64 t279, .int .i64 t280, .int .i64 t281, s_.2.1, s_.2.2.1, s_.2.2.2.1, .int .i64 t291, .int .i64 t292, .int .i64 t293]), (2, .pointer (some ⟨s_.2.2.2.2, 0, none⟩))]) (fun s_ w' => (w'.cell? ⟨gb274, 0, none⟩ = some (.int .i64 t266) ∧ w'.cell? ⟨gb274, 1, none⟩ = some (.string t267) ∧ w'.cell? ⟨gb274, 2, none⟩ = some (.int .i64 t268) ∧ w'.cell? ⟨gb274, 3, none⟩ = some (.int .i64 t269) ∧ w'.cell? ⟨gb274, 4, none⟩ = some (.string t270) ∧ w'.cell? ⟨gb274, 5, none⟩ = some (.slice Ao20 t271.length co20)) ∧ (Kd.N k26 26 w' w.heap.size (fun k_ => some k_ ≠ (s_.1 : Value).ownBlock ∧ some k_ ≠ (s_.2.1 : Value).ownBlock ∧ some k_ ≠ (s_.2.2.1 : Value).ownBlock ∧ some k_ ≠ (s_.2.2.2.1 : Value).ownBlock ∧ k_ ≠ gb274 ∧ k_ ≠ s_.2.2.2.2) (.slice Ao16 y263.length co16) y263) ∧ (Kd.V k26 26 w' w.heap.size (fun k_ => some k_ ≠ (s_.1 : Value).ownBlock ∧ some k_ ≠ (s_.2.1 : Value).ownBlock ∧ some k_ ≠ (s_.2.2.1 : Value).ownBlock ∧ some k_ ≠ (s_.2.2.2.1 : Value).ownBlock ∧ k_ ≠ gb274 ∧ k_ ≠ s_.2.2.2.2) (.slice Ao20 t271.length co20) t271) ∧ (Kd.R k57 57 w' w.heap.size (fun _ => True) s_.1 t276) ∧ (Kd.R (Kd.int .i64) 3 w' w.heap.size (fun k_ => some k_ ≠ (s_.2.2.1 : Value).ownBlock ∧ some k_ ≠ (s_.2.2.2.1 : Value).ownBlock) s_.2.1 t282) ∧ (Kd.R (Kd.int .i64) 3 w' w.heap.size (fun k_ => some k_ ≠ (s_.2.1 : Value).ownBlock ∧ some k_ ≠ (s_.2.2.2.1 : Value).ownBlock) s_.2.2.1 t285) ∧ (Kd.R (Kd.int .i64) 3 w' w.heap.size (fun k_ => some k_ ≠ (s_.2.1 : Value).ownBlock ∧ some k_ ≠ (s_.2.2.1 : Value).ownBlock) s_.2.2.2.1 t288) ∧ (w'.heap[gb274]? = some (.cells #[.int .i64 t266, .string t267, .int .i64 t268, .int .i64 t269, .string t270, .slice Ao20 t271.length co20] 26 (0, 0))) ∧ (w'.heap[s_.2.2.2.2]? = some (.cells #[.int .i64 0, .int .i64 0, .string (⟨#[]⟩ : ByteArray)] 23 (0, 0))) ∧ (w.heap.size ≤ s_.2.2.2.2) ∧ (w.heap.size ≤ s_.2.2.2.2) ∧ (gb274 ≠ s_.2.2.2.2) ∧ (s_.2.2.2.2 ≠ gb274) ∧ (Below w.heap.size w w')) ?_ ?_
      rotate_left
      ·intro hJ0_7
       refine join_ (σ := Value × Nat) 7 #[false, true, true, false, false, false, false, true, false, false] (fun s_ => [(14, s_.1), (2, .pointer (some ⟨s_.2, 0, none⟩))]) (fun s_ w' => (w'.cell? ⟨gb274, 0, none⟩ = some (.int .i64 t266) ∧ w'.cell? ⟨gb274, 1, none⟩ = some (.string t267) ∧ w'.cell? ⟨gb274, 2, none⟩ = some (.int .i64 t268) ∧ w'.cell? ⟨gb274, 3, none⟩ = some (.int .i64 t269) ∧ w'.cell? ⟨gb274, 4, none⟩ = some (.string t270) ∧ w'.cell? ⟨gb274, 5, none⟩ = some (.slice Ao20 t271.length co20)) ∧ (Kd.N k26 26 w' w.heap.size (fun k_ => some k_ ≠ (s_.1 : Value).ownBlock ∧ k_ ≠ gb274 ∧ k_ ≠ s_.2) (.slice Ao16 y263.length co16) y263) ∧ (Kd.V k26 26 w' w.heap.size (fun k_ => some k_ ≠ (s_.1 : Value).ownBlock ∧ k_ ≠ gb274 ∧ k_ ≠ s_.2) (.slice Ao20 t271.length co20) t271) ∧ (Kd.R k23 23 w' w.heap.size (fun k_ => k_ ≠ s_.2) s_.1 y294) ∧ (w'.heap[gb274]? = some (.cells #[.int .i64 t266, .string t267, .int .i64 t268, .int .i64 t269, .string t270, .slice Ao20 t271.length co20] 26 (0, 0))) ∧ (w'.heap[s_.2]? = some (.cells #[.int .i64 0, .int .i64 0, .string (⟨#[]⟩ : ByteArray)] 23 (0, 0))) ∧ (w.heap.size ≤ s_.2) ∧ (w.heap.size ≤ s_.2) ∧ (gb274 ≠ s_.2) ∧ (s_.2 ≠ gb274) ∧ (Below w.heap.size w w')) ?_ ?_
       rotate_left
       ·intro hJ1_7
        refine join_ (σ := Value × Value × Value × Value) 8 #[true, false, true, false, false, false, false, false, false, false] (fun s_ => [(13, .agg #[.string t275, s_.1, .int .i64 t279, .int .i64 t280, .int .i64 t281, s_.2.1, s_.2.2.1, s_.2.2.2, .int .i64 t291, .int .i64 t292, .int .i64 t293])]) (fun s_ w' => (w'.cell? ⟨gb274, 0, none⟩ = some (.int .i64 t266) ∧ w'.cell? ⟨gb274, 1, none⟩ = some (.string t267) ∧ w'.cell? ⟨gb274, 2, none⟩ = some (.int .i64 t268) ∧ w'.cell? ⟨gb274, 3, none⟩ = some (.int .i64 t269) ∧ w'.cell? ⟨gb274, 4, none⟩ = some (.string t270) ∧ w'.cell? ⟨gb274, 5, none⟩ = some (.slice Ao20 t271.length co20)) ∧ (Kd.N k26 26 w' w.heap.size (fun k_ => some k_ ≠ (s_.1 : Value).ownBlock ∧ some k_ ≠ (s_.2.1 : Value).ownBlock ∧ some k_ ≠ (s_.2.2.1 : Value).ownBlock ∧ some k_ ≠ (s_.2.2.2 : Value).ownBlock ∧ k_ ≠ gb274) (.slice Ao16 y263.length co16) y263) ∧ (Kd.V k26 26 w' w.heap.size (fun k_ => some k_ ≠ (s_.1 : Value).ownBlock ∧ some k_ ≠ (s_.2.1 : Value).ownBlock ∧ some k_ ≠ (s_.2.2.1 : Value).ownBlock ∧ some k_ ≠ (s_.2.2.2 : Value).ownBlock ∧ k_ ≠ gb274) (.slice Ao20 t271.length co20) t271) ∧ (Kd.R k57 57 w' w.heap.size (fun _ => True) s_.1 t276) ∧ (Kd.R (Kd.int .i64) 3 w' w.heap.size (fun k_ => some k_ ≠ (s_.2.2.1 : Value).ownBlock ∧ some k_ ≠ (s_.2.2.2 : Value).ownBlock) s_.2.1 t282) ∧ (Kd.R (Kd.int .i64) 3 w' w.heap.size (fun k_ => some k_ ≠ (s_.2.1 : Value).ownBlock ∧ some k_ ≠ (s_.2.2.2 : Value).ownBlock) s_.2.2.1 t285) ∧ (Kd.R (Kd.int .i64) 3 w' w.heap.size (fun k_ => some k_ ≠ (s_.2.1 : Value).ownBlock ∧ some k_ ≠ (s_.2.2.1 : Value).ownBlock) s_.2.2.2 t288) ∧ (w'.heap[gb274]? = some (.cells #[.int .i64 t266, .string t267, .int .i64 t268, .int .i64 t269, .string t270, .slice Ao20 t271.length co20] 26 (0, 0))) ∧ (Below w.heap.size w w')) ?_ ?_
        rotate_left
        ·intro hJ0
         refine join_ (σ := Value) 8 #[false, true, true, false, false, false, false, false, false, false] (fun s_ => [(14, s_)]) (fun s_ w' => (w'.cell? ⟨gb274, 0, none⟩ = some (.int .i64 t266) ∧ w'.cell? ⟨gb274, 1, none⟩ = some (.string t267) ∧ w'.cell? ⟨gb274, 2, none⟩ = some (.int .i64 t268) ∧ w'.cell? ⟨gb274, 3, none⟩ = some (.int .i64 t269) ∧ w'.cell? ⟨gb274, 4, none⟩ = some (.string t270) ∧ w'.cell? ⟨gb274, 5, none⟩ = some (.slice Ao20 t271.length co20)) ∧ (Kd.N k26 26 w' w.heap.size (fun k_ => some k_ ≠ (s_ : Value).ownBlock ∧ k_ ≠ gb274) (.slice Ao16 y263.length co16) y263) ∧ (Kd.V k26 26 w' w.heap.size (fun k_ => some k_ ≠ (s_ : Value).ownBlock ∧ k_ ≠ gb274) (.slice Ao20 t271.length co20) t271) ∧ (Kd.R k23 23 w' w.heap.size (fun _ => True) s_ y294) ∧ (w'.heap[gb274]? = some (.cells #[.int .i64 t266, .string t267, .int .i64 t268, .int .i64 t269, .string t270, .slice Ao20 t271.length co20] 26 (0, 0))) ∧ (Below w.heap.size w w')) ?_ ?_
         rotate_left
         ·intro hJ1
          refine join_ (σ := Nat) 8 #[false, false, true, false, false, false, false, true, false, false] (fun s_ => [(2, .pointer (some ⟨s_, 0, none⟩))]) (fun s_ w' => (w'.cell? ⟨gb274, 0, none⟩ = some (.int .i64 t266) ∧ w'.cell? ⟨gb274, 1, none⟩ = some (.string t267) ∧ w'.cell? ⟨gb274, 2, none⟩ = some (.int .i64 t268) ∧ w'.cell? ⟨gb274, 3, none⟩ = some (.int .i64 t269) ∧ w'.cell? ⟨gb274, 4, none⟩ = some (.string t270) ∧ w'.cell? ⟨gb274, 5, none⟩ = some (.slice Ao20 t271.length co20)) ∧ (Kd.N k26 26 w' w.heap.size (fun k_ => k_ ≠ gb274 ∧ k_ ≠ s_) (.slice Ao16 y263.length co16) y263) ∧ (Kd.V k26 26 w' w.heap.size (fun k_ => k_ ≠ gb274 ∧ k_ ≠ s_) (.slice Ao20 t271.length co20) t271) ∧ (w'.heap[gb274]? = some (.cells #[.int .i64 t266, .string t267, .int .i64 t268, .int .i64 t269, .string t270, .slice Ao20 t271.length co20] 26 (0, 0))) ∧ (w'.heap[s_]? = some (.cells #[.int .i64 0, .int .i64 0, .string (⟨#[]⟩ : ByteArray)] 23 (0, 0))) ∧ (w.heap.size ≤ s_) ∧ (w.heap.size ≤ s_) ∧ (gb274 ≠ s_) ∧ (s_ ≠ gb274) ∧ (Below w.heap.size w w')) ?_ ?_
          rotate_left
          ·intro hJ7
           refine three_ (i := 0) (j := 1) (k := 7) (Ni := some 13) (Nj := some 14) (Nk := some 2) #[true, false, true, false, false, false, false, false, false, false] #[false, true, true, false, false, false, false, false, false, false] #[false, false, true, false, false, false, false, true, false, false] rfl rfl rfl rfl rfl rfl (three_of HT_.out (by kernel_rfl)) (by decide) (by decide) (by decide) (fun K hK => ?_) (fun K hK => ?_) (fun K hK => ?_)
           ·skip
            refine goes_ Try.func12 (by kernel_rfl) rfl #[] (by rfl) rfl rfl (by (try simp only [List.map_toArray, List.map_cons, List.map_nil]); first | done | rfl | (simp only [List.length_drop, List.length_take]; rfl)) ?_
            with_reducible refine (antipodelaw19_Table.calls  t275 t276 t279 t280 t281 t282 t285 t288 t291 t292 t293 _ A4.out).mono ?_
            rintro e w23 ⟨v277, v283, v286, v289, rfl, ho0, ho1, ho2, ho3, hb⟩
            refine ⟨_, rfl, ?_⟩
            have n0_ := aM (Kd.N_mono (Kd.N_told (Kd.N_told (Kd.N_told (Kd.N_told (Kd.N_old (nO HO265) hb) (Kd.R_base ho0)) (Kd.R_base ho1)) (Kd.R_base ho2)) (Kd.R_base ho3)) (fun _ h_ => h_.1))
            have n1_ := aM (Kd.V_mono (Kd.V_told (Kd.V_told (Kd.V_told (Kd.V_told (Kd.V_old (vO HO273) hb) (Kd.R_base ho0)) (Kd.R_base ho1)) (Kd.R_base ho2)) (Kd.R_base ho3)) (fun _ h_ => h_.1))
            have n2_ := aM (Kd.R_lower ho0 (below_size (lO HB)))
            have n3_ := aM (Kd.R_lower ho1 (below_size (lO HB)))
            have n4_ := aM (Kd.R_lower ho2 (below_size (lO HB)))
            have n5_ := aM (Kd.R_lower ho3 (below_size (lO HB)))
            have n6_ := aM (blk_below (bO BK274) hb)
            have n7_ := aM (below_step (lO HB) hb)
            clear HO265
            clear HO273
            clear BK274
            clear HB
            have HO265 := n0_
            have HO273 := n1_
            have HO278 := n2_
            have HO284 := n3_
            have HO287 := n4_
            have HO290 := n5_
            have BK274 := n6_
            have HB := n7_
            clear n0_ n1_ n2_ n3_ n4_ n5_ n6_ n7_
            (try clear hb)
            (try clear hb2)
            (try clear hk)
            (try clear hi)
            (try clear ho0)
            (try clear ho1)
            (try clear ho2)
            (try clear ho3)
            refine hK.out _ _ ⟨(blk_cell BK274.out 0).trans rfl, (blk_cell BK274.out 1).trans rfl, (blk_cell BK274.out 2).trans rfl, (blk_cell BK274.out 3).trans rfl, (blk_cell BK274.out 4).trans rfl, (blk_cell BK274.out 5).trans rfl⟩ (fun hHeld => ?_)
            clear hK K
            refine norm_ (a' := ?_) ?_ ?_
            rotate_left
            ·show Act.put _ (some 13) _ = _
             simp only [Act.put, sA, sB, sC, i64_w, i32_w]
             rfl
            exact norm_ (by first | (simp only [putAll, Act.put, sA, sB, sC]; done) | (simp only [putAll, Act.put, sA, sB, sC]; rfl)) (hJ0 (v277, v283, v286, v289) _ ⟨hHeld, (by (with_reducible repeat (first | apply Kd.N_alloc | apply Kd.N_drewN | apply Kd.N_drew)); exact Kd.N_mono HO265.out (fun _ hk => ⟨hk.1.1.1.2, ⟨hk.1.1.2, ⟨hk.1.2, ⟨hk.2, hk.1.1.1.1⟩⟩⟩⟩)), (by (with_reducible repeat (first | apply Kd.V_alloc | apply Kd.V_drewN | apply Kd.V_drew)); exact Kd.V_mono HO273.out (fun _ hk => ⟨hk.1.1.1.2, ⟨hk.1.1.2, ⟨hk.1.2, ⟨hk.2, hk.1.1.1.1⟩⟩⟩⟩)), (rO HO278), (rO HO284), (rO HO287), (rO HO290), (bO BK274), (lO HB)⟩)
           ·skip
            refine Kd.R_make_step k23 _ 23 (by rfl) (N := 14) rfl 40 _ _ rfl 3 rfl rfl Try.underlying40 (.agg #[(.int .i64 0), (.int .i64 0), (.string ⟨#[]⟩)]) 32 info23 rfl (by decide) (by omega) z23 (ok := fun _ => True) (okp := fun _ => True) (k23_mkM _ _ _ z23 ) (fun _ hk => hk) trivial (by omega) (by omega) (Below.refl _ _) (Nat.le_refl _) ?_
            intro v295 w23 ho24 hb hg_ hnew_
            clear hg_ hnew_
            (first | rw [← Ny294.out] at ho24 | (simp only [Int.reduceToNat] at ho24; rw [← Ny294.out] at ho24))
            have n0_ := aM (Kd.N_elder' (nO HO265) (Kd.R_base ho24) hb)
            have n1_ := aM (Kd.V_elder' (vO HO273) (Kd.R_base ho24) hb)
            have n2_ := aM (Kd.R_lower ho24 (below_size (lO HB)))
            have n3_ := aM (blk_below (bO BK274) hb)
            have n4_ := aM (below_step (lO HB) hb)
            clear HO265
            clear HO273
            clear BK274
            clear HB
            have HO265 := n0_
            have HO273 := n1_
            have HO296 := n2_
            have BK274 := n3_
            have HB := n4_
            clear n0_ n1_ n2_ n3_ n4_
            clear hb ho24
            refine hK.out _ _ ⟨(blk_cell BK274.out 0).trans rfl, (blk_cell BK274.out 1).trans rfl, (blk_cell BK274.out 2).trans rfl, (blk_cell BK274.out 3).trans rfl, (blk_cell BK274.out 4).trans rfl, (blk_cell BK274.out 5).trans rfl⟩ (fun hHeld => ?_)
            clear hK K
            refine norm_ (a' := ?_) ?_ ?_
            rotate_left
            ·show Act.put _ (some 14) _ = _
             simp only [Act.put, sA, sB, sC, i64_w, i32_w]
             rfl
            exact norm_ (by first | (simp only [putAll, Act.put, sA, sB, sC]; done) | (simp only [putAll, Act.put, sA, sB, sC]; rfl)) (hJ1 (v295) _ ⟨hHeld, (by (with_reducible repeat (first | apply Kd.N_alloc | apply Kd.N_drewN | apply Kd.N_drew)); exact Kd.N_mono HO265.out (fun _ hk => ⟨hk.2, hk.1⟩)), (by (with_reducible repeat (first | apply Kd.V_alloc | apply Kd.V_drewN | apply Kd.V_drew)); exact Kd.V_mono HO273.out (fun _ hk => ⟨hk.2, hk.1⟩)), (rO HO296), (bO BK274), (lO HB)⟩)
           ·skip
            refine box_step ?hg (N := 2) ?hd (cs := #[.int .i64 0, .int .i64 0, .string (⟨#[]⟩ : ByteArray)]) (t := 23) ?hr ?_; (case hd => rfl); (case hg => rfl); (case hr => first | (go_simp; done) | (go_simp; rfl))
            intro gb301 hg w23 hbox hb
            have n0_ := aM (Kd.N_below (Kd.N_elderB (nO HO265) gb301 (Nat.le_of_eq hg.symm)) hb)
            have n1_ := aM (Kd.V_below (Kd.V_elderB (vO HO273) gb301 (Nat.le_of_eq hg.symm)) hb)
            have n2_ := aM (blk_below (bO BK274) hb)
            have n3_ := aM (below_step (lO HB) hb)
            have n4_ := aM (hbox)
            have n5_ := aM (gO hg (lO HB))
            have n6_ := aM (gO hg (lO HB))
            have n7_ := aM (ne_lt hg (bO BK274))
            have n8_ := aM (ne_gt hg (bO BK274))
            clear HO265
            clear HO273
            clear BK274
            clear HB
            have HO265 := n0_
            have HO273 := n1_
            have BK274 := n2_
            have HB := n3_
            have BK301 := n4_
            have GW301 := n5_
            have GE301 := n6_
            have NB274_301 := n7_
            have NB301_274 := n8_
            clear n0_ n1_ n2_ n3_ n4_ n5_ n6_ n7_ n8_
            clear hb hbox hg
            refine hK.out _ _ ⟨(blk_cell BK274.out 0).trans rfl, (blk_cell BK274.out 1).trans rfl, (blk_cell BK274.out 2).trans rfl, (blk_cell BK274.out 3).trans rfl, (blk_cell BK274.out 4).trans rfl, (blk_cell BK274.out 5).trans rfl⟩ (fun hHeld => ?_)
            clear hK K
            refine norm_ (a' := ?_) ?_ ?_
            rotate_left
            ·show Act.put _ (some 2) _ = _
             simp only [Act.put, sA, sB, sC, i64_w, i32_w]
             rfl
            exact norm_ (by first | (simp only [putAll, Act.put, sA, sB, sC]; done) | (simp only [putAll, Act.put, sA, sB, sC]; rfl)) (hJ7 (gb301) _ ⟨hHeld, (nO HO265), (vO HO273), (bO BK274), (bO BK301), GW301.out, GE301.out, NB274_301.out, NB301_274.out, (lO HB)⟩)
          ·skip
           rintro gb301 w24 ⟨hS_, h0_, h1_, h2_, h3_, h4_, h5_, h6_, h7_, h8_⟩
           have n0_ : Aside0 (Kd.N k26 26 w24 w.heap.size (fun k_ => k_ ≠ gb274 ∧ k_ ≠ gb301) (.slice Ao16 y263.length co16) y263) := ⟨h0_⟩
           have n1_ : Aside0 (Kd.V k26 26 w24 w.heap.size (fun k_ => k_ ≠ gb274 ∧ k_ ≠ gb301) (.slice Ao20 t271.length co20) t271) := ⟨h1_⟩
           have n2_ : Aside0 (w24.heap[gb274]? = some (.cells #[.int .i64 t266, .string t267, .int .i64 t268, .int .i64 t269, .string t270, .slice Ao20 t271.length co20] 26 (0, 0))) := ⟨h2_⟩
           have n3_ : Aside0 (w24.heap[gb301]? = some (.cells #[.int .i64 0, .int .i64 0, .string (⟨#[]⟩ : ByteArray)] 23 (0, 0))) := ⟨h3_⟩
           have n4_ : Aside0 (w.heap.size ≤ gb301) := ⟨h4_⟩
           have n5_ : Aside0 (w.heap.size ≤ gb301) := ⟨h5_⟩
           have n6_ : Aside0 (gb274 ≠ gb301) := ⟨h6_⟩
           have n7_ : Aside0 (gb301 ≠ gb274) := ⟨h7_⟩
           have n8_ : Aside0 (Below w.heap.size w w24) := ⟨h8_⟩
           clear HO265
           clear HO273
           clear BK274
           clear HB
           clear h0_ h1_ h2_ h3_ h4_ h5_ h6_ h7_ h8_
           have HO265 := n0_
           have HO273 := n1_
           have BK274 := n2_
           have BK301 := n3_
           have GW301 := n4_
           have GE301 := n5_
           have NB274_301 := n6_
           have NB301_274 := n7_
           have HB := n8_
           clear n0_ n1_ n2_ n3_ n4_ n5_ n6_ n7_ n8_
           have hHeld : w24.cell? ⟨gb274, 0, none⟩ = some (.int .i64 t266) ∧ w24.cell? ⟨gb274, 1, none⟩ = some (.string t267) ∧ w24.cell? ⟨gb274, 2, none⟩ = some (.int .i64 t268) ∧ w24.cell? ⟨gb274, 3, none⟩ = some (.int .i64 t269) ∧ w24.cell? ⟨gb274, 4, none⟩ = some (.string t270) ∧ w24.cell? ⟨gb274, 5, none⟩ = some (.slice Ao20 t271.length co20) := hS_
           refine norm_ (a' := ?_) ?_ ?_
           rotate_left
           ·simp only [putAll, Act.put, sA, sB, sC]
            rfl
           refine two_ (i := 0) (j := 1) (Ni := some 13) (Nj := some 14) #[true, false, true, false, false, false, false, true, false, false] #[false, true, true, false, false, false, false, true, false, false] rfl rfl rfl rfl (two_of HT_.out (by kernel_rfl)) (by decide) (by decide) (fun K hK => ?_) (fun K hK => ?_)
           ·skip
            refine goes_ Try.func12 (by kernel_rfl) rfl #[] (by rfl) rfl rfl (by (try simp only [List.map_toArray, List.map_cons, List.map_nil]); first | done | rfl | (simp only [List.length_drop, List.length_take]; rfl)) ?_
            with_reducible refine (antipodelaw19_Table.calls  t275 t276 t279 t280 t281 t282 t285 t288 t291 t292 t293 _ A4.out).mono ?_
            rintro e w25 ⟨v277, v283, v286, v289, rfl, ho0, ho1, ho2, ho3, hb⟩
            refine ⟨_, rfl, ?_⟩
            have n0_ := aM (Kd.N_mono (Kd.N_told (Kd.N_told (Kd.N_told (Kd.N_told (Kd.N_old (nO HO265) hb) (Kd.R_base ho0)) (Kd.R_base ho1)) (Kd.R_base ho2)) (Kd.R_base ho3)) (fun _ h_ => h_.1))
            have n1_ := aM (Kd.V_mono (Kd.V_told (Kd.V_told (Kd.V_told (Kd.V_told (Kd.V_old (vO HO273) hb) (Kd.R_base ho0)) (Kd.R_base ho1)) (Kd.R_base ho2)) (Kd.R_base ho3)) (fun _ h_ => h_.1))
            have n2_ := aM (Kd.R_lower ho0 (below_size (lO HB)))
            have n3_ := aM (Kd.R_lower ho1 (below_size (lO HB)))
            have n4_ := aM (Kd.R_lower ho2 (below_size (lO HB)))
            have n5_ := aM (Kd.R_lower ho3 (below_size (lO HB)))
            have n6_ := aM (blk_below (bO BK274) hb)
            have n7_ := aM (blk_below (bO BK301) hb)
            have n8_ := aM (below_step (lO HB) hb)
            clear HO265
            clear HO273
            clear BK274
            clear BK301
            clear HB
            have HO265 := n0_
            have HO273 := n1_
            have HO278 := n2_
            have HO284 := n3_
            have HO287 := n4_
            have HO290 := n5_
            have BK274 := n6_
            have BK301 := n7_
            have HB := n8_
            clear n0_ n1_ n2_ n3_ n4_ n5_ n6_ n7_ n8_
            (try clear hb)
            (try clear hb2)
            (try clear hk)
            (try clear hi)
            (try clear ho0)
            (try clear ho1)
            (try clear ho2)
            (try clear ho3)
            refine hK.out _ _ ⟨(blk_cell BK274.out 0).trans rfl, (blk_cell BK274.out 1).trans rfl, (blk_cell BK274.out 2).trans rfl, (blk_cell BK274.out 3).trans rfl, (blk_cell BK274.out 4).trans rfl, (blk_cell BK274.out 5).trans rfl⟩ (fun hHeld => ?_)
            clear hK K
            refine norm_ (a' := ?_) ?_ ?_
            rotate_left
            ·show Act.put _ (some 13) _ = _
             simp only [Act.put, sA, sB, sC, i64_w, i32_w]
             rfl
            exact norm_ (by first | (simp only [putAll, Act.put, sA, sB, sC]; done) | (simp only [putAll, Act.put, sA, sB, sC]; rfl)) (hJ0_7 (v277, v283, v286, v289, gb301) _ ⟨hHeld, (by (with_reducible repeat (first | apply Kd.N_alloc | apply Kd.N_drewN | apply Kd.N_drew)); exact Kd.N_mono HO265.out (fun _ hk => ⟨hk.1.1.1.2, ⟨hk.1.1.2, ⟨hk.1.2, ⟨hk.2, ⟨hk.1.1.1.1.1, hk.1.1.1.1.2⟩⟩⟩⟩⟩)), (by (with_reducible repeat (first | apply Kd.V_alloc | apply Kd.V_drewN | apply Kd.V_drew)); exact Kd.V_mono HO273.out (fun _ hk => ⟨hk.1.1.1.2, ⟨hk.1.1.2, ⟨hk.1.2, ⟨hk.2, ⟨hk.1.1.1.1.1, hk.1.1.1.1.2⟩⟩⟩⟩⟩)), (rO HO278), (rO HO284), (rO HO287), (rO HO290), (bO BK274), (bO BK301), GW301.out, GE301.out, NB274_301.out, NB301_274.out, (lO HB)⟩)
           ·skip
            refine Kd.R_make_step k23 _ 23 (by rfl) (N := 14) rfl 40 _ _ rfl 3 rfl rfl Try.underlying40 (.agg #[(.int .i64 0), (.int .i64 0), (.string ⟨#[]⟩)]) 32 info23 rfl (by decide) (by omega) z23 (ok := fun _ => True) (okp := fun _ => True) (k23_mkM _ _ _ z23 ) (fun _ hk => hk) trivial (by omega) (by omega) (Below.refl _ _) (Nat.le_refl _) ?_
            intro v295 w25 ho26 hb hg_ hnew_
            clear hg_ hnew_
            (first | rw [← Ny294.out] at ho26 | (simp only [Int.reduceToNat] at ho26; rw [← Ny294.out] at ho26))
            have n0_ := aM (Kd.N_elder' (nO HO265) (Kd.R_base ho26) hb)
            have n1_ := aM (Kd.V_elder' (vO HO273) (Kd.R_base ho26) hb)
            have n2_ := aM (Kd.R_lower (Kd.R_newB ho26 (g := gb301) (o := .cells #[.int .i64 0, .int .i64 0, .string (⟨#[]⟩ : ByteArray)] 23 (0, 0)) (bO BK301)) (below_size (lO HB)))
            have n3_ := aM (blk_below (bO BK274) hb)
            have n4_ := aM (blk_below (bO BK301) hb)
            have n5_ := aM (below_step (lO HB) hb)
            clear HO265
            clear HO273
            clear BK274
            clear BK301
            clear HB
            have HO265 := n0_
            have HO273 := n1_
            have HO296 := n2_
            have BK274 := n3_
            have BK301 := n4_
            have HB := n5_
            clear n0_ n1_ n2_ n3_ n4_ n5_
            clear hb ho26
            refine hK.out _ _ ⟨(blk_cell BK274.out 0).trans rfl, (blk_cell BK274.out 1).trans rfl, (blk_cell BK274.out 2).trans rfl, (blk_cell BK274.out 3).trans rfl, (blk_cell BK274.out 4).trans rfl, (blk_cell BK274.out 5).trans rfl⟩ (fun hHeld => ?_)
            clear hK K
            refine norm_ (a' := ?_) ?_ ?_
            rotate_left
            ·show Act.put _ (some 14) _ = _
             simp only [Act.put, sA, sB, sC, i64_w, i32_w]
             rfl
            exact norm_ (by first | (simp only [putAll, Act.put, sA, sB, sC]; done) | (simp only [putAll, Act.put, sA, sB, sC]; rfl)) (hJ1_7 (v295, gb301) _ ⟨hHeld, (by (with_reducible repeat (first | apply Kd.N_alloc | apply Kd.N_drewN | apply Kd.N_drew)); exact Kd.N_mono HO265.out (fun _ hk => ⟨hk.2, ⟨hk.1.1, hk.1.2⟩⟩)), (by (with_reducible repeat (first | apply Kd.V_alloc | apply Kd.V_drewN | apply Kd.V_drew)); exact Kd.V_mono HO273.out (fun _ hk => ⟨hk.2, ⟨hk.1.1, hk.1.2⟩⟩)), (by (with_reducible repeat (first | apply Kd.R_alloc | apply Kd.R_drewN | apply Kd.R_drew)); exact Kd.R_mono HO296.out (fun _ hk => hk.2)), (bO BK274), (bO BK301), GW301.out, GE301.out, NB274_301.out, NB301_274.out, (lO HB)⟩)
         ·skip
          rintro v295 w25 ⟨hS_, h0_, h1_, h2_, h3_, h4_⟩
          have n0_ : Aside0 (Kd.N k26 26 w25 w.heap.size (fun k_ => some k_ ≠ (v295 : Value).ownBlock ∧ k_ ≠ gb274) (.slice Ao16 y263.length co16) y263) := ⟨h0_⟩
          have n1_ : Aside0 (Kd.V k26 26 w25 w.heap.size (fun k_ => some k_ ≠ (v295 : Value).ownBlock ∧ k_ ≠ gb274) (.slice Ao20 t271.length co20) t271) := ⟨h1_⟩
          have n2_ : Aside0 (Kd.R k23 23 w25 w.heap.size (fun _ => True) v295 y294) := ⟨h2_⟩
          have n3_ : Aside0 (w25.heap[gb274]? = some (.cells #[.int .i64 t266, .string t267, .int .i64 t268, .int .i64 t269, .string t270, .slice Ao20 t271.length co20] 26 (0, 0))) := ⟨h3_⟩
          have n4_ : Aside0 (Below w.heap.size w w25) := ⟨h4_⟩
          clear HO265
          clear HO273
          clear BK274
          clear HB
          clear h0_ h1_ h2_ h3_ h4_
          have HO265 := n0_
          have HO273 := n1_
          have HO296 := n2_
          have BK274 := n3_
          have HB := n4_
          clear n0_ n1_ n2_ n3_ n4_
          have hHeld : w25.cell? ⟨gb274, 0, none⟩ = some (.int .i64 t266) ∧ w25.cell? ⟨gb274, 1, none⟩ = some (.string t267) ∧ w25.cell? ⟨gb274, 2, none⟩ = some (.int .i64 t268) ∧ w25.cell? ⟨gb274, 3, none⟩ = some (.int .i64 t269) ∧ w25.cell? ⟨gb274, 4, none⟩ = some (.string t270) ∧ w25.cell? ⟨gb274, 5, none⟩ = some (.slice Ao20 t271.length co20) := hS_
          refine norm_ (a' := ?_) ?_ ?_
          rotate_left
          ·simp only [putAll, Act.put, sA, sB, sC]
           rfl
          refine two_ (i := 0) (j := 7) (Ni := some 13) (Nj := some 2) #[true, true, true, false, false, false, false, false, false, false] #[false, true, true, false, false, false, false, true, false, false] rfl rfl rfl rfl (two_of HT_.out (by kernel_rfl)) (by decide) (by decide) (fun K hK => ?_) (fun K hK => ?_)
          ·skip
           refine goes_ Try.func12 (by kernel_rfl) rfl #[] (by rfl) rfl rfl (by (try simp only [List.map_toArray, List.map_cons, List.map_nil]); first | done | rfl | (simp only [List.length_drop, List.length_take]; rfl)) ?_
           with_reducible refine (antipodelaw19_Table.calls  t275 t276 t279 t280 t281 t282 t285 t288 t291 t292 t293 _ A4.out).mono ?_
           rintro e w26 ⟨v277, v283, v286, v289, rfl, ho0, ho1, ho2, ho3, hb⟩
           refine ⟨_, rfl, ?_⟩
           have n0_ := aM (Kd.N_mono (Kd.N_told (Kd.N_told (Kd.N_told (Kd.N_told (Kd.N_old (nO HO265) hb) (Kd.R_base ho0)) (Kd.R_base ho1)) (Kd.R_base ho2)) (Kd.R_base ho3)) (fun _ h_ => h_.1))
           have n1_ := aM (Kd.V_mono (Kd.V_told (Kd.V_told (Kd.V_told (Kd.V_told (Kd.V_old (vO HO273) hb) (Kd.R_base ho0)) (Kd.R_base ho1)) (Kd.R_base ho2)) (Kd.R_base ho3)) (fun _ h_ => h_.1))
           have n2_ := aM (Kd.R_below (rO HO296) hb)
           have n3_ := aM (Kd.R_lower ho0 (below_size (lO HB)))
           have n4_ := aM (Kd.R_lower ho1 (below_size (lO HB)))
           have n5_ := aM (Kd.R_lower ho2 (below_size (lO HB)))
           have n6_ := aM (Kd.R_lower ho3 (below_size (lO HB)))
           have n7_ := aM (blk_below (bO BK274) hb)
           have n8_ := aM (below_step (lO HB) hb)
           clear HO265
           clear HO273
           clear HO296
           clear BK274
           clear HB
           have HO265 := n0_
           have HO273 := n1_
           have HO296 := n2_
           have HO278 := n3_
           have HO284 := n4_
           have HO287 := n5_
           have HO290 := n6_
           have BK274 := n7_
           have HB := n8_
           clear n0_ n1_ n2_ n3_ n4_ n5_ n6_ n7_ n8_
           (try clear hb)
           (try clear hb2)
           (try clear hk)
           (try clear hi)
           (try clear ho0)
           (try clear ho1)
           (try clear ho2)
           (try clear ho3)
           refine hK.out _ _ ⟨(blk_cell BK274.out 0).trans rfl, (blk_cell BK274.out 1).trans rfl, (blk_cell BK274.out 2).trans rfl, (blk_cell BK274.out 3).trans rfl, (blk_cell BK274.out 4).trans rfl, (blk_cell BK274.out 5).trans rfl⟩ (fun hHeld => ?_)
           clear hK K
           refine norm_ (a' := ?_) ?_ ?_
           rotate_left
           ·show Act.put _ (some 13) _ = _
            simp only [Act.put, sA, sB, sC, i64_w, i32_w]
            rfl
           exact norm_ (by first | (simp only [putAll, Act.put, sA, sB, sC]; done) | (simp only [putAll, Act.put, sA, sB, sC]; rfl)) (hJ0_1 (v277, v283, v286, v289, v295) _ ⟨hHeld, (by (with_reducible repeat (first | apply Kd.N_alloc | apply Kd.N_drewN | apply Kd.N_drew)); exact Kd.N_mono HO265.out (fun _ hk => ⟨hk.1.1.1.2, ⟨hk.1.1.2, ⟨hk.1.2, ⟨hk.2, ⟨hk.1.1.1.1.1, hk.1.1.1.1.2⟩⟩⟩⟩⟩)), (by (with_reducible repeat (first | apply Kd.V_alloc | apply Kd.V_drewN | apply Kd.V_drew)); exact Kd.V_mono HO273.out (fun _ hk => ⟨hk.1.1.1.2, ⟨hk.1.1.2, ⟨hk.1.2, ⟨hk.2, ⟨hk.1.1.1.1.1, hk.1.1.1.1.2⟩⟩⟩⟩⟩)), (rO HO278), (rO HO284), (rO HO287), (rO HO290), (rO HO296), (bO BK274), (lO HB)⟩)
          ·skip
           refine box_step ?hg (N := 2) ?hd (cs := #[.int .i64 0, .int .i64 0, .string (⟨#[]⟩ : ByteArray)]) (t := 23) ?hr ?_; (case hd => rfl); (case hg => rfl); (case hr => first | (go_simp; done) | (go_simp; rfl))
           intro gb301 hg w26 hbox hb
           have n0_ := aM (Kd.N_below (Kd.N_elderB (nO HO265) gb301 (Nat.le_of_eq hg.symm)) hb)
           have n1_ := aM (Kd.V_below (Kd.V_elderB (vO HO273) gb301 (Nat.le_of_eq hg.symm)) hb)
           have n2_ := aM (Kd.R_below (Kd.R_elderB (rO HO296) gb301 (Nat.le_of_eq hg.symm)) hb)
           have n3_ := aM (blk_below (bO BK274) hb)
           have n4_ := aM (below_step (lO HB) hb)
           have n5_ := aM (hbox)
           have n6_ := aM (gO hg (lO HB))
           have n7_ := aM (gO hg (lO HB))
           have n8_ := aM (ne_lt hg (bO BK274))
           have n9_ := aM (ne_gt hg (bO BK274))
           clear HO265
           clear HO273
           clear HO296
           clear BK274
           clear HB
           have HO265 := n0_
           have HO273 := n1_
           have HO296 := n2_
           have BK274 := n3_
           have HB := n4_
           have BK301 := n5_
           have GW301 := n6_
           have GE301 := n7_
           have NB274_301 := n8_
           have NB301_274 := n9_
           clear n0_ n1_ n2_ n3_ n4_ n5_ n6_ n7_ n8_ n9_
           clear hb hbox hg
           refine hK.out _ _ ⟨(blk_cell BK274.out 0).trans rfl, (blk_cell BK274.out 1).trans rfl, (blk_cell BK274.out 2).trans rfl, (blk_cell BK274.out 3).trans rfl, (blk_cell BK274.out 4).trans rfl, (blk_cell BK274.out 5).trans rfl⟩ (fun hHeld => ?_)
           clear hK K
           refine norm_ (a' := ?_) ?_ ?_
           rotate_left
           ·show Act.put _ (some 2) _ = _
            simp only [Act.put, sA, sB, sC, i64_w, i32_w]
            rfl
           exact norm_ (by first | (simp only [putAll, Act.put, sA, sB, sC]; done) | (simp only [putAll, Act.put, sA, sB, sC]; rfl)) (hJ1_7 (v295, gb301) _ ⟨hHeld, (by (with_reducible repeat (first | apply Kd.N_alloc | apply Kd.N_drewN | apply Kd.N_drew)); exact Kd.N_mono HO265.out (fun _ hk => ⟨hk.1.1, ⟨hk.1.2, hk.2⟩⟩)), (by (with_reducible repeat (first | apply Kd.V_alloc | apply Kd.V_drewN | apply Kd.V_drew)); exact Kd.V_mono HO273.out (fun _ hk => ⟨hk.1.1, ⟨hk.1.2, hk.2⟩⟩)), (by (with_reducible repeat (first | apply Kd.R_alloc | apply Kd.R_drewN | apply Kd.R_drew)); exact Kd.R_mono HO296.out (fun _ hk => hk.2)), (bO BK274), (bO BK301), GW301.out, GE301.out, NB274_301.out, NB301_274.out, (lO HB)⟩)
        ·skip
         rintro ⟨v277, v283, v286, v289⟩ w24 ⟨hS_, h0_, h1_, h2_, h3_, h4_, h5_, h6_, h7_⟩
         have n0_ : Aside0 (Kd.N k26 26 w24 w.heap.size (fun k_ => some k_ ≠ (v277 : Value).ownBlock ∧ some k_ ≠ (v283 : Value).ownBlock ∧ some k_ ≠ (v286 : Value).ownBlock ∧ some k_ ≠ (v289 : Value).ownBlock ∧ k_ ≠ gb274) (.slice Ao16 y263.length co16) y263) := ⟨h0_⟩
         have n1_ : Aside0 (Kd.V k26 26 w24 w.heap.size (fun k_ => some k_ ≠ (v277 : Value).ownBlock ∧ some k_ ≠ (v283 : Value).ownBlock ∧ some k_ ≠ (v286 : Value).ownBlock ∧ some k_ ≠ (v289 : Value).ownBlock ∧ k_ ≠ gb274) (.slice Ao20 t271.length co20) t271) := ⟨h1_⟩
         have n2_ : Aside0 (Kd.R k57 57 w24 w.heap.size (fun _ => True) v277 t276) := ⟨h2_⟩
         have n3_ : Aside0 (Kd.R (Kd.int .i64) 3 w24 w.heap.size (fun k_ => some k_ ≠ (v286 : Value).ownBlock ∧ some k_ ≠ (v289 : Value).ownBlock) v283 t282) := ⟨h3_⟩
         have n4_ : Aside0 (Kd.R (Kd.int .i64) 3 w24 w.heap.size (fun k_ => some k_ ≠ (v283 : Value).ownBlock ∧ some k_ ≠ (v289 : Value).ownBlock) v286 t285) := ⟨h4_⟩
         have n5_ : Aside0 (Kd.R (Kd.int .i64) 3 w24 w.heap.size (fun k_ => some k_ ≠ (v283 : Value).ownBlock ∧ some k_ ≠ (v286 : Value).ownBlock) v289 t288) := ⟨h5_⟩
         have n6_ : Aside0 (w24.heap[gb274]? = some (.cells #[.int .i64 t266, .string t267, .int .i64 t268, .int .i64 t269, .string t270, .slice Ao20 t271.length co20] 26 (0, 0))) := ⟨h6_⟩
         have n7_ : Aside0 (Below w.heap.size w w24) := ⟨h7_⟩
         clear HO265
         clear HO273
         clear BK274
         clear HB
         clear h0_ h1_ h2_ h3_ h4_ h5_ h6_ h7_
         have HO265 := n0_
         have HO273 := n1_
         have HO278 := n2_
         have HO284 := n3_
         have HO287 := n4_
         have HO290 := n5_
         have BK274 := n6_
         have HB := n7_
         clear n0_ n1_ n2_ n3_ n4_ n5_ n6_ n7_
         have hHeld : w24.cell? ⟨gb274, 0, none⟩ = some (.int .i64 t266) ∧ w24.cell? ⟨gb274, 1, none⟩ = some (.string t267) ∧ w24.cell? ⟨gb274, 2, none⟩ = some (.int .i64 t268) ∧ w24.cell? ⟨gb274, 3, none⟩ = some (.int .i64 t269) ∧ w24.cell? ⟨gb274, 4, none⟩ = some (.string t270) ∧ w24.cell? ⟨gb274, 5, none⟩ = some (.slice Ao20 t271.length co20) := hS_
         refine norm_ (a' := ?_) ?_ ?_
         rotate_left
         ·simp only [putAll, Act.put, sA, sB, sC]
          rfl
         refine two_ (i := 1) (j := 7) (Ni := some 14) (Nj := some 2) #[true, true, true, false, false, false, false, false, false, false] #[true, false, true, false, false, false, false, true, false, false] rfl rfl rfl rfl (two_of HT_.out (by kernel_rfl)) (by decide) (by decide) (fun K hK => ?_) (fun K hK => ?_)
         ·skip
          refine Kd.R_make_step k23 _ 23 (by rfl) (N := 14) rfl 40 _ _ rfl 3 rfl rfl Try.underlying40 (.agg #[(.int .i64 0), (.int .i64 0), (.string ⟨#[]⟩)]) 32 info23 rfl (by decide) (by omega) z23 (ok := fun _ => True) (okp := fun _ => True) (k23_mkM _ _ _ z23 ) (fun _ hk => hk) trivial (by omega) (by omega) (Below.refl _ _) (Nat.le_refl _) ?_
          intro v295 w25 ho26 hb hg_ hnew_
          clear hg_ hnew_
          (first | rw [← Ny294.out] at ho26 | (simp only [Int.reduceToNat] at ho26; rw [← Ny294.out] at ho26))
          have n0_ := aM (Kd.N_elder' (nO HO265) (Kd.R_base ho26) hb)
          have n1_ := aM (Kd.V_elder' (vO HO273) (Kd.R_base ho26) hb)
          have n2_ := aM (Kd.R_below (rO HO278) hb)
          have n3_ := aM (Kd.R_below (rO HO284) hb)
          have n4_ := aM (Kd.R_below (rO HO287) hb)
          have n5_ := aM (Kd.R_below (rO HO290) hb)
          have n6_ := aM (Kd.R_lower ho26 (below_size (lO HB)))
          have n7_ := aM (blk_below (bO BK274) hb)
          have n8_ := aM (below_step (lO HB) hb)
          clear HO265
          clear HO273
          clear HO278
          clear HO284
          clear HO287
          clear HO290
          clear BK274
          clear HB
          have HO265 := n0_
          have HO273 := n1_
          have HO278 := n2_
          have HO284 := n3_
          have HO287 := n4_
          have HO290 := n5_
          have HO296 := n6_
          have BK274 := n7_
          have HB := n8_
          clear n0_ n1_ n2_ n3_ n4_ n5_ n6_ n7_ n8_
          clear hb ho26
          refine hK.out _ _ ⟨(blk_cell BK274.out 0).trans rfl, (blk_cell BK274.out 1).trans rfl, (blk_cell BK274.out 2).trans rfl, (blk_cell BK274.out 3).trans rfl, (blk_cell BK274.out 4).trans rfl, (blk_cell BK274.out 5).trans rfl⟩ (fun hHeld => ?_)
          clear hK K
          refine norm_ (a' := ?_) ?_ ?_
          rotate_left
          ·show Act.put _ (some 14) _ = _
           simp only [Act.put, sA, sB, sC, i64_w, i32_w]
           rfl
          exact norm_ (by first | (simp only [putAll, Act.put, sA, sB, sC]; done) | (simp only [putAll, Act.put, sA, sB, sC]; rfl)) (hJ0_1 (v277, v283, v286, v289, v295) _ ⟨hHeld, (by (with_reducible repeat (first | apply Kd.N_alloc | apply Kd.N_drewN | apply Kd.N_drew)); exact Kd.N_mono HO265.out (fun _ hk => ⟨hk.1.1, ⟨hk.1.2.1, ⟨hk.1.2.2.1, ⟨hk.1.2.2.2.1, ⟨hk.2, hk.1.2.2.2.2⟩⟩⟩⟩⟩)), (by (with_reducible repeat (first | apply Kd.V_alloc | apply Kd.V_drewN | apply Kd.V_drew)); exact Kd.V_mono HO273.out (fun _ hk => ⟨hk.1.1, ⟨hk.1.2.1, ⟨hk.1.2.2.1, ⟨hk.1.2.2.2.1, ⟨hk.2, hk.1.2.2.2.2⟩⟩⟩⟩⟩)), (rO HO278), (rO HO284), (rO HO287), (rO HO290), (rO HO296), (bO BK274), (lO HB)⟩)
         ·skip
          refine box_step ?hg (N := 2) ?hd (cs := #[.int .i64 0, .int .i64 0, .string (⟨#[]⟩ : ByteArray)]) (t := 23) ?hr ?_; (case hd => rfl); (case hg => rfl); (case hr => first | (go_simp; done) | (go_simp; rfl))
          intro gb301 hg w25 hbox hb
          have n0_ := aM (Kd.N_below (Kd.N_elderB (nO HO265) gb301 (Nat.le_of_eq hg.symm)) hb)
          have n1_ := aM (Kd.V_below (Kd.V_elderB (vO HO273) gb301 (Nat.le_of_eq hg.symm)) hb)
          have n2_ := aM (Kd.R_below (rO HO278) hb)
          have n3_ := aM (Kd.R_below (rO HO284) hb)
          have n4_ := aM (Kd.R_below (rO HO287) hb)
          have n5_ := aM (Kd.R_below (rO HO290) hb)
          have n6_ := aM (blk_below (bO BK274) hb)
          have n7_ := aM (below_step (lO HB) hb)
          have n8_ := aM (hbox)
          have n9_ := aM (gO hg (lO HB))
          have n10_ := aM (gO hg (lO HB))
          have n11_ := aM (ne_lt hg (bO BK274))
          have n12_ := aM (ne_gt hg (bO BK274))
          clear HO265
          clear HO273
          clear HO278
          clear HO284
          clear HO287
          clear HO290
          clear BK274
          clear HB
          have HO265 := n0_
          have HO273 := n1_
          have HO278 := n2_
          have HO284 := n3_
          have HO287 := n4_
          have HO290 := n5_
          have BK274 := n6_
          have HB := n7_
          have BK301 := n8_
          have GW301 := n9_
          have GE301 := n10_
          have NB274_301 := n11_
          have NB301_274 := n12_
          clear n0_ n1_ n2_ n3_ n4_ n5_ n6_ n7_ n8_ n9_ n10_ n11_ n12_
          clear hb hbox hg
          refine hK.out _ _ ⟨(blk_cell BK274.out 0).trans rfl, (blk_cell BK274.out 1).trans rfl, (blk_cell BK274.out 2).trans rfl, (blk_cell BK274.out 3).trans rfl, (blk_cell BK274.out 4).trans rfl, (blk_cell BK274.out 5).trans rfl⟩ (fun hHeld => ?_)
          clear hK K
          refine norm_ (a' := ?_) ?_ ?_
          rotate_left
          ·show Act.put _ (some 2) _ = _
           simp only [Act.put, sA, sB, sC, i64_w, i32_w]
           rfl
          exact norm_ (by first | (simp only [putAll, Act.put, sA, sB, sC]; done) | (simp only [putAll, Act.put, sA, sB, sC]; rfl)) (hJ0_7 (v277, v283, v286, v289, gb301) _ ⟨hHeld, (by (with_reducible repeat (first | apply Kd.N_alloc | apply Kd.N_drewN | apply Kd.N_drew)); exact Kd.N_mono HO265.out (fun _ hk => ⟨hk.1.1, ⟨hk.1.2.1, ⟨hk.1.2.2.1, ⟨hk.1.2.2.2.1, ⟨hk.1.2.2.2.2, hk.2⟩⟩⟩⟩⟩)), (by (with_reducible repeat (first | apply Kd.V_alloc | apply Kd.V_drewN | apply Kd.V_drew)); exact Kd.V_mono HO273.out (fun _ hk => ⟨hk.1.1, ⟨hk.1.2.1, ⟨hk.1.2.2.1, ⟨hk.1.2.2.2.1, ⟨hk.1.2.2.2.2, hk.2⟩⟩⟩⟩⟩)), (rO HO278), (rO HO284), (rO HO287), (rO HO290), (bO BK274), (bO BK301), GW301.out, GE301.out, NB274_301.out, NB301_274.out, (lO HB)⟩)
       ·skip
        rintro ⟨v295, gb301⟩ w26 ⟨hS_, h0_, h1_, h2_, h3_, h4_, h5_, h6_, h7_, h8_, h9_⟩
        have n0_ : Aside0 (Kd.N k26 26 w26 w.heap.size (fun k_ => some k_ ≠ (v295 : Value).ownBlock ∧ k_ ≠ gb274 ∧ k_ ≠ gb301) (.slice Ao16 y263.length co16) y263) := ⟨h0_⟩
        have n1_ : Aside0 (Kd.V k26 26 w26 w.heap.size (fun k_ => some k_ ≠ (v295 : Value).ownBlock ∧ k_ ≠ gb274 ∧ k_ ≠ gb301) (.slice Ao20 t271.length co20) t271) := ⟨h1_⟩
        have n2_ : Aside0 (Kd.R k23 23 w26 w.heap.size (fun k_ => k_ ≠ gb301) v295 y294) := ⟨h2_⟩
        have n3_ : Aside0 (w26.heap[gb274]? = some (.cells #[.int .i64 t266, .string t267, .int .i64 t268, .int .i64 t269, .string t270, .slice Ao20 t271.length co20] 26 (0, 0))) := ⟨h3_⟩
        have n4_ : Aside0 (w26.heap[gb301]? = some (.cells #[.int .i64 0, .int .i64 0, .string (⟨#[]⟩ : ByteArray)] 23 (0, 0))) := ⟨h4_⟩
        have n5_ : Aside0 (w.heap.size ≤ gb301) := ⟨h5_⟩
        have n6_ : Aside0 (w.heap.size ≤ gb301) := ⟨h6_⟩
        have n7_ : Aside0 (gb274 ≠ gb301) := ⟨h7_⟩
        have n8_ : Aside0 (gb301 ≠ gb274) := ⟨h8_⟩
        have n9_ : Aside0 (Below w.heap.size w w26) := ⟨h9_⟩
        clear HO265
        clear HO273
        clear BK274
        clear HB
        clear h0_ h1_ h2_ h3_ h4_ h5_ h6_ h7_ h8_ h9_
        have HO265 := n0_
        have HO273 := n1_
        have HO296 := n2_
        have BK274 := n3_
        have BK301 := n4_
        have GW301 := n5_
        have GE301 := n6_
        have NB274_301 := n7_
        have NB301_274 := n8_
        have HB := n9_
        clear n0_ n1_ n2_ n3_ n4_ n5_ n6_ n7_ n8_ n9_
        have hHeld : w26.cell? ⟨gb274, 0, none⟩ = some (.int .i64 t266) ∧ w26.cell? ⟨gb274, 1, none⟩ = some (.string t267) ∧ w26.cell? ⟨gb274, 2, none⟩ = some (.int .i64 t268) ∧ w26.cell? ⟨gb274, 3, none⟩ = some (.int .i64 t269) ∧ w26.cell? ⟨gb274, 4, none⟩ = some (.string t270) ∧ w26.cell? ⟨gb274, 5, none⟩ = some (.slice Ao20 t271.length co20) := hS_
        refine norm_ (a' := ?_) ?_ ?_
        rotate_left
        ·simp only [putAll, Act.put, sA, sB, sC]
         rfl
        refine one_ (i := 0) (N := some 13) #[true, true, true, false, false, false, false, true, false, false] rfl rfl (one_of HT_.out (by kernel_rfl)) (by decide) (fun K hK => ?_)
        refine goes_ Try.func12 (by kernel_rfl) rfl #[] (by rfl) rfl rfl (by (try simp only [List.map_toArray, List.map_cons, List.map_nil]); first | done | rfl | (simp only [List.length_drop, List.length_take]; rfl)) ?_
        with_reducible refine (antipodelaw19_Table.calls  t275 t276 t279 t280 t281 t282 t285 t288 t291 t292 t293 _ A4.out).mono ?_
        rintro e w27 ⟨v277, v283, v286, v289, rfl, ho0, ho1, ho2, ho3, hb⟩
        refine ⟨_, rfl, ?_⟩
        have n0_ := aM (Kd.N_mono (Kd.N_told (Kd.N_told (Kd.N_told (Kd.N_told (Kd.N_old (nO HO265) hb) (Kd.R_base ho0)) (Kd.R_base ho1)) (Kd.R_base ho2)) (Kd.R_base ho3)) (fun _ h_ => h_.1))
        have n1_ := aM (Kd.V_mono (Kd.V_told (Kd.V_told (Kd.V_told (Kd.V_told (Kd.V_old (vO HO273) hb) (Kd.R_base ho0)) (Kd.R_base ho1)) (Kd.R_base ho2)) (Kd.R_base ho3)) (fun _ h_ => h_.1))
        have n2_ := aM (Kd.R_below (rO HO296) hb)
        have n3_ := aM (Kd.R_lower ho0 (below_size (lO HB)))
        have n4_ := aM (Kd.R_lower ho1 (below_size (lO HB)))
        have n5_ := aM (Kd.R_lower ho2 (below_size (lO HB)))
        have n6_ := aM (Kd.R_lower ho3 (below_size (lO HB)))
        have n7_ := aM (blk_below (bO BK274) hb)
        have n8_ := aM (blk_below (bO BK301) hb)
        have n9_ := aM (below_step (lO HB) hb)
        clear HO265
        clear HO273
        clear HO296
        clear BK274
        clear BK301
        clear HB
        have HO265 := n0_
        have HO273 := n1_
        have HO296 := n2_
        have HO278 := n3_
        have HO284 := n4_
        have HO287 := n5_
        have HO290 := n6_
        have BK274 := n7_
        have BK301 := n8_
        have HB := n9_
        clear n0_ n1_ n2_ n3_ n4_ n5_ n6_ n7_ n8_ n9_
        (try clear hb)
        (try clear hb2)
        (try clear hk)
        (try clear hi)
        (try clear ho0)
        (try clear ho1)
        (try clear ho2)
        (try clear ho3)
        refine hK.out _ _ ⟨(blk_cell BK274.out 0).trans rfl, (blk_cell BK274.out 1).trans rfl, (blk_cell BK274.out 2).trans rfl, (blk_cell BK274.out 3).trans rfl, (blk_cell BK274.out 4).trans rfl, (blk_cell BK274.out 5).trans rfl⟩ (fun hHeld => ?_)
        clear hK K
        refine norm_ (a' := ?_) ?_ ?_
        rotate_left
        ·show Act.put _ (some 13) _ = _
         simp only [Act.put, sA, sB, sC, i64_w, i32_w]
         rfl
        exact norm_ (by first | (simp only [putAll, Act.put, sA, sB, sC]; done) | (simp only [putAll, Act.put, sA, sB, sC]; rfl)) (hJ0_1_7 (v277, v283, v286, v289, v295, gb301) _ ⟨hHeld, (by (with_reducible repeat (first | apply Kd.N_alloc | apply Kd.N_drewN | apply Kd.N_drew)); exact Kd.N_mono HO265.out (fun _ hk => ⟨hk.1.1.1.2, ⟨hk.1.1.2, ⟨hk.1.2, ⟨hk.2, ⟨hk.1.1.1.1.1, ⟨hk.1.1.1.1.2.1, hk.1.1.1.1.2.2⟩⟩⟩⟩⟩⟩)), (by (with_reducible repeat (first | apply Kd.V_alloc | apply Kd.V_drewN | apply Kd.V_drew)); exact Kd.V_mono HO273.out (fun _ hk => ⟨hk.1.1.1.2, ⟨hk.1.1.2, ⟨hk.1.2, ⟨hk.2, ⟨hk.1.1.1.1.1, ⟨hk.1.1.1.1.2.1, hk.1.1.1.1.2.2⟩⟩⟩⟩⟩⟩)), (rO HO278), (rO HO284), (rO HO287), (rO HO290), (rO HO296), (bO BK274), (bO BK301), GW301.out, GE301.out, NB274_301.out, NB301_274.out, (lO HB)⟩)
      ·skip
       rintro ⟨v277, v283, v286, v289, gb301⟩ w25 ⟨hS_, h0_, h1_, h2_, h3_, h4_, h5_, h6_, h7_, h8_, h9_, h10_, h11_, h12_⟩
       have n0_ : Aside0 (Kd.N k26 26 w25 w.heap.size (fun k_ => some k_ ≠ (v277 : Value).ownBlock ∧ some k_ ≠ (v283 : Value).ownBlock ∧ some k_ ≠ (v286 : Value).ownBlock ∧ some k_ ≠ (v289 : Value).ownBlock ∧ k_ ≠ gb274 ∧ k_ ≠ gb301) (.slice Ao16 y263.length co16) y263) := ⟨h0_⟩
       have n1_ : Aside0 (Kd.V k26 26 w25 w.heap.size (fun k_ => some k_ ≠ (v277 : Value).ownBlock ∧ some k_ ≠ (v283 : Value).ownBlock ∧ some k_ ≠ (v286 : Value).ownBlock ∧ some k_ ≠ (v289 : Value).ownBlock ∧ k_ ≠ gb274 ∧ k_ ≠ gb301) (.slice Ao20 t271.length co20) t271) := ⟨h1_⟩
       have n2_ : Aside0 (Kd.R k57 57 w25 w.heap.size (fun _ => True) v277 t276) := ⟨h2_⟩
       have n3_ : Aside0 (Kd.R (Kd.int .i64) 3 w25 w.heap.size (fun k_ => some k_ ≠ (v286 : Value).ownBlock ∧ some k_ ≠ (v289 : Value).ownBlock) v283 t282) := ⟨h3_⟩
       have n4_ : Aside0 (Kd.R (Kd.int .i64) 3 w25 w.heap.size (fun k_ => some k_ ≠ (v283 : Value).ownBlock ∧ some k_ ≠ (v289 : Value).ownBlock) v286 t285) := ⟨h4_⟩
       have n5_ : Aside0 (Kd.R (Kd.int .i64) 3 w25 w.heap.size (fun k_ => some k_ ≠ (v283 : Value).ownBlock ∧ some k_ ≠ (v286 : Value).ownBlock) v289 t288) := ⟨h5_⟩
       have n6_ : Aside0 (w25.heap[gb274]? = some (.cells #[.int .i64 t266, .string t267, .int .i64 t268, .int .i64 t269, .string t270, .slice Ao20 t271.length co20] 26 (0, 0))) := ⟨h6_⟩
       have n7_ : Aside0 (w25.heap[gb301]? = some (.cells #[.int .i64 0, .int .i64 0, .string (⟨#[]⟩ : ByteArray)] 23 (0, 0))) := ⟨h7_⟩
       have n8_ : Aside0 (w.heap.size ≤ gb301) := ⟨h8_⟩
       have n9_ : Aside0 (w.heap.size ≤ gb301) := ⟨h9_⟩
       have n10_ : Aside0 (gb274 ≠ gb301) := ⟨h10_⟩
       have n11_ : Aside0 (gb301 ≠ gb274) := ⟨h11_⟩
       have n12_ : Aside0 (Below w.heap.size w w25) := ⟨h12_⟩
       clear HO265
       clear HO273
       clear BK274
       clear HB
       clear h0_ h1_ h2_ h3_ h4_ h5_ h6_ h7_ h8_ h9_ h10_ h11_ h12_
       have HO265 := n0_
       have HO273 := n1_
       have HO278 := n2_
       have HO284 := n3_
       have HO287 := n4_
       have HO290 := n5_
       have BK274 := n6_
       have BK301 := n7_
       have GW301 := n8_
       have GE301 := n9_
       have NB274_301 := n10_
       have NB301_274 := n11_
       have HB := n12_
       clear n0_ n1_ n2_ n3_ n4_ n5_ n6_ n7_ n8_ n9_ n10_ n11_ n12_
       have hHeld : w25.cell? ⟨gb274, 0, none⟩ = some (.int .i64 t266) ∧ w25.cell? ⟨gb274, 1, none⟩ = some (.string t267) ∧ w25.cell? ⟨gb274, 2, none⟩ = some (.int .i64 t268) ∧ w25.cell? ⟨gb274, 3, none⟩ = some (.int .i64 t269) ∧ w25.cell? ⟨gb274, 4, none⟩ = some (.string t270) ∧ w25.cell? ⟨gb274, 5, none⟩ = some (.slice Ao20 t271.length co20) := hS_
       refine norm_ (a' := ?_) ?_ ?_
       rotate_left
       ·simp only [putAll, Act.put, sA, sB, sC]
        rfl
       refine one_ (i := 1) (N := some 14) #[true, true, true, false, false, false, false, true, false, false] rfl rfl (one_of HT_.out (by kernel_rfl)) (by decide) (fun K hK => ?_)
       refine Kd.R_make_step k23 _ 23 (by rfl) (N := 14) rfl 40 _ _ rfl 3 rfl rfl Try.underlying40 (.agg #[(.int .i64 0), (.int .i64 0), (.string ⟨#[]⟩)]) 32 info23 rfl (by decide) (by omega) z23 (ok := fun _ => True) (okp := fun _ => True) (k23_mkM _ _ _ z23 ) (fun _ hk => hk) trivial (by omega) (by omega) (Below.refl _ _) (Nat.le_refl _) ?_
       intro v295 w26 ho27 hb hg_ hnew_
       clear hg_ hnew_
       (first | rw [← Ny294.out] at ho27 | (simp only [Int.reduceToNat] at ho27; rw [← Ny294.out] at ho27))
       have n0_ := aM (Kd.N_elder' (nO HO265) (Kd.R_base ho27) hb)
       have n1_ := aM (Kd.V_elder' (vO HO273) (Kd.R_base ho27) hb)
       have n2_ := aM (Kd.R_below (rO HO278) hb)
       have n3_ := aM (Kd.R_below (rO HO284) hb)
       have n4_ := aM (Kd.R_below (rO HO287) hb)
       have n5_ := aM (Kd.R_below (rO HO290) hb)
       have n6_ := aM (Kd.R_lower (Kd.R_newB ho27 (g := gb301) (o := .cells #[.int .i64 0, .int .i64 0, .string (⟨#[]⟩ : ByteArray)] 23 (0, 0)) (bO BK301)) (below_size (lO HB)))
       have n7_ := aM (blk_below (bO BK274) hb)
       have n8_ := aM (blk_below (bO BK301) hb)
       have n9_ := aM (below_step (lO HB) hb)
       clear HO265
       clear HO273
       clear HO278
       clear HO284
       clear HO287
       clear HO290
       clear BK274
       clear BK301
       clear HB
       have HO265 := n0_
       have HO273 := n1_
       have HO278 := n2_
       have HO284 := n3_
       have HO287 := n4_
       have HO290 := n5_
       have HO296 := n6_
       have BK274 := n7_
       have BK301 := n8_
       have HB := n9_
       clear n0_ n1_ n2_ n3_ n4_ n5_ n6_ n7_ n8_ n9_
       clear hb ho27
       refine hK.out _ _ ⟨(blk_cell BK274.out 0).trans rfl, (blk_cell BK274.out 1).trans rfl, (blk_cell BK274.out 2).trans rfl, (blk_cell BK274.out 3).trans rfl, (blk_cell BK274.out 4).trans rfl, (blk_cell BK274.out 5).trans rfl⟩ (fun hHeld => ?_)
       clear hK K
       refine norm_ (a' := ?_) ?_ ?_
       rotate_left
       ·show Act.put _ (some 14) _ = _
        simp only [Act.put, sA, sB, sC, i64_w, i32_w]
        rfl
       exact norm_ (by first | (simp only [putAll, Act.put, sA, sB, sC]; done) | (simp only [putAll, Act.put, sA, sB, sC]; rfl)) (hJ0_1_7 (v277, v283, v286, v289, v295, gb301) _ ⟨hHeld, (by (with_reducible repeat (first | apply Kd.N_alloc | apply Kd.N_drewN | apply Kd.N_drew)); exact Kd.N_mono HO265.out (fun _ hk => ⟨hk.1.1, ⟨hk.1.2.1, ⟨hk.1.2.2.1, ⟨hk.1.2.2.2.1, ⟨hk.2, ⟨hk.1.2.2.2.2.1, hk.1.2.2.2.2.2⟩⟩⟩⟩⟩⟩)), (by (with_reducible repeat (first | apply Kd.V_alloc | apply Kd.V_drewN | apply Kd.V_drew)); exact Kd.V_mono HO273.out (fun _ hk => ⟨hk.1.1, ⟨hk.1.2.1, ⟨hk.1.2.2.1, ⟨hk.1.2.2.2.1, ⟨hk.2, ⟨hk.1.2.2.2.2.1, hk.1.2.2.2.2.2⟩⟩⟩⟩⟩⟩)), (rO HO278), (rO HO284), (rO HO287), (rO HO290), (by (with_reducible repeat (first | apply Kd.R_alloc | apply Kd.R_drewN | apply Kd.R_drew)); exact Kd.R_mono HO296.out (fun _ hk => hk.2)), (bO BK274), (bO BK301), GW301.out, GE301.out, NB274_301.out, NB301_274.out, (lO HB)⟩)
     ·skip
      rintro ⟨v277, v283, v286, v289, v295⟩ w26 ⟨hS_, h0_, h1_, h2_, h3_, h4_, h5_, h6_, h7_, h8_⟩
      have n0_ : Aside0 (Kd.N k26 26 w26 w.heap.size (fun k_ => some k_ ≠ (v277 : Value).ownBlock ∧ some k_ ≠ (v283 : Value).ownBlock ∧ some k_ ≠ (v286 : Value).ownBlock ∧ some k_ ≠ (v289 : Value).ownBlock ∧ some k_ ≠ (v295 : Value).ownBlock ∧ k_ ≠ gb274) (.slice Ao16 y263.length co16) y263) := ⟨h0_⟩
      have n1_ : Aside0 (Kd.V k26 26 w26 w.heap.size (fun k_ => some k_ ≠ (v277 : Value).ownBlock ∧ some k_ ≠ (v283 : Value).ownBlock ∧ some k_ ≠ (v286 : Value).ownBlock ∧ some k_ ≠ (v289 : Value).ownBlock ∧ some k_ ≠ (v295 : Value).ownBlock ∧ k_ ≠ gb274) (.slice Ao20 t271.length co20) t271) := ⟨h1_⟩
      have n2_ : Aside0 (Kd.R k57 57 w26 w.heap.size (fun _ => True) v277 t276) := ⟨h2_⟩
      have n3_ : Aside0 (Kd.R (Kd.int .i64) 3 w26 w.heap.size (fun k_ => some k_ ≠ (v286 : Value).ownBlock ∧ some k_ ≠ (v289 : Value).ownBlock) v283 t282) := ⟨h3_⟩
      have n4_ : Aside0 (Kd.R (Kd.int .i64) 3 w26 w.heap.size (fun k_ => some k_ ≠ (v283 : Value).ownBlock ∧ some k_ ≠ (v289 : Value).ownBlock) v286 t285) := ⟨h4_⟩
      have n5_ : Aside0 (Kd.R (Kd.int .i64) 3 w26 w.heap.size (fun k_ => some k_ ≠ (v283 : Value).ownBlock ∧ some k_ ≠ (v286 : Value).ownBlock) v289 t288) := ⟨h5_⟩
      have n6_ : Aside0 (Kd.R k23 23 w26 w.heap.size (fun _ => True) v295 y294) := ⟨h6_⟩
      have n7_ : Aside0 (w26.heap[gb274]? = some (.cells #[.int .i64 t266, .string t267, .int .i64 t268, .int .i64 t269, .string t270, .slice Ao20 t271.length co20] 26 (0, 0))) := ⟨h7_⟩
      have n8_ : Aside0 (Below w.heap.size w w26) := ⟨h8_⟩
      clear HO265
      clear HO273
      clear BK274
      clear HB
      clear h0_ h1_ h2_ h3_ h4_ h5_ h6_ h7_ h8_
      have HO265 := n0_
      have HO273 := n1_
      have HO278 := n2_
      have HO284 := n3_
      have HO287 := n4_
      have HO290 := n5_
      have HO296 := n6_
      have BK274 := n7_
      have HB := n8_
      clear n0_ n1_ n2_ n3_ n4_ n5_ n6_ n7_ n8_
      have hHeld : w26.cell? ⟨gb274, 0, none⟩ = some (.int .i64 t266) ∧ w26.cell? ⟨gb274, 1, none⟩ = some (.string t267) ∧ w26.cell? ⟨gb274, 2, none⟩ = some (.int .i64 t268) ∧ w26.cell? ⟨gb274, 3, none⟩ = some (.int .i64 t269) ∧ w26.cell? ⟨gb274, 4, none⟩ = some (.string t270) ∧ w26.cell? ⟨gb274, 5, none⟩ = some (.slice Ao20 t271.length co20) := hS_
      obtain ⟨Ao27, co27, eo27⟩ := Kd.R_slice HO278.out
      (first | subst eo27 | (injection eo27 with f1_ f2_ f3_; have f4_ := f1_.symm; have f5_ := f3_.symm; clear f1_ f2_ f3_; subst f4_; subst f5_))
      obtain ⟨Ao28, co28, eo28⟩ := Kd.R_slice HO284.out
      (first | subst eo28 | (injection eo28 with f1_ f2_ f3_; have f4_ := f1_.symm; have f5_ := f3_.symm; clear f1_ f2_ f3_; subst f4_; subst f5_))
      obtain ⟨Ao29, co29, eo29⟩ := Kd.R_slice HO287.out
      (first | subst eo29 | (injection eo29 with f1_ f2_ f3_; have f4_ := f1_.symm; have f5_ := f3_.symm; clear f1_ f2_ f3_; subst f4_; subst f5_))
      obtain ⟨Ao30, co30, eo30⟩ := Kd.R_slice HO290.out
      (first | subst eo30 | (injection eo30 with f1_ f2_ f3_; have f4_ := f1_.symm; have f5_ := f3_.symm; clear f1_ f2_ f3_; subst f4_; subst f5_))
      obtain ⟨Ao31, co31, eo31⟩ := Kd.R_slice HO296.out
      (first | subst eo31 | (injection eo31 with f1_ f2_ f3_; have f4_ := f1_.symm; have f5_ := f3_.symm; clear f1_ f2_ f3_; subst f4_; subst f5_))
      refine norm_ (a' := ?_) ?_ ?_
      rotate_left
      ·simp only [putAll, Act.put, sA, sB, sC]
       rfl
      refine two_ (i := 3) (j := 7) (Ni := some 16) (Nj := some 2) #[true, true, true, true, false, false, false, false, false, false] #[true, true, true, false, false, false, false, true, false, false] rfl rfl rfl rfl (two_of HT_.out (by kernel_rfl)) (by decide) (by decide) (fun K hK => ?_) (fun K hK => ?_)
      ·skip
       refine goes_ Try.func15 (by kernel_rfl) rfl #[.agg #[.string t275, .slice Ao27 t276.length co27, .int .i64 t279, .int .i64 t280, .int .i64 t281, .slice Ao28 t282.length co28, .slice Ao29 t285.length co29, .slice Ao30 t288.length co30, .int .i64 t291, .int .i64 t292, .int .i64 t293], .slice Ao31 y294.length co31, .agg #[.int .i64 t266, .string t267, .int .i64 t268, .int .i64 t269, .string t270, .slice Ao20 t271.length co20]] (by rfl) rfl rfl (by (try simp only [List.map_toArray, List.map_cons, List.map_nil]); first | done | rfl | (simp only [List.length_drop, List.length_take]; rfl)) ?_
       with_reducible refine (expr_Eval.calls k t275 _ _ t276 t279 t280 t281 _ _ t282 _ _ t285 _ _ t288 t291 t292 t293 _ _ y294 t266 t267 t268 t269 t270 _ _ t271 t297 t298 t299 t300 _ ?side1 ?side2 ?side3 ?side4 ?side5 ?side6 ?side7 ?side8 ?side9 ?side10 ?side11 ?side12 A6.out).mono ?_
       (case side1 => exact cO (Kd.R_reads' HO278.out).2.2)
       (case side2 => exact (Kd.R_reads' HO278.out).2.1)
       (case side3 => exact cO (Kd.R_reads' HO284.out).2.2)
       (case side4 => exact (Kd.R_reads' HO284.out).2.1)
       (case side5 => exact cO (Kd.R_reads' HO287.out).2.2)
       (case side6 => exact (Kd.R_reads' HO287.out).2.1)
       (case side7 => exact cO (Kd.R_reads' HO290.out).2.2)
       (case side8 => exact (Kd.R_reads' HO290.out).2.1)
       (case side9 => exact cO (Kd.R_reads' HO296.out).2.2)
       (case side10 => exact (Kd.R_reads' HO296.out).2.1)
       (case side11 => exact cO (Kd.V_reads' HO273.out).2.2)
       (case side12 => exact (Kd.V_reads' HO273.out).2.1)
       rintro e w32 ⟨rfl, hb⟩
       refine ⟨_, rfl, ?_⟩
       have n0_ := aM (Kd.N_below (nO HO265) hb)
       have n1_ := aM (Kd.V_below (vO HO273) hb)
       have n2_ := aM (Kd.R_below (rO HO278) hb)
       have n3_ := aM (Kd.R_below (rO HO284) hb)
       have n4_ := aM (Kd.R_below (rO HO287) hb)
       have n5_ := aM (Kd.R_below (rO HO290) hb)
       have n6_ := aM (Kd.R_below (rO HO296) hb)
       have n7_ := aM (blk_below (bO BK274) hb)
       have n8_ := aM (below_step (lO HB) hb)
       clear HO265
       clear HO273
       clear HO278
       clear HO284
       clear HO287
       clear HO290
       clear HO296
       clear BK274
       clear HB
       have HO265 := n0_
       have HO273 := n1_
       have HO278 := n2_
       have HO284 := n3_
       have HO287 := n4_
       have HO290 := n5_
       have HO296 := n6_
       have BK274 := n7_
       have HB := n8_
       clear n0_ n1_ n2_ n3_ n4_ n5_ n6_ n7_ n8_
       (try clear hb)
       (try clear hb2)
       (try clear hk)
       (try clear hi)
       refine hK.out _ _ ⟨(blk_cell BK274.out 0).trans rfl, (blk_cell BK274.out 1).trans rfl, (blk_cell BK274.out 2).trans rfl, (blk_cell BK274.out 3).trans rfl, (blk_cell BK274.out 4).trans rfl, (blk_cell BK274.out 5).trans rfl⟩ (fun hHeld => ?_)
       clear hK K
       refine norm_ (a' := ?_) ?_ ?_
       rotate_left
       ·show Act.put _ (some 16) _ = _
        simp only [Act.put, sA, sB, sC, i64_w, i32_w]
        rfl
       refine pure_ (i := 4) (N := some 12) (v := ?_) (a' := ?_) #[true, true, true, true, true, false, false, false, false, false] rfl rfl (any_of HT_.out (by kernel_rfl)) (fun _ _ _ h => h) (Or.inl ⟨by rfl, ?_⟩) ?_ ?_
       rotate_left
       ·intro w'
        go_simp
        with_reducible rfl
       rotate_left
       ·simp only [Act.put, sA, sB, sC, i64_w, i32_w]
        rfl
       refine pure_ (i := 5) (N := some 17) (v := ?_) (a' := ?_) #[true, true, true, true, true, true, false, false, false, false] rfl rfl (any_of HT_.out (by kernel_rfl)) (fun _ _ _ h => h) (Or.inl ⟨by rfl, ?_⟩) ?_ ?_
       rotate_left
       ·intro w'
        go_simp
        with_reducible rfl
       rotate_left
       ·simp only [Act.put, sA, sB, sC, i64_w, i32_w]
        rfl
       refine pure_ (i := 6) (N := some 18) (v := ?_) (a' := ?_) #[true, true, true, true, true, true, true, false, false, false] rfl rfl (any_of HT_.out (by kernel_rfl)) (fun _ _ _ h => h) (Or.inl ⟨by rfl, ?_⟩) ?_ ?_
       rotate_left
       ·intro w'
        go_simp
        with_reducible rfl
       rotate_left
       ·simp only [Act.put, sA, sB, sC, i64_w, i32_w]
        rfl
       exact norm_ (by first | (simp only [putAll, Act.put, sA, sB, sC]; done) | (simp only [putAll, Act.put, sA, sB, sC]; rfl)) (hJ0_1_3 (.slice Ao27 t276.length co27, .slice Ao28 t282.length co28, .slice Ao29 t285.length co29, .slice Ao30 t288.length co30, .slice Ao31 y294.length co31) _ ⟨hHeld, (nO HO265), (vO HO273), (rO HO278), (rO HO284), (rO HO287), (rO HO290), (rO HO296), (bO BK274), (lO HB)⟩)
      ·skip
       refine box_step ?hg (N := 2) ?hd (cs := #[.int .i64 0, .int .i64 0, .string (⟨#[]⟩ : ByteArray)]) (t := 23) ?hr ?_; (case hd => rfl); (case hg => rfl); (case hr => first | (go_simp; done) | (go_simp; rfl))
       intro gb301 hg w27 hbox hb
       have n0_ := aM (Kd.N_below (Kd.N_elderB (nO HO265) gb301 (Nat.le_of_eq hg.symm)) hb)
       have n1_ := aM (Kd.V_below (Kd.V_elderB (vO HO273) gb301 (Nat.le_of_eq hg.symm)) hb)
       have n2_ := aM (Kd.R_below (rO HO278) hb)
       have n3_ := aM (Kd.R_below (rO HO284) hb)
       have n4_ := aM (Kd.R_below (rO HO287) hb)
       have n5_ := aM (Kd.R_below (rO HO290) hb)
       have n6_ := aM (Kd.R_below (Kd.R_elderB (rO HO296) gb301 (Nat.le_of_eq hg.symm)) hb)
       have n7_ := aM (blk_below (bO BK274) hb)
       have n8_ := aM (below_step (lO HB) hb)
       have n9_ := aM (hbox)
       have n10_ := aM (gO hg (lO HB))
       have n11_ := aM (gO hg (lO HB))
       have n12_ := aM (ne_lt hg (bO BK274))
       have n13_ := aM (ne_gt hg (bO BK274))
       clear HO265
       clear HO273
       clear HO278
       clear HO284
       clear HO287
       clear HO290
       clear HO296
       clear BK274
       clear HB
       have HO265 := n0_
       have HO273 := n1_
       have HO278 := n2_
       have HO284 := n3_
       have HO287 := n4_
       have HO290 := n5_
       have HO296 := n6_
       have BK274 := n7_
       have HB := n8_
       have BK301 := n9_
       have GW301 := n10_
       have GE301 := n11_
       have NB274_301 := n12_
       have NB301_274 := n13_
       clear n0_ n1_ n2_ n3_ n4_ n5_ n6_ n7_ n8_ n9_ n10_ n11_ n12_ n13_
       clear hb hbox hg
       refine hK.out _ _ ⟨(blk_cell BK274.out 0).trans rfl, (blk_cell BK274.out 1).trans rfl, (blk_cell BK274.out 2).trans rfl, (blk_cell BK274.out 3).trans rfl, (blk_cell BK274.out 4).trans rfl, (blk_cell BK274.out 5).trans rfl⟩ (fun hHeld => ?_)
       clear hK K
       refine norm_ (a' := ?_) ?_ ?_
       rotate_left
       ·show Act.put _ (some 2) _ = _
        simp only [Act.put, sA, sB, sC, i64_w, i32_w]
        rfl
       exact norm_ (by first | (simp only [putAll, Act.put, sA, sB, sC]; done) | (simp only [putAll, Act.put, sA, sB, sC]; rfl)) (hJ0_1_7 ((.slice Ao27 t276.length co27), (.slice Ao28 t282.length co28), (.slice Ao29 t285.length co29), (.slice Ao30 t288.length co30), (.slice Ao31 y294.length co31), gb301) _ ⟨hHeld, (by (with_reducible repeat (first | apply Kd.N_alloc | apply Kd.N_drewN | apply Kd.N_drew)); exact Kd.N_mono HO265.out (fun _ hk => ⟨hk.1.1, ⟨hk.1.2.1, ⟨hk.1.2.2.1, ⟨hk.1.2.2.2.1, ⟨hk.1.2.2.2.2.1, ⟨hk.1.2.2.2.2.2, hk.2⟩⟩⟩⟩⟩⟩)), (by (with_reducible repeat (first | apply Kd.V_alloc | apply Kd.V_drewN | apply Kd.V_drew)); exact Kd.V_mono HO273.out (fun _ hk => ⟨hk.1.1, ⟨hk.1.2.1, ⟨hk.1.2.2.1, ⟨hk.1.2.2.2.1, ⟨hk.1.2.2.2.2.1, ⟨hk.1.2.2.2.2.2, hk.2⟩⟩⟩⟩⟩⟩)), (rO HO278), (rO HO284), (rO HO287), (rO HO290), (by (with_reducible repeat (first | apply Kd.R_alloc | apply Kd.R_drewN | apply Kd.R_drew)); exact Kd.R_mono HO296.out (fun _ hk => hk.2)), (bO BK274), (bO BK301), GW301.out, GE301.out, NB274_301.out, NB301_274.out, (lO HB)⟩)
    ·skip
     rintro ⟨v277, v283, v286, v289, v295, gb301⟩ w27 ⟨hS_, h0_, h1_, h2_, h3_, h4_, h5_, h6_, h7_, h8_, h9_, h10_, h11_, h12_, h13_⟩
     have n0_ : Aside0 (Kd.N k26 26 w27 w.heap.size (fun k_ => some k_ ≠ (v277 : Value).ownBlock ∧ some k_ ≠ (v283 : Value).ownBlock ∧ some k_ ≠ (v286 : Value).ownBlock ∧ some k_ ≠ (v289 : Value).ownBlock ∧ some k_ ≠ (v295 : Value).ownBlock ∧ k_ ≠ gb274 ∧ k_ ≠ gb301) (.slice Ao16 y263.length co16) y263) := ⟨h0_⟩
     have n1_ : Aside0 (Kd.V k26 26 w27 w.heap.size (fun k_ => some k_ ≠ (v277 : Value).ownBlock ∧ some k_ ≠ (v283 : Value).ownBlock ∧ some k_ ≠ (v286 : Value).ownBlock ∧ some k_ ≠ (v289 : Value).ownBlock ∧ some k_ ≠ (v295 : Value).ownBlock ∧ k_ ≠ gb274 ∧ k_ ≠ gb301) (.slice Ao20 t271.length co20) t271) := ⟨h1_⟩
     have n2_ : Aside0 (Kd.R k57 57 w27 w.heap.size (fun _ => True) v277 t276) := ⟨h2_⟩
     have n3_ : Aside0 (Kd.R (Kd.int .i64) 3 w27 w.heap.size (fun k_ => some k_ ≠ (v286 : Value).ownBlock ∧ some k_ ≠ (v289 : Value).ownBlock) v283 t282) := ⟨h3_⟩
     have n4_ : Aside0 (Kd.R (Kd.int .i64) 3 w27 w.heap.size (fun k_ => some k_ ≠ (v283 : Value).ownBlock ∧ some k_ ≠ (v289 : Value).ownBlock) v286 t285) := ⟨h4_⟩
     have n5_ : Aside0 (Kd.R (Kd.int .i64) 3 w27 w.heap.size (fun k_ => some k_ ≠ (v283 : Value).ownBlock ∧ some k_ ≠ (v286 : Value).ownBlock) v289 t288) := ⟨h5_⟩
     have n6_ : Aside0 (Kd.R k23 23 w27 w.heap.size (fun k_ => k_ ≠ gb301) v295 y294) := ⟨h6_⟩
     have n7_ : Aside0 (w27.heap[gb274]? = some (.cells #[.int .i64 t266, .string t267, .int .i64 t268, .int .i64 t269, .string t270, .slice Ao20 t271.length co20] 26 (0, 0))) := ⟨h7_⟩
     have n8_ : Aside0 (w27.heap[gb301]? = some (.cells #[.int .i64 0, .int .i64 0, .string (⟨#[]⟩ : ByteArray)] 23 (0, 0))) := ⟨h8_⟩
     have n9_ : Aside0 (w.heap.size ≤ gb301) := ⟨h9_⟩
     have n10_ : Aside0 (w.heap.size ≤ gb301) := ⟨h10_⟩
     have n11_ : Aside0 (gb274 ≠ gb301) := ⟨h11_⟩
     have n12_ : Aside0 (gb301 ≠ gb274) := ⟨h12_⟩
     have n13_ : Aside0 (Below w.heap.size w w27) := ⟨h13_⟩
     clear HO265
     clear HO273
     clear BK274
     clear HB
     clear h0_ h1_ h2_ h3_ h4_ h5_ h6_ h7_ h8_ h9_ h10_ h11_ h12_ h13_
     have HO265 := n0_
     have HO273 := n1_
     have HO278 := n2_
     have HO284 := n3_
     have HO287 := n4_
     have HO290 := n5_
     have HO296 := n6_
     have BK274 := n7_
     have BK301 := n8_
     have GW301 := n9_
     have GE301 := n10_
     have NB274_301 := n11_
     have NB301_274 := n12_
     have HB := n13_
     clear n0_ n1_ n2_ n3_ n4_ n5_ n6_ n7_ n8_ n9_ n10_ n11_ n12_ n13_
     have hHeld : w27.cell? ⟨gb274, 0, none⟩ = some (.int .i64 t266) ∧ w27.cell? ⟨gb274, 1, none⟩ = some (.string t267) ∧ w27.cell? ⟨gb274, 2, none⟩ = some (.int .i64 t268) ∧ w27.cell? ⟨gb274, 3, none⟩ = some (.int .i64 t269) ∧ w27.cell? ⟨gb274, 4, none⟩ = some (.string t270) ∧ w27.cell? ⟨gb274, 5, none⟩ = some (.slice Ao20 t271.length co20) := hS_
     obtain ⟨Ao28, co28, eo28⟩ := Kd.R_slice HO278.out
     (first | subst eo28 | (injection eo28 with f1_ f2_ f3_; have f4_ := f1_.symm; have f5_ := f3_.symm; clear f1_ f2_ f3_; subst f4_; subst f5_))
     obtain ⟨Ao29, co29, eo29⟩ := Kd.R_slice HO284.out
     (first | subst eo29 | (injection eo29 with f1_ f2_ f3_; have f4_ := f1_.symm; have f5_ := f3_.symm; clear f1_ f2_ f3_; subst f4_; subst f5_))
     obtain ⟨Ao30, co30, eo30⟩ := Kd.R_slice HO287.out
     (first | subst eo30 | (injection eo30 with f1_ f2_ f3_; have f4_ := f1_.symm; have f5_ := f3_.symm; clear f1_ f2_ f3_; subst f4_; subst f5_))
     obtain ⟨Ao31, co31, eo31⟩ := Kd.R_slice HO290.out
     (first | subst eo31 | (injection eo31 with f1_ f2_ f3_; have f4_ := f1_.symm; have f5_ := f3_.symm; clear f1_ f2_ f3_; subst f4_; subst f5_))
     obtain ⟨Ao32, co32, eo32⟩ := Kd.R_slice HO296.out
     (first | subst eo32 | (injection eo32 with f1_ f2_ f3_; have f4_ := f1_.symm; have f5_ := f3_.symm; clear f1_ f2_ f3_; subst f4_; subst f5_))
     refine norm_ (a' := ?_) ?_ ?_
     rotate_left
     ·simp only [putAll, Act.put, sA, sB, sC]
      rfl
     refine one_ (i := 3) (N := some 16) #[true, true, true, true, false, false, false, true, false, false] rfl rfl (one_of HT_.out (by kernel_rfl)) (by decide) (fun K hK => ?_)
     refine goes_ Try.func15 (by kernel_rfl) rfl #[.agg #[.string t275, .slice Ao28 t276.length co28, .int .i64 t279, .int .i64 t280, .int .i64 t281, .slice Ao29 t282.length co29, .slice Ao30 t285.length co30, .slice Ao31 t288.length co31, .int .i64 t291, .int .i64 t292, .int .i64 t293], .slice Ao32 y294.length co32, .agg #[.int .i64 t266, .string t267, .int .i64 t268, .int .i64 t269, .string t270, .slice Ao20 t271.length co20]] (by rfl) rfl rfl (by (try simp only [List.map_toArray, List.map_cons, List.map_nil]); first | done | rfl | (simp only [List.length_drop, List.length_take]; rfl)) ?_
     with_reducible refine (expr_Eval.calls k t275 _ _ t276 t279 t280 t281 _ _ t282 _ _ t285 _ _ t288 t291 t292 t293 _ _ y294 t266 t267 t268 t269 t270 _ _ t271 t297 t298 t299 t300 _ ?side1 ?side2 ?side3 ?side4 ?side5 ?side6 ?side7 ?side8 ?side9 ?side10 ?side11 ?side12 A6.out).mono ?_
     (case side1 => exact cO (Kd.R_reads' HO278.out).2.2)
     (case side2 => exact (Kd.R_reads' HO278.out).2.1)
     (case side3 => exact cO (Kd.R_reads' HO284.out).2.2)
     (case side4 => exact (Kd.R_reads' HO284.out).2.1)
     (case side5 => exact cO (Kd.R_reads' HO287.out).2.2)
     (case side6 => exact (Kd.R_reads' HO287.out).2.1)
     (case side7 => exact cO (Kd.R_reads' HO290.out).2.2)
     (case side8 => exact (Kd.R_reads' HO290.out).2.1)
     (case side9 => exact cO (Kd.R_reads' HO296.out).2.2)
     (case side10 => exact (Kd.R_reads' HO296.out).2.1)
     (case side11 => exact cO (Kd.V_reads' HO273.out).2.2)
     (case side12 => exact (Kd.V_reads' HO273.out).2.1)
     rintro e w33 ⟨rfl, hb⟩
     refine ⟨_, rfl, ?_⟩
     have n0_ := aM (Kd.N_below (nO HO265) hb)
     have n1_ := aM (Kd.V_below (vO HO273) hb)
     have n2_ := aM (Kd.R_below (rO HO278) hb)
     have n3_ := aM (Kd.R_below (rO HO284) hb)
     have n4_ := aM (Kd.R_below (rO HO287) hb)
     have n5_ := aM (Kd.R_below (rO HO290) hb)
     have n6_ := aM (Kd.R_below (rO HO296) hb)
     have n7_ := aM (blk_below (bO BK274) hb)
     have n8_ := aM (blk_below (bO BK301) hb)
     have n9_ := aM (below_step (lO HB) hb)
     clear HO265
     clear HO273
     clear HO278
     clear HO284
     clear HO287
     clear HO290
     clear HO296
     clear BK274
     clear BK301
     clear HB
     have HO265 := n0_
     have HO273 := n1_
     have HO278 := n2_
     have HO284 := n3_
     have HO287 := n4_
     have HO290 := n5_
     have HO296 := n6_
     have BK274 := n7_
     have BK301 := n8_
     have HB := n9_
     clear n0_ n1_ n2_ n3_ n4_ n5_ n6_ n7_ n8_ n9_
     (try clear hb)
     (try clear hb2)
     (try clear hk)
     (try clear hi)
     refine hK.out _ _ ⟨(blk_cell BK274.out 0).trans rfl, (blk_cell BK274.out 1).trans rfl, (blk_cell BK274.out 2).trans rfl, (blk_cell BK274.out 3).trans rfl, (blk_cell BK274.out 4).trans rfl, (blk_cell BK274.out 5).trans rfl⟩ (fun hHeld => ?_)
     clear hK K
     refine norm_ (a' := ?_) ?_ ?_
     rotate_left
     ·show Act.put _ (some 16) _ = _
      simp only [Act.put, sA, sB, sC, i64_w, i32_w]
      rfl
     refine pure_ (i := 4) (N := some 12) (v := ?_) (a' := ?_) #[true, true, true, true, true, false, false, true, false, false] rfl rfl (any_of HT_.out (by kernel_rfl)) (fun _ _ _ h => h) (Or.inl ⟨by rfl, ?_⟩) ?_ ?_
     rotate_left
     ·intro w'
      go_simp
      with_reducible rfl
     rotate_left
     ·simp only [Act.put, sA, sB, sC, i64_w, i32_w]
      rfl
     refine pure_ (i := 5) (N := some 17) (v := ?_) (a' := ?_) #[true, true, true, true, true, true, false, true, false, false] rfl rfl (any_of HT_.out (by kernel_rfl)) (fun _ _ _ h => h) (Or.inl ⟨by rfl, ?_⟩) ?_ ?_
     rotate_left
     ·intro w'
      go_simp
      with_reducible rfl
     rotate_left
     ·simp only [Act.put, sA, sB, sC, i64_w, i32_w]
      rfl
     refine pure_ (i := 6) (N := some 18) (v := ?_) (a' := ?_) #[true, true, true, true, true, true, true, true, false, false] rfl rfl (any_of HT_.out (by kernel_rfl)) (fun _ _ _ h => h) (Or.inl ⟨by rfl, ?_⟩) ?_ ?_
     rotate_left
     ·intro w'
      go_simp
      with_reducible rfl
     rotate_left
     ·simp only [Act.put, sA, sB, sC, i64_w, i32_w]
      rfl
     exact norm_ (by first | (simp only [putAll, Act.put, sA, sB, sC]; done) | (simp only [putAll, Act.put, sA, sB, sC]; rfl)) (hJ0_1_3_7 (.slice Ao28 t276.length co28, .slice Ao29 t282.length co29, .slice Ao30 t285.length co30, .slice Ao31 t288.length co31, .slice Ao32 y294.length co32, gb301) _ ⟨hHeld, (nO HO265), (vO HO273), (rO HO278), (rO HO284), (rO HO287), (rO HO290), (rO HO296), (bO BK274), (bO BK301), GW301.out, GE301.out, NB274_301.out, NB301_274.out, (lO HB)⟩)
   ·skip
    rintro ⟨v277, v283, v286, v289, v295⟩ w32 ⟨hS_, h0_, h1_, h2_, h3_, h4_, h5_, h6_, h7_, h8_⟩
    have n0_ : Aside0 (Kd.N k26 26 w32 w.heap.size (fun k_ => some k_ ≠ (v277 : Value).ownBlock ∧ some k_ ≠ (v283 : Value).ownBlock ∧ some k_ ≠ (v286 : Value).ownBlock ∧ some k_ ≠ (v289 : Value).ownBlock ∧ some k_ ≠ (v295 : Value).ownBlock ∧ k_ ≠ gb274) (.slice Ao16 y263.length co16) y263) := ⟨h0_⟩
    have n1_ : Aside0 (Kd.V k26 26 w32 w.heap.size (fun k_ => some k_ ≠ (v277 : Value).ownBlock ∧ some k_ ≠ (v283 : Value).ownBlock ∧ some k_ ≠ (v286 : Value).ownBlock ∧ some k_ ≠ (v289 : Value).ownBlock ∧ some k_ ≠ (v295 : Value).ownBlock ∧ k_ ≠ gb274) (.slice Ao20 t271.length co20) t271) := ⟨h1_⟩
    have n2_ : Aside0 (Kd.R k57 57 w32 w.heap.size (fun _ => True) v277 t276) := ⟨h2_⟩
    have n3_ : Aside0 (Kd.R (Kd.int .i64) 3 w32 w.heap.size (fun k_ => some k_ ≠ (v286 : Value).ownBlock ∧ some k_ ≠ (v289 : Value).ownBlock) v283 t282) := ⟨h3_⟩
    have n4_ : Aside0 (Kd.R (Kd.int .i64) 3 w32 w.heap.size (fun k_ => some k_ ≠ (v283 : Value).ownBlock ∧ some k_ ≠ (v289 : Value).ownBlock) v286 t285) := ⟨h4_⟩
    have n5_ : Aside0 (Kd.R (Kd.int .i64) 3 w32 w.heap.size (fun k_ => some k_ ≠ (v283 : Value).ownBlock ∧ some k_ ≠ (v286 : Value).ownBlock) v289 t288) := ⟨h5_⟩
    have n6_ : Aside0 (Kd.R k23 23 w32 w.heap.size (fun _ => True) v295 y294) := ⟨h6_⟩
    have n7_ : Aside0 (w32.heap[gb274]? = some (.cells #[.int .i64 t266, .string t267, .int .i64 t268, .int .i64 t269, .string t270, .slice Ao20 t271.length co20] 26 (0, 0))) := ⟨h7_⟩
    have n8_ : Aside0 (Below w.heap.size w w32) := ⟨h8_⟩
    clear HO265
    clear HO273
    clear BK274
    clear HB
    clear h0_ h1_ h2_ h3_ h4_ h5_ h6_ h7_ h8_
    have HO265 := n0_
    have HO273 := n1_
    have HO278 := n2_
    have HO284 := n3_
    have HO287 := n4_
    have HO290 := n5_
    have HO296 := n6_
    have BK274 := n7_
    have HB := n8_
    clear n0_ n1_ n2_ n3_ n4_ n5_ n6_ n7_ n8_
    have hHeld : w32.cell? ⟨gb274, 0, none⟩ = some (.int .i64 t266) ∧ w32.cell? ⟨gb274, 1, none⟩ = some (.string t267) ∧ w32.cell? ⟨gb274, 2, none⟩ = some (.int .i64 t268) ∧ w32.cell? ⟨gb274, 3, none⟩ = some (.int .i64 t269) ∧ w32.cell? ⟨gb274, 4, none⟩ = some (.string t270) ∧ w32.cell? ⟨gb274, 5, none⟩ = some (.slice Ao20 t271.length co20) := hS_
    refine norm_ (a' := ?_) ?_ ?_
    rotate_left
    ·simp only [putAll, Act.put, sA, sB, sC]
     rfl
    refine one_ (i := 7) (N := some 2) #[true, true, true, true, true, true, true, true, false, false] rfl rfl (one_of HT_.out (by kernel_rfl)) (by decide) (fun K hK => ?_)
    refine box_step ?hg (N := 2) ?hd (cs := #[.int .i64 0, .int .i64 0, .string (⟨#[]⟩ : ByteArray)]) (t := 23) ?hr ?_; (case hd => rfl); (case hg => rfl); (case hr => first | (go_simp; done) | (go_simp; rfl))
    intro gb301 hg w33 hbox hb
    have n0_ := aM (Kd.N_below (Kd.N_elderB (nO HO265) gb301 (Nat.le_of_eq hg.symm)) hb)
    have n1_ := aM (Kd.V_below (Kd.V_elderB (vO HO273) gb301 (Nat.le_of_eq hg.symm)) hb)
    have n2_ := aM (Kd.R_below (rO HO278) hb)
    have n3_ := aM (Kd.R_below (rO HO284) hb)
    have n4_ := aM (Kd.R_below (rO HO287) hb)
    have n5_ := aM (Kd.R_below (rO HO290) hb)
    have n6_ := aM (Kd.R_below (Kd.R_elderB (rO HO296) gb301 (Nat.le_of_eq hg.symm)) hb)
    have n7_ := aM (blk_below (bO BK274) hb)
    have n8_ := aM (below_step (lO HB) hb)
    have n9_ := aM (hbox)
    have n10_ := aM (gO hg (lO HB))
    have n11_ := aM (gO hg (lO HB))
    have n12_ := aM (ne_lt hg (bO BK274))
    have n13_ := aM (ne_gt hg (bO BK274))
    clear HO265
    clear HO273
    clear HO278
    clear HO284
    clear HO287
    clear HO290
    clear HO296
    clear BK274
    clear HB
    have HO265 := n0_
    have HO273 := n1_
    have HO278 := n2_
    have HO284 := n3_
    have HO287 := n4_
    have HO290 := n5_
    have HO296 := n6_
    have BK274 := n7_
    have HB := n8_
    have BK301 := n9_
    have GW301 := n10_
    have GE301 := n11_
    have NB274_301 := n12_
    have NB301_274 := n13_
    clear n0_ n1_ n2_ n3_ n4_ n5_ n6_ n7_ n8_ n9_ n10_ n11_ n12_ n13_
    clear hb hbox hg
    refine hK.out _ _ ⟨(blk_cell BK274.out 0).trans rfl, (blk_cell BK274.out 1).trans rfl, (blk_cell BK274.out 2).trans rfl, (blk_cell BK274.out 3).trans rfl, (blk_cell BK274.out 4).trans rfl, (blk_cell BK274.out 5).trans rfl⟩ (fun hHeld => ?_)
    clear hK K
    refine norm_ (a' := ?_) ?_ ?_
    rotate_left
    ·show Act.put _ (some 2) _ = _
     simp only [Act.put, sA, sB, sC, i64_w, i32_w]
     rfl
    exact norm_ (by first | (simp only [putAll, Act.put, sA, sB, sC]; done) | (simp only [putAll, Act.put, sA, sB, sC]; rfl)) (hJ0_1_3_7 (v277, v283, v286, v289, v295, gb301) _ ⟨hHeld, (by (with_reducible repeat (first | apply Kd.N_alloc | apply Kd.N_drewN | apply Kd.N_drew)); exact Kd.N_mono HO265.out (fun _ hk => ⟨hk.1.1, ⟨hk.1.2.1, ⟨hk.1.2.2.1, ⟨hk.1.2.2.2.1, ⟨hk.1.2.2.2.2.1, ⟨hk.1.2.2.2.2.2, hk.2⟩⟩⟩⟩⟩⟩)), (by (with_reducible repeat (first | apply Kd.V_alloc | apply Kd.V_drewN | apply Kd.V_drew)); exact Kd.V_mono HO273.out (fun _ hk => ⟨hk.1.1, ⟨hk.1.2.1, ⟨hk.1.2.2.1, ⟨hk.1.2.2.2.1, ⟨hk.1.2.2.2.2.1, ⟨hk.1.2.2.2.2.2, hk.2⟩⟩⟩⟩⟩⟩)), (rO HO278), (rO HO284), (rO HO287), (rO HO290), (by (with_reducible repeat (first | apply Kd.R_alloc | apply Kd.R_drewN | apply Kd.R_drew)); exact Kd.R_mono HO296.out (fun _ hk => hk.2)), (bO BK274), (bO BK301), GW301.out, GE301.out, NB274_301.out, NB301_274.out, (lO HB)⟩)
  rintro ⟨v277, v283, v286, v289, v295, gb301⟩ w33 ⟨hS_, h0_, h1_, h2_, h3_, h4_, h5_, h6_, h7_, h8_, h9_, h10_, h11_, h12_, h13_⟩
  have n0_ : Aside0 (Kd.N k26 26 w33 w.heap.size (fun k_ => some k_ ≠ (v277 : Value).ownBlock ∧ some k_ ≠ (v283 : Value).ownBlock ∧ some k_ ≠ (v286 : Value).ownBlock ∧ some k_ ≠ (v289 : Value).ownBlock ∧ some k_ ≠ (v295 : Value).ownBlock ∧ k_ ≠ gb274 ∧ k_ ≠ gb301) (.slice Ao16 y263.length co16) y263) := ⟨h0_⟩
  have n1_ : Aside0 (Kd.V k26 26 w33 w.heap.size (fun k_ => some k_ ≠ (v277 : Value).ownBlock ∧ some k_ ≠ (v283 : Value).ownBlock ∧ some k_ ≠ (v286 : Value).ownBlock ∧ some k_ ≠ (v289 : Value).ownBlock ∧ some k_ ≠ (v295 : Value).ownBlock ∧ k_ ≠ gb274 ∧ k_ ≠ gb301) (.slice Ao20 t271.length co20) t271) := ⟨h1_⟩
  have n2_ : Aside0 (Kd.R k57 57 w33 w.heap.size (fun _ => True) v277 t276) := ⟨h2_⟩
  have n3_ : Aside0 (Kd.R (Kd.int .i64) 3 w33 w.heap.size (fun k_ => some k_ ≠ (v286 : Value).ownBlock ∧ some k_ ≠ (v289 : Value).ownBlock) v283 t282) := ⟨h3_⟩
  have n4_ : Aside0 (Kd.R (Kd.int .i64) 3 w33 w.heap.size (fun k_ => some k_ ≠ (v283 : Value).ownBlock ∧ some k_ ≠ (v289 : Value).ownBlock) v286 t285) := ⟨h4_⟩
  have n5_ : Aside0 (Kd.R (Kd.int .i64) 3 w33 w.heap.size (fun k_ => some k_ ≠ (v283 : Value).ownBlock ∧ some k_ ≠ (v286 : Value).ownBlock) v289 t288) := ⟨h5_⟩
  have n6_ : Aside0 (Kd.R k23 23 w33 w.heap.size (fun k_ => k_ ≠ gb301) v295 y294) := ⟨h6_⟩
  have n7_ : Aside0 (w33.heap[gb274]? = some (.cells #[.int .i64 t266, .string t267, .int .i64 t268, .int .i64 t269, .string t270, .slice Ao20 t271.length co20] 26 (0, 0))) := ⟨h7_⟩
  have n8_ : Aside0 (w33.heap[gb301]? = some (.cells #[.int .i64 0, .int .i64 0, .string (⟨#[]⟩ : ByteArray)] 23 (0, 0))) := ⟨h8_⟩
  have n9_ : Aside0 (w.heap.size ≤ gb301) := ⟨h9_⟩
  have n10_ : Aside0 (w.heap.size ≤ gb301) := ⟨h10_⟩
  have n11_ : Aside0 (gb274 ≠ gb301) := ⟨h11_⟩
  have n12_ : Aside0 (gb301 ≠ gb274) := ⟨h12_⟩
  have n13_ : Aside0 (Below w.heap.size w w33) := ⟨h13_⟩
  clear HO265
  clear HO273
  clear BK274
  clear HB
  clear h0_ h1_ h2_ h3_ h4_ h5_ h6_ h7_ h8_ h9_ h10_ h11_ h12_ h13_
  have HO265 := n0_
  have HO273 := n1_
  have HO278 := n2_
  have HO284 := n3_
  have HO287 := n4_
  have HO290 := n5_
  have HO296 := n6_
  have BK274 := n7_
  have BK301 := n8_
  have GW301 := n9_
  have GE301 := n10_
  have NB274_301 := n11_
  have NB301_274 := n12_
  have HB := n13_
  clear n0_ n1_ n2_ n3_ n4_ n5_ n6_ n7_ n8_ n9_ n10_ n11_ n12_ n13_
  have hHeld : w33.cell? ⟨gb274, 0, none⟩ = some (.int .i64 t266) ∧ w33.cell? ⟨gb274, 1, none⟩ = some (.string t267) ∧ w33.cell? ⟨gb274, 2, none⟩ = some (.int .i64 t268) ∧ w33.cell? ⟨gb274, 3, none⟩ = some (.int .i64 t269) ∧ w33.cell? ⟨gb274, 4, none⟩ = some (.string t270) ∧ w33.cell? ⟨gb274, 5, none⟩ = some (.slice Ao20 t271.length co20) := hS_
  refine norm_ (a' := ?_) ?_ ?_
  rotate_left
  ·simp only [putAll, Act.put, sA, sB, sC]
   rfl
  refine one_ (i := 8) (N := none) #[true, true, true, true, true, true, true, true, true, false] rfl rfl (one_of HT_.out (by kernel_rfl)) (by decide) (fun K hK => ?_)
  have hs34 : w33.cell? ⟨gb301, 0, none⟩ = some (.int .i64 0) := (blk_cell BK301.out 0).trans rfl
  have hfs34 := fz BK301 0
  have hns34_0 := NB274_301.out
  have hms34_0 := NB301_274.out
  have hs35 : w33.cell? ⟨gb301, 1, none⟩ = some (.int .i64 0) := (blk_cell BK301.out 1).trans rfl
  have hfs35 := fz BK301 1
  have hns35_0 := NB274_301.out
  have hms35_0 := NB301_274.out
  have hs36 : w33.cell? ⟨gb301, 2, none⟩ = some (.string (⟨#[]⟩ : ByteArray)) := (blk_cell BK301.out 2).trans rfl
  have hfs36 := fz BK301 2
  have hns36_0 := NB274_301.out
  have hms36_0 := NB301_274.out
  refine skip_ (w1 := ?_) (by rfl) rfl ?_ ?_
  rotate_left
  ·go_simp
   rfl
  refine hK.out _ _ ⟨((cell_far (p := ⟨gb301, _, none⟩) NB274_301.out _).trans (((cell_far (p := ⟨gb301, _, none⟩) NB274_301.out _).trans (((cell_far (p := ⟨gb301, _, none⟩) NB274_301.out _).trans (hHeld.1)))))), ((cell_far (p := ⟨gb301, _, none⟩) NB274_301.out _).trans (((cell_far (p := ⟨gb301, _, none⟩) NB274_301.out _).trans (((cell_far (p := ⟨gb301, _, none⟩) NB274_301.out _).trans (hHeld.2.1)))))), ((cell_far (p := ⟨gb301, _, none⟩) NB274_301.out _).trans (((cell_far (p := ⟨gb301, _, none⟩) NB274_301.out _).trans (((cell_far (p := ⟨gb301, _, none⟩) NB274_301.out _).trans (hHeld.2.2.1)))))), ((cell_far (p := ⟨gb301, _, none⟩) NB274_301.out _).trans (((cell_far (p := ⟨gb301, _, none⟩) NB274_301.out _).trans (((cell_far (p := ⟨gb301, _, none⟩) NB274_301.out _).trans (hHeld.2.2.2.1)))))), ((cell_far (p := ⟨gb301, _, none⟩) NB274_301.out _).trans (((cell_far (p := ⟨gb301, _, none⟩) NB274_301.out _).trans (((cell_far (p := ⟨gb301, _, none⟩) NB274_301.out _).trans (hHeld.2.2.2.2.1)))))), ((cell_far (p := ⟨gb301, _, none⟩) NB274_301.out _).trans (((cell_far (p := ⟨gb301, _, none⟩) NB274_301.out _).trans (((cell_far (p := ⟨gb301, _, none⟩) NB274_301.out _).trans (hHeld.2.2.2.2.2))))))⟩ (fun hHeld => ?_)
  clear hK K
  refine pure_ (i := 9) (N := some 3) (v := ?_) (a' := ?_) #[true, true, true, true, true, true, true, true, true, true] rfl rfl (any_of HT_.out (by kernel_rfl)) (fun _ _ _ h => h) (Or.inl ⟨by rfl, ?_⟩) ?_ ?_
  rotate_left
  ·intro w'
   go_simp
   with_reducible rfl
  rotate_left
  ·simp only [Act.put, sA, sB, sC, i64_w, i32_w]
   rfl
  refine done_ (done_of HT_.out (by kernel_rfl)) ?_
  go_upto_region 4 with (first | ((with_reducible refine gate_callee (f := 12) rfl ?_); refine gL (some 20) rfl rfl Try.func12 (by kernel_rfl) rfl #[] rfl ?_; (with_reducible refine (antipodelaw19_Table.calls  t302 t303 t306 t307 t308 t309 t312 t315 t318 t319 t320 _ A7.out).mono ?_); rintro e w37 ⟨v304, v310, v313, v316, rfl, ho0, ho1, ho2, ho3, hb⟩; refine ⟨_, rfl, ?_⟩; have n0_ := aM (Kd.N_mono (Kd.N_told (Kd.N_told (Kd.N_told (Kd.N_told (Kd.N_old (by (with_reducible repeat (first | apply Kd.N_alloc | apply Kd.N_drewN | apply Kd.N_drew)); exact (Kd.N_mono (Kd.N_far (p := ⟨gb301, 2, none⟩) (Kd.N_far (p := ⟨gb301, 1, none⟩) (Kd.N_far (p := ⟨gb301, 0, none⟩) (Kd.N_mono HO265.out (fun k_ hk => (⟨hk, hk.2.2.2.2.2.2⟩ : _ ∧ k_ ≠ gb301))) (fun _ hk => hk.2) (.int .i64 t297)) (fun _ hk => hk.2) (.int .i64 t298)) (fun _ hk => hk.2) (.string t299)) (fun _ h_ => h_.1))) hb) (Kd.R_base ho0)) (Kd.R_base ho1)) (Kd.R_base ho2)) (Kd.R_base ho3)) (fun _ h_ => h_.1)); have n1_ := aM (Kd.V_mono (Kd.V_told (Kd.V_told (Kd.V_told (Kd.V_told (Kd.V_old (by (with_reducible repeat (first | apply Kd.V_alloc | apply Kd.V_drewN | apply Kd.V_drew)); exact (Kd.V_mono (Kd.V_far (p := ⟨gb301, 2, none⟩) (Kd.V_far (p := ⟨gb301, 1, none⟩) (Kd.V_far (p := ⟨gb301, 0, none⟩) (Kd.V_mono HO273.out (fun k_ hk => (⟨hk, hk.2.2.2.2.2.2⟩ : _ ∧ k_ ≠ gb301))) (fun _ hk => hk.2) (.int .i64 t297)) (fun _ hk => hk.2) (.int .i64 t298)) (fun _ hk => hk.2) (.string t299)) (fun _ h_ => h_.1))) hb) (Kd.R_base ho0)) (Kd.R_base ho1)) (Kd.R_base ho2)) (Kd.R_base ho3)) (fun _ h_ => h_.1)); have n2_ := aM (Kd.R_elder' (by (with_reducible repeat (first | apply Kd.R_alloc | apply Kd.R_drewN | apply Kd.R_drew)); exact (Kd.R_mono (Kd.R_far (p := ⟨gb301, 2, none⟩) (Kd.R_far (p := ⟨gb301, 1, none⟩) (Kd.R_far (p := ⟨gb301, 0, none⟩) (Kd.R_types HO278.out BK301.out (by decide)) (fun _ hk => hk.2) (.int .i64 t297)) (fun _ hk => hk.2) (.int .i64 t298)) (fun _ hk => hk.2) (.string t299)) (fun _ h_ => h_.1))) (Kd.R_base ho0) hb); have n3_ := aM (Kd.R_mono (Kd.R_told (Kd.R_told (Kd.R_told (Kd.R_old (by (with_reducible repeat (first | apply Kd.R_alloc | apply Kd.R_drewN | apply Kd.R_drew)); exact (Kd.R_mono (Kd.R_far (p := ⟨gb301, 2, none⟩) (Kd.R_far (p := ⟨gb301, 1, none⟩) (Kd.R_far (p := ⟨gb301, 0, none⟩) (Kd.R_types HO284.out BK301.out (by decide)) (fun _ hk => hk.2) (.int .i64 t297)) (fun _ hk => hk.2) (.int .i64 t298)) (fun _ hk => hk.2) (.string t299)) (fun _ h_ => h_.1))) hb) (Kd.R_base ho1)) (Kd.R_base ho2)) (Kd.R_base ho3)) (fun _ h_ => h_.1)); have n4_ := aM (Kd.R_mono (Kd.R_told (Kd.R_told (Kd.R_told (Kd.R_old (by (with_reducible repeat (first | apply Kd.R_alloc | apply Kd.R_drewN | apply Kd.R_drew)); exact (Kd.R_mono (Kd.R_far (p := ⟨gb301, 2, none⟩) (Kd.R_far (p := ⟨gb301, 1, none⟩) (Kd.R_far (p := ⟨gb301, 0, none⟩) (Kd.R_types HO287.out BK301.out (by decide)) (fun _ hk => hk.2) (.int .i64 t297)) (fun _ hk => hk.2) (.int .i64 t298)) (fun _ hk => hk.2) (.string t299)) (fun _ h_ => h_.1))) hb) (Kd.R_base ho1)) (Kd.R_base ho2)) (Kd.R_base ho3)) (fun _ h_ => h_.1)); have n5_ := aM (Kd.R_mono (Kd.R_told (Kd.R_told (Kd.R_told (Kd.R_old (by (with_reducible repeat (first | apply Kd.R_alloc | apply Kd.R_drewN | apply Kd.R_drew)); exact (Kd.R_mono (Kd.R_far (p := ⟨gb301, 2, none⟩) (Kd.R_far (p := ⟨gb301, 1, none⟩) (Kd.R_far (p := ⟨gb301, 0, none⟩) (Kd.R_types HO290.out BK301.out (by decide)) (fun _ hk => hk.2) (.int .i64 t297)) (fun _ hk => hk.2) (.int .i64 t298)) (fun _ hk => hk.2) (.string t299)) (fun _ h_ => h_.1))) hb) (Kd.R_base ho1)) (Kd.R_base ho2)) (Kd.R_base ho3)) (fun _ h_ => h_.1)); have n6_ := aM (Kd.R_below (by (with_reducible repeat (first | apply Kd.R_alloc | apply Kd.R_drewN | apply Kd.R_drew)); exact (Kd.R_mono (Kd.R_far (p := ⟨gb301, 2, none⟩) (Kd.R_far (p := ⟨gb301, 1, none⟩) (Kd.R_far (p := ⟨gb301, 0, none⟩) (Kd.R_mono HO296.out (fun k_ hk => (⟨hk, hk⟩ : _ ∧ k_ ≠ gb301))) (fun _ hk => hk.2) (.int .i64 t297)) (fun _ hk => hk.2) (.int .i64 t298)) (fun _ hk => hk.2) (.string t299)) (fun _ h_ => h_.1))) hb); have n7_ := aM (Kd.R_lower (Kd.R_new' ho0 (Kd.R_lt (by (with_reducible repeat (first | apply Kd.R_alloc | apply Kd.R_drewN | apply Kd.R_drew)); exact (Kd.R_mono (Kd.R_far (p := ⟨gb301, 2, none⟩) (Kd.R_far (p := ⟨gb301, 1, none⟩) (Kd.R_far (p := ⟨gb301, 0, none⟩) (Kd.R_types HO278.out BK301.out (by decide)) (fun _ hk => hk.2) (.int .i64 t297)) (fun _ hk => hk.2) (.int .i64 t298)) (fun _ hk => hk.2) (.string t299)) (fun _ h_ => h_.1))))) (below_size (lO HB))); have n8_ := aM (Kd.R_lower (Kd.R_new' (Kd.R_new' (Kd.R_new' ho1 (Kd.R_lt (by (with_reducible repeat (first | apply Kd.R_alloc | apply Kd.R_drewN | apply Kd.R_drew)); exact (Kd.R_mono (Kd.R_far (p := ⟨gb301, 2, none⟩) (Kd.R_far (p := ⟨gb301, 1, none⟩) (Kd.R_far (p := ⟨gb301, 0, none⟩) (Kd.R_types HO284.out BK301.out (by decide)) (fun _ hk => hk.2) (.int .i64 t297)) (fun _ hk => hk.2) (.int .i64 t298)) (fun _ hk => hk.2) (.string t299)) (fun _ h_ => h_.1))))) (Kd.R_lt (by (with_reducible repeat (first | apply Kd.R_alloc | apply Kd.R_drewN | apply Kd.R_drew)); exact (Kd.R_mono (Kd.R_far (p := ⟨gb301, 2, none⟩) (Kd.R_far (p := ⟨gb301, 1, none⟩) (Kd.R_far (p := ⟨gb301, 0, none⟩) (Kd.R_types HO287.out BK301.out (by decide)) (fun _ hk => hk.2) (.int .i64 t297)) (fun _ hk => hk.2) (.int .i64 t298)) (fun _ hk => hk.2) (.string t299)) (fun _ h_ => h_.1))))) (Kd.R_lt (by (with_reducible repeat (first | apply Kd.R_alloc | apply Kd.R_drewN | apply Kd.R_drew)); exact (Kd.R_mono (Kd.R_far (p := ⟨gb301, 2, none⟩) (Kd.R_far (p := ⟨gb301, 1, none⟩) (Kd.R_far (p := ⟨gb301, 0, none⟩) (Kd.R_types HO290.out BK301.out (by decide)) (fun _ hk => hk.2) (.int .i64 t297)) (fun _ hk => hk.2) (.int .i64 t298)) (fun _ hk => hk.2) (.string t299)) (fun _ h_ => h_.1))))) (below_size (lO HB))); have n9_ := aM (Kd.R_lower (Kd.R_new' (Kd.R_new' (Kd.R_new' ho2 (Kd.R_lt (by (with_reducible repeat (first | apply Kd.R_alloc | apply Kd.R_drewN | apply Kd.R_drew)); exact (Kd.R_mono (Kd.R_far (p := ⟨gb301, 2, none⟩) (Kd.R_far (p := ⟨gb301, 1, none⟩) (Kd.R_far (p := ⟨gb301, 0, none⟩) (Kd.R_types HO284.out BK301.out (by decide)) (fun _ hk => hk.2) (.int .i64 t297)) (fun _ hk => hk.2) (.int .i64 t298)) (fun _ hk => hk.2) (.string t299)) (fun _ h_ => h_.1))))) (Kd.R_lt (by (with_reducible repeat (first | apply Kd.R_alloc | apply Kd.R_drewN | apply Kd.R_drew)); exact (Kd.R_mono (Kd.R_far (p := ⟨gb301, 2, none⟩) (Kd.R_far (p := ⟨gb301, 1, none⟩) (Kd.R_far (p := ⟨gb301, 0, none⟩) (Kd.R_types HO287.out BK301.out (by decide)) (fun _ hk => hk.2) (.int .i64 t297)) (fun _ hk => hk.2) (.int .i64 t298)) (fun _ hk => hk.2) (.string t299)) (fun _ h_ => h_.1))))) (Kd.R_lt (by (with_reducible repeat (first | apply Kd.R_alloc | apply Kd.R_drewN | apply Kd.R_drew)); exact (Kd.R_mono (Kd.R_far (p := ⟨gb301, 2, none⟩) (Kd.R_far (p := ⟨gb301, 1, none⟩) (Kd.R_far (p := ⟨gb301, 0, none⟩) (Kd.R_types HO290.out BK301.out (by decide)) (fun _ hk => hk.2) (.int .i64 t297)) (fun _ hk => hk.2) (.int .i64 t298)) (fun _ hk => hk.2) (.string t299)) (fun _ h_ => h_.1))))) (below_size (lO HB))); have n10_ := aM (Kd.R_lower (Kd.R_new' (Kd.R_new' (Kd.R_new' ho3 (Kd.R_lt (by (with_reducible repeat (first | apply Kd.R_alloc | apply Kd.R_drewN | apply Kd.R_drew)); exact (Kd.R_mono (Kd.R_far (p := ⟨gb301, 2, none⟩) (Kd.R_far (p := ⟨gb301, 1, none⟩) (Kd.R_far (p := ⟨gb301, 0, none⟩) (Kd.R_types HO284.out BK301.out (by decide)) (fun _ hk => hk.2) (.int .i64 t297)) (fun _ hk => hk.2) (.int .i64 t298)) (fun _ hk => hk.2) (.string t299)) (fun _ h_ => h_.1))))) (Kd.R_lt (by (with_reducible repeat (first | apply Kd.R_alloc | apply Kd.R_drewN | apply Kd.R_drew)); exact (Kd.R_mono (Kd.R_far (p := ⟨gb301, 2, none⟩) (Kd.R_far (p := ⟨gb301, 1, none⟩) (Kd.R_far (p := ⟨gb301, 0, none⟩) (Kd.R_types HO287.out BK301.out (by decide)) (fun _ hk => hk.2) (.int .i64 t297)) (fun _ hk => hk.2) (.int .i64 t298)) (fun _ hk => hk.2) (.string t299)) (fun _ h_ => h_.1))))) (Kd.R_lt (by (with_reducible repeat (first | apply Kd.R_alloc | apply Kd.R_drewN | apply Kd.R_drew)); exact (Kd.R_mono (Kd.R_far (p := ⟨gb301, 2, none⟩) (Kd.R_far (p := ⟨gb301, 1, none⟩) (Kd.R_far (p := ⟨gb301, 0, none⟩) (Kd.R_types HO290.out BK301.out (by decide)) (fun _ hk => hk.2) (.int .i64 t297)) (fun _ hk => hk.2) (.int .i64 t298)) (fun _ hk => hk.2) (.string t299)) (fun _ h_ => h_.1))))) (below_size (lO HB))); have n11_ := aM (blk_below (g := gb274) (o := .cells #[.int .i64 t266, .string t267, .int .i64 t268, .int .i64 t269, .string t270, .slice Ao20 t271.length co20] 26 (0, 0)) (by (with_reducible repeat (first | refine blk_drewN ?_ _ | refine blk_drew ?_ | refine blk_alloc ?_ _)); refine blk_far ?_ NB274_301.out _; (with_reducible repeat (first | refine blk_drewN ?_ _ | refine blk_drew ?_ | refine blk_alloc ?_ _)); refine blk_far ?_ NB274_301.out _; (with_reducible repeat (first | refine blk_drewN ?_ _ | refine blk_drew ?_ | refine blk_alloc ?_ _)); refine blk_far ?_ NB274_301.out _; (with_reducible repeat (first | refine blk_drewN ?_ _ | refine blk_drew ?_ | refine blk_alloc ?_ _)); exact BK274.out) hb); have n12_ := aM (blk_below (g := gb301) (o := .cells #[.int .i64 t297, .int .i64 t298, .string t299] 23 (0, 0)) (by (with_reducible repeat (first | refine blk_drewN ?_ _ | refine blk_drew ?_ | refine blk_alloc ?_ _)); refine blk_put (cs := #[.int .i64 t297, .int .i64 t298, .string (⟨#[]⟩ : ByteArray)]) ?_ 2 _ rfl; (with_reducible repeat (first | refine blk_drewN ?_ _ | refine blk_drew ?_ | refine blk_alloc ?_ _)); refine blk_put (cs := #[.int .i64 t297, .int .i64 0, .string (⟨#[]⟩ : ByteArray)]) ?_ 1 _ rfl; (with_reducible repeat (first | refine blk_drewN ?_ _ | refine blk_drew ?_ | refine blk_alloc ?_ _)); refine blk_put (cs := #[.int .i64 0, .int .i64 0, .string (⟨#[]⟩ : ByteArray)]) ?_ 0 _ rfl; (with_reducible repeat (first | refine blk_drewN ?_ _ | refine blk_drew ?_ | refine blk_alloc ?_ _)); exact BK301.out) hb); have n13_ := aM (below_step (lO HB) hb); clear HO265; clear HO273; clear HO278; clear HO284; clear HO287; clear HO290; clear HO296; clear BK274; clear BK301; clear HB; have HO265 := n0_; have HO273 := n1_; have HO278 := n2_; have HO284 := n3_; have HO287 := n4_; have HO290 := n5_; have HO296 := n6_; have HO305 := n7_; have HO311 := n8_; have HO314 := n9_; have HO317 := n10_; have BK274 := n11_; have BK301 := n12_; have HB := n13_; clear n0_ n1_ n2_ n3_ n4_ n5_ n6_ n7_ n8_ n9_ n10_ n11_ n12_ n13_; (try clear hb); (try clear hb2); (try clear hk); (try clear hi); (try clear ho0); (try clear ho1); (try clear ho2); (try clear ho3)) | ((with_reducible refine gate_callee (f := 23) rfl ?_); refine gL (some 21) rfl rfl Try.func23 (by kernel_rfl) rfl #[.string (⟨#[83]⟩ : ByteArray)] rfl ?_; (with_reducible refine (antipodelaw19_name.calls (⟨#[83]⟩ : ByteArray) t321 t322 t323 t324 t325 t326 _ A8.out).mono ?_); rintro e w38 ⟨v327, rfl, ho0, hb⟩; refine ⟨_, rfl, ?_⟩; have n0_ := aM (Kd.N_elder' (nO HO265) (by first | exact Kd.N_base ho0 | exact Kd.R_base ho0) hb); have n1_ := aM (Kd.V_elder' (vO HO273) (by first | exact Kd.N_base ho0 | exact Kd.R_base ho0) hb); have n2_ := aM (Kd.R_below (rO HO278) hb); have n3_ := aM (Kd.R_below (rO HO284) hb); have n4_ := aM (Kd.R_below (rO HO287) hb); have n5_ := aM (Kd.R_below (rO HO290) hb); have n6_ := aM (Kd.R_below (rO HO296) hb); have n7_ := aM (Kd.R_below (rO HO305) hb); have n8_ := aM (Kd.R_below (rO HO311) hb); have n9_ := aM (Kd.R_below (rO HO314) hb); have n10_ := aM (Kd.R_below (rO HO317) hb); have n11_ := aM (Kd.N_lower (Kd.N_mono (ok' := fun k_ => some k_ ≠ (.slice Ao16 y263.length co16 : Value).ownBlock ∧ some k_ ≠ (v277 : Value).ownBlock ∧ some k_ ≠ (v283 : Value).ownBlock ∧ some k_ ≠ (v286 : Value).ownBlock ∧ some k_ ≠ (v289 : Value).ownBlock ∧ some k_ ≠ (v295 : Value).ownBlock ∧ some k_ ≠ (v304 : Value).ownBlock ∧ some k_ ≠ (v310 : Value).ownBlock ∧ some k_ ≠ (v313 : Value).ownBlock ∧ some k_ ≠ (v316 : Value).ownBlock ∧ k_ ≠ gb274 ∧ k_ ≠ gb301) (Kd.R_N (Kd.R_bound ho0)) (fun k_ hk_ => ⟨(Kd.fresh' (Kd.N_lt (nO HO265)) k_ hk_.2.1), (Kd.fresh' (Kd.R_lt (rO HO278)) k_ hk_.2.1), (Kd.fresh' (Kd.R_lt (rO HO284)) k_ hk_.2.1), (Kd.fresh' (Kd.R_lt (rO HO287)) k_ hk_.2.1), (Kd.fresh' (Kd.R_lt (rO HO290)) k_ hk_.2.1), (Kd.fresh' (Kd.R_lt (rO HO296)) k_ hk_.2.1), (Kd.fresh' (Kd.R_lt (rO HO305)) k_ hk_.2.1), (Kd.fresh' (Kd.R_lt (rO HO311)) k_ hk_.2.1), (Kd.fresh' (Kd.R_lt (rO HO314)) k_ hk_.2.1), (Kd.fresh' (Kd.R_lt (rO HO317)) k_ hk_.2.1), (Kd.freshB (g := gb274) (o := .cells #[.int .i64 t266, .string t267, .int .i64 t268, .int .i64 t269, .string t270, .slice Ao20 t271.length co20] 26 (0, 0)) (bO BK274) k_ hk_.2.1), (Kd.freshB (g := gb301) (o := .cells #[.int .i64 t297, .int .i64 t298, .string t299] 23 (0, 0)) (bO BK301) k_ hk_.2.1)⟩)) (below_size (lO HB))); have n12_ := aM (blk_below (bO BK274) hb); have n13_ := aM (blk_below (bO BK301) hb); have n14_ := aM (below_step (lO HB) hb); clear HO265; clear HO273; clear HO278; clear HO284; clear HO287; clear HO290; clear HO296; clear HO305; clear HO311; clear HO314; clear HO317; clear BK274; clear BK301; clear HB; have HO265 := n0_; have HO273 := n1_; have HO278 := n2_; have HO284 := n3_; have HO287 := n4_; have HO290 := n5_; have HO296 := n6_; have HO305 := n7_; have HO311 := n8_; have HO314 := n9_; have HO317 := n10_; have HO328 := n11_; have BK274 := n12_; have BK301 := n13_; have HB := n14_; clear n0_ n1_ n2_ n3_ n4_ n5_ n6_ n7_ n8_ n9_ n10_ n11_ n12_ n13_ n14_; (try clear hb); (try clear hb2); (try clear hk); (try clear hi); (try clear ho0); obtain ⟨Ao39, co39, eo39⟩ := Kd.R_slice HO305.out; subst eo39; obtain ⟨Ao40, co40, eo40⟩ := Kd.R_slice HO311.out; subst eo40; obtain ⟨Ao41, co41, eo41⟩ := Kd.R_slice HO314.out; subst eo41; obtain ⟨Ao42, co42, eo42⟩ := Kd.R_slice HO317.out; subst eo42; obtain ⟨Ao43, co43, eo43⟩ := Kd.N_slice HO328.out; subst eo43) | ((with_reducible refine gate_callee (f := 13) rfl ?_); refine gL (some 22) rfl rfl Try.func13 (by kernel_rfl) rfl #[.agg #[.string t302, .slice Ao39 t303.length co39, .int .i64 t306, .int .i64 t307, .int .i64 t308, .slice Ao40 t309.length co40, .slice Ao41 t312.length co41, .slice Ao42 t315.length co42, .int .i64 t318, .int .i64 t319, .int .i64 t320], .agg #[.int .i64 t321, .string t322, .int .i64 t323, .int .i64 t324, .string t325, .slice Ao43 t326.length co43]] rfl ?_; (with_reducible refine (expr_Type.calls k t302 _ _ t303 t306 t307 t308 _ _ t309 _ _ t312 _ _ t315 t318 t319 t320 t321 t322 t323 t324 t325 _ _ t326 t329 t330 _ ?side1 ?side2 ?side3 ?side4 ?side5 ?side6 ?side7 ?side8 ?side9 ?side10 A9.out).mono ?_); (case side1 => exact cO (Kd.R_reads' HO305.out).2.2); (case side2 => exact (Kd.R_reads' HO305.out).2.1); (case side3 => exact cO (Kd.R_reads' HO311.out).2.2); (case side4 => exact (Kd.R_reads' HO311.out).2.1); (case side5 => exact cO (Kd.R_reads' HO314.out).2.2); (case side6 => exact (Kd.R_reads' HO314.out).2.1); (case side7 => exact cO (Kd.R_reads' HO317.out).2.2); (case side8 => exact (Kd.R_reads' HO317.out).2.1); (case side9 => exact cO (Kd.N_reads' HO328.out).2.2); (case side10 => exact (Kd.N_reads' HO328.out).2.1); rintro e w44 ⟨rfl, hb⟩; refine ⟨_, rfl, ?_⟩; have n0_ := aM (Kd.N_below (nO HO265) hb); have n1_ := aM (Kd.V_below (vO HO273) hb); have n2_ := aM (Kd.R_below (rO HO278) hb); have n3_ := aM (Kd.R_below (rO HO284) hb); have n4_ := aM (Kd.R_below (rO HO287) hb); have n5_ := aM (Kd.R_below (rO HO290) hb); have n6_ := aM (Kd.R_below (rO HO296) hb); have n7_ := aM (Kd.R_below (rO HO305) hb); have n8_ := aM (Kd.R_below (rO HO311) hb); have n9_ := aM (Kd.R_below (rO HO314) hb); have n10_ := aM (Kd.R_below (rO HO317) hb); have n11_ := aM (Kd.N_below (nO HO328) hb); have n12_ := aM (blk_below (bO BK274) hb); have n13_ := aM (blk_below (bO BK301) hb); have n14_ := aM (below_step (lO HB) hb); clear HO265; clear HO273; clear HO278; clear HO284; clear HO287; clear HO290; clear HO296; clear HO305; clear HO311; clear HO314; clear HO317; clear HO328; clear BK274; clear BK301; clear HB; have HO265 := n0_; have HO273 := n1_; have HO278 := n2_; have HO284 := n3_; have HO287 := n4_; have HO290 := n5_; have HO296 := n6_; have HO305 := n7_; have HO311 := n8_; have HO314 := n9_; have HO317 := n10_; have HO328 := n11_; have BK274 := n12_; have BK301 := n13_; have HB := n14_; clear n0_ n1_ n2_ n3_ n4_ n5_ n6_ n7_ n8_ n9_ n10_ n11_ n12_ n13_ n14_; (try clear hb); (try clear hb2); (try clear hk); (try clear hi)))
  (try simp only [Act.put, sA, sB, sC])
  refine wp_named (fun W_ => W_.heap[gb274]? = some (.cells #[.int .i64 t266, .string t267, .int .i64 t268, .int .i64 t269, .string t270, .slice Ao20 t271.length co20] 26 (0, 0)) ∧ W_.heap[gb301]? = some (.cells #[.int .i64 t297, .int .i64 t298, .string t299] 23 (0, 0)) ∧ Below w.heap.size w W_) ⟨(bO BK274), (bO BK301), (lO HB)⟩ ?_
  rintro W_ ⟨bk274_, bk301_, hB_⟩
  have hz274_0 := (show W_.cell? ⟨gb274, 0, none⟩ = some (.int .i64 t266) from (blk_cell bk274_ 0).trans rfl)
  have hz274_1 := (show W_.cell? ⟨gb274, 1, none⟩ = some (.string t267) from (blk_cell bk274_ 1).trans rfl)
  have hz274_2 := (show W_.cell? ⟨gb274, 2, none⟩ = some (.int .i64 t268) from (blk_cell bk274_ 2).trans rfl)
  have hz274_3 := (show W_.cell? ⟨gb274, 3, none⟩ = some (.int .i64 t269) from (blk_cell bk274_ 3).trans rfl)
  have hz274_4 := (show W_.cell? ⟨gb274, 4, none⟩ = some (.string t270) from (blk_cell bk274_ 4).trans rfl)
  have hz274_5 := (show W_.cell? ⟨gb274, 5, none⟩ = some (.slice Ao20 t271.length co20) from (blk_cell bk274_ 5).trans rfl)
  have BK274_ := aM bk274_
  clear bk274_
  have hz301_0 := (show W_.cell? ⟨gb301, 0, none⟩ = some (.int .i64 t297) from (blk_cell bk301_ 0).trans rfl)
  have hz301_1 := (show W_.cell? ⟨gb301, 1, none⟩ = some (.int .i64 t298) from (blk_cell bk301_ 1).trans rfl)
  have hz301_2 := (show W_.cell? ⟨gb301, 2, none⟩ = some (.string t299) from (blk_cell bk301_ 2).trans rfl)
  have BK301_ := aM bk301_
  clear bk301_
  have HB_ := aM hB_
  clear hB_
  have H := HC_.out
  clear HC_
  have hh : antipodelaw19_begun.hole t297 t298 t299 t300 t329 t330 = true := by
   by_cases hh : antipodelaw19_begun.hole t297 t298 t299 t300 t329 t330 = true
   ·exact hh
   ·rw [if_neg hh] at H
    exact absurd H (by simp)
  rw [if_pos hh] at H
  obtain rfl := Option.some.inj H
  clear H
  unfold antipodelaw19_begun.hole at hh
  simp only [Bool.and_eq_true, decide_eq_true_eq, List.isEmpty_iff] at hh
  obtain ⟨⟨⟨⟨⟨q0, q1⟩, q2⟩, q3⟩, q4⟩, q5⟩ := hh
  have hT : expr_True.f t297 t298 t299 = some true := by
   unfold expr_True.f expr_truth.f
   simp [q0, q1, q2, antipodelaw19_begun.empty]
  have hF : expr_True.f 0 0 ⟨#[]⟩ = some false := by
   unfold expr_True.f expr_truth.f
   simp
  have HT_ := aM hT
  have HF_ := aM hF
  have f0 : (t300 == 0) = true := beq_iff_eq.mpr q3
  have f1 : (t329 == 3) = true := beq_iff_eq.mpr q4
  have f2 : (t330 == 0) = true := beq_iff_eq.mpr q5
  clear q0 q1 q2 q3 q4 q5 hT hF
  go_wp2_with (first | (go_at_call 17; (with_reducible refine (expr_True.calls t297 t298 t299 true _ HT_.out).mono ?_); rintro e w1_ ⟨rfl, hb1_⟩; have HB1_ := aM (below_step HB_.out hb1_)) | (go_at_call 17; (with_reducible refine (expr_True.calls 0 0 ⟨#[]⟩ false _ HF_.out).mono ?_); rintro e w2_ ⟨rfl, hb2_⟩))
  go_ret
  exact ⟨rfl, below_step HB1_.out hb2_⟩
 ·rw [if_neg c5] at H
  exact absurd H (by simp)

end Go.Proofs.Ytpmecpmankpcbaa.PK
