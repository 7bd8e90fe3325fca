/- What a reading of the laws' arguments tells. No conditions. -/
import Derived.Test.YtpmecpmankpcbaaPKw
import Derived.Test.YtpmecpmankpcbaaOpens
namespace Go.Proofs.Ytpmecpmankpcbaa.PK
open Go.RowKit Go.ChangeShapes Go.WideShapes Go.Proofs.YtpmecpmankpcbaaW.PrintWords Go.Proofs.YtpmecpmankpcbaaW.PrintLast Go.Proofs.YtpmecpmankpcbaaW.PrintMore Go.Proofs.Ytpmecpmankpcbaa.Opens
theorem op_3 {H : Type} {enc : TypeId × Value → H} {w : World} {base : Nat} {spare : Nat → Bool} {held : Bool} : ∀ (fuel : Nat) (cs : List Value) (x : DataW H × List MemPlace), DataW.trod enc Try.prog w base spare held fuel 3 cs = some x → ∃ y : Int, ((Kd.int .i64)).K w y cs ∧ (Lit.int .i64 y).wf = true := by
  intro fuel cs x h
  obtain ⟨m, rfl, _, hw⟩ := DataW.trod_int Try.underlying3 h
  exact ⟨m, rfl, hw⟩
theorem op_9 {H : Type} {enc : TypeId × Value → H} {w : World} {base : Nat} {spare : Nat → Bool} {held : Bool} : ∀ (fuel : Nat) (cs : List Value) (x : DataW H × List MemPlace), DataW.trod enc Try.prog w base spare held fuel 9 cs = some x → ∃ y : ByteArray, (Kd.string).K w y cs ∧ y.size ≤ maxLen := by
  intro fuel cs x h
  obtain ⟨m, rfl, _, hw⟩ := DataW.trod_string Try.underlying9 h
  exact ⟨m, rfl, hw⟩
theorem op_2 {H : Type} {enc : TypeId × Value → H} {w : World} {base : Nat} {spare : Nat → Bool} {held : Bool} : ∀ (fuel : Nat) (cs : List Value) (x : DataW H × List MemPlace), DataW.trod enc Try.prog w base spare held fuel 2 cs = some x → ∃ y : Int, ((Kd.int .i64)).K w y cs ∧ (Lit.int .i64 y).wf = true := by
  intro fuel cs x h
  obtain ⟨m, rfl, _, hw⟩ := DataW.trod_int Try.underlying2 h
  exact ⟨m, rfl, hw⟩
theorem op_23 {H : Type} {enc : TypeId × Value → H} {w : World} {base : Nat} {spare : Nat → Bool} {held : Bool} : ∀ (fuel : Nat) (cs : List Value) (x : DataW H × List MemPlace), DataW.trod enc Try.prog w base spare held fuel 23 cs = some x → ∃ y : S23, (k23).K w y cs ∧ W23 y := by
  intro fuel
  intro cs x h
  obtain ⟨xs, n, rfl, rfl, hl, hxl, hf⟩ := DataW.trod_struct Try.underlying23 h
  have hl1 : cs.length = 3 := hl.trans (by kernel_rfl)
  clear h hl
  obtain ⟨c0_, c1_, c2_, rfl⟩ : ∃ c0_ c1_ c2_, cs = [c0_, c1_, c2_] := by
    match cs, hl1 with
    | [c0_, c1_, c2_], _ => exact ⟨_, _, _, rfl⟩
  obtain ⟨z0, hz0⟩ : ∃ z, xs[0]? = some z := ⟨_, List.getElem?_eq_getElem (show 0 < xs.length by rw [hxl]; decide)⟩
  have g0 : DataW.trod enc Try.prog w base spare held n 3 (List.take (Try.prog.cellsOf 3) (List.drop 0 [c0_, c1_, c2_])) = some z0 := by rw [← hz0]; exact hf 0 _ rfl
  rw [show Try.prog.cellsOf 3 = 1 from by kernel_rfl] at g0
  replace g0 : DataW.trod enc Try.prog w base spare held n 3 [c0_] = some z0 := g0
  obtain ⟨z1, hz1⟩ : ∃ z, xs[1]? = some z := ⟨_, List.getElem?_eq_getElem (show 1 < xs.length by rw [hxl]; decide)⟩
  have g1 : DataW.trod enc Try.prog w base spare held n 2 (List.take (Try.prog.cellsOf 2) (List.drop 1 [c0_, c1_, c2_])) = some z1 := by rw [← hz1]; exact hf 1 _ rfl
  rw [show Try.prog.cellsOf 2 = 1 from by kernel_rfl] at g1
  replace g1 : DataW.trod enc Try.prog w base spare held n 2 [c1_] = some z1 := g1
  obtain ⟨z2, hz2⟩ : ∃ z, xs[2]? = some z := ⟨_, List.getElem?_eq_getElem (show 2 < xs.length by rw [hxl]; decide)⟩
  have g2 : DataW.trod enc Try.prog w base spare held n 9 (List.take (Try.prog.cellsOf 9) (List.drop 2 [c0_, c1_, c2_])) = some z2 := by rw [← hz2]; exact hf 2 _ rfl
  rw [show Try.prog.cellsOf 9 = 1 from by kernel_rfl] at g2
  replace g2 : DataW.trod enc Try.prog w base spare held n 9 [c2_] = some z2 := g2
  obtain ⟨y0, hK0, hw0⟩ := op_3 n _ _ g0
  obtain rfl : c0_ = .int .i64 y0 := by simpa using (show [c0_] = _ from hK0)
  obtain ⟨y1, hK1, hw1⟩ := op_2 n _ _ g1
  obtain rfl : c1_ = .int .i64 y1 := by simpa using (show [c1_] = _ from hK1)
  obtain ⟨y2, hK2, hw2⟩ := op_9 n _ _ g2
  obtain rfl : c2_ = .string y2 := by simpa using (show [c2_] = _ from hK2)
  exact ⟨(⟨y0, y1, y2⟩ : S23), k23_mk w (⟨y0, y1, y2⟩ : S23) , ⟨hw0, hw1, hw2⟩⟩
theorem op_26 {H : Type} {enc : TypeId × Value → H} {w : World} {base : Nat} {spare : Nat → Bool} {held : Bool} : ∀ (fuel : Nat) (cs : List Value) (x : DataW H × List MemPlace), DataW.trod enc Try.prog w base spare held fuel 26 cs = some x → ∃ y : S26, (k26).K w y cs ∧ W26 y := by
  intro fuel
  induction fuel using Nat.strongRecOn with
  | _ fuel ih =>
  intro cs x h
  obtain ⟨xs, n, rfl, rfl, hl, hxl, hf⟩ := DataW.trod_struct Try.underlying26 h
  have hl1 : cs.length = 6 := hl.trans (by kernel_rfl)
  clear h hl
  obtain ⟨c0_, c1_, c2_, c3_, c4_, c5_, rfl⟩ : ∃ c0_ c1_ c2_ c3_ c4_ c5_, cs = [c0_, c1_, c2_, c3_, c4_, c5_] := by
    match cs, hl1 with
    | [c0_, c1_, c2_, c3_, c4_, c5_], _ => exact ⟨_, _, _, _, _, _, rfl⟩
  obtain ⟨z0, hz0⟩ : ∃ z, xs[0]? = some z := ⟨_, List.getElem?_eq_getElem (show 0 < xs.length by rw [hxl]; decide)⟩
  have g0 : DataW.trod enc Try.prog w base spare held n 3 (List.take (Try.prog.cellsOf 3) (List.drop 0 [c0_, c1_, c2_, c3_, c4_, c5_])) = some z0 := by rw [← hz0]; exact hf 0 _ rfl
  rw [show Try.prog.cellsOf 3 = 1 from by kernel_rfl] at g0
  replace g0 : DataW.trod enc Try.prog w base spare held n 3 [c0_] = some z0 := g0
  obtain ⟨z1, hz1⟩ : ∃ z, xs[1]? = some z := ⟨_, List.getElem?_eq_getElem (show 1 < xs.length by rw [hxl]; decide)⟩
  have g1 : DataW.trod enc Try.prog w base spare held n 9 (List.take (Try.prog.cellsOf 9) (List.drop 1 [c0_, c1_, c2_, c3_, c4_, c5_])) = some z1 := by rw [← hz1]; exact hf 1 _ rfl
  rw [show Try.prog.cellsOf 9 = 1 from by kernel_rfl] at g1
  replace g1 : DataW.trod enc Try.prog w base spare held n 9 [c1_] = some z1 := g1
  obtain ⟨z2, hz2⟩ : ∃ z, xs[2]? = some z := ⟨_, List.getElem?_eq_getElem (show 2 < xs.length by rw [hxl]; decide)⟩
  have g2 : DataW.trod enc Try.prog w base spare held n 23 (List.take (Try.prog.cellsOf 23) (List.drop 2 [c0_, c1_, c2_, c3_, c4_, c5_])) = some z2 := by rw [← hz2]; exact hf 2 _ rfl
  rw [show Try.prog.cellsOf 23 = 3 from by kernel_rfl] at g2
  replace g2 : DataW.trod enc Try.prog w base spare held n 23 [c2_, c3_, c4_] = some z2 := g2
  obtain ⟨z3, hz3⟩ : ∃ z, xs[3]? = some z := ⟨_, List.getElem?_eq_getElem (show 3 < xs.length by rw [hxl]; decide)⟩
  have g3 : DataW.trod enc Try.prog w base spare held n 24 (List.take (Try.prog.cellsOf 24) (List.drop 5 [c0_, c1_, c2_, c3_, c4_, c5_])) = some z3 := by rw [← hz3]; exact hf 3 _ rfl
  rw [show Try.prog.cellsOf 24 = 1 from by kernel_rfl] at g3
  replace g3 : DataW.trod enc Try.prog w base spare held n 24 [c5_] = some z3 := g3
  obtain ⟨y0, hK0, hw0⟩ := op_3 n _ _ g0
  obtain rfl : c0_ = .int .i64 y0 := by simpa using (show [c0_] = _ from hK0)
  obtain ⟨y1, hK1, hw1⟩ := op_9 n _ _ g1
  obtain rfl : c1_ = .string y1 := by simpa using (show [c1_] = _ from hK1)
  obtain ⟨y2, hK2, hw2⟩ := op_23 n _ _ g2
  have e2 := k23_open hK2
  simp only [List.cons.injEq, and_true] at e2
  obtain ⟨rfl, rfl, rfl⟩ := e2
  obtain ⟨A3, y3, k3, e3, l3, hm3, q3, hw3⟩ := open_slice (k26) Try.underlying24 (by kernel_rfl) (fun y_ => W26 y_) (fun m hm => ih m (by omega)) g3
  obtain rfl : c5_ = .slice A3 y3.length k3 := by simpa using e3
  exact ⟨(⟨y0, y1, y2, y3⟩ : S26), k26_mk w (⟨y0, y1, y2, y3⟩ : S26) l3 q3, W26.mk hw0 hw1 hw2 (Nat.le_trans l3 hm3) hw3⟩
theorem op_40 {H : Type} {enc : TypeId × Value → H} {w : World} {base : Nat} {spare : Nat → Bool} {held : Bool} : ∀ (fuel : Nat) (cs : List Value) (x : DataW H × List MemPlace), DataW.trod enc Try.prog w base spare held fuel 40 cs = some x → ∃ y : List (S23), ((Kd.slice 23 k23)).K w y cs ∧ (y.length ≤ maxLen ∧ ∀ y_ ∈ y, W23 y_) := by
  intro fuel cs x h
  obtain ⟨A, xs, c, rfl, hl, hm, hC, hw⟩ := open_slice (k23) Try.underlying40 (by kernel_rfl) (fun y_ => W23 y_) (fun n _ => op_23 n) h
  exact ⟨xs, ⟨A, c, rfl, hl, hC⟩, Nat.le_trans hl hm, hw⟩
end Go.Proofs.Ytpmecpmankpcbaa.PK
