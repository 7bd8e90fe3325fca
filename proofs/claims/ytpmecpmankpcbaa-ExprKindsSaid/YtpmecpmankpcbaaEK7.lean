/- The law ExprKinds: what it computes is true, in lists and trees alone. No conditions. -/
import Derived.Test.YtpmecpmankpcbaaEK6
import Derived.Test.YtpmecpmankpcbaaPKx17
namespace Go.Proofs.Ytpmecpmankpcbaa.EK
open Go.RowKit Go.Proofs.YtpmecpmankpcbaaW.PrintWords Go.Proofs.YtpmecpmankpcbaaW.PrintLast Go.Proofs.Ytpmecpmankpcbaa.PK
set_option linter.unusedVariables false
set_option linter.unusedSimpArgs false

def tname : ByteArray := ⟨#[84]⟩
def tcols : List S57 := [⟨⟨#[78]⟩, 2, true⟩, ⟨⟨#[66]⟩, 1, true⟩, ⟨⟨#[83]⟩, 3, true⟩]
def lit0 : S26 := ⟨1, ⟨#[]⟩, ⟨0, 0, ⟨#[]⟩⟩, []⟩
def lit1 : S26 := ⟨1, ⟨#[]⟩, ⟨1, 1, ⟨#[]⟩⟩, []⟩
def orTree : S26 := ⟨3, ⟨#[79, 82]⟩, ⟨0, 0, ⟨#[]⟩⟩, [lit0, lit1]⟩
def nameTree : S26 := ⟨2, ⟨#[83]⟩, ⟨0, 0, ⟨#[]⟩⟩, []⟩
theorem toL0 : (⟨#[]⟩ : ByteArray).toList = [] := by
  simp [ByteArray.toList, ByteArray.toList.loop, ByteArray.size]
theorem toL1 (a : UInt8) : (⟨#[a]⟩ : ByteArray).toList = [a] := by
  simp [ByteArray.toList, ByteArray.toList.loop, ByteArray.size, ByteArray.get!]
theorem toL2 (a b : UInt8) : (⟨#[a, b]⟩ : ByteArray).toList = [a, b] := by
  simp [ByteArray.toList, ByteArray.toList.loop, ByteArray.size, ByteArray.get!]
theorem w_lit0 : W26 lit0 := W26.mk (by decide) (by decide) ⟨by decide, by decide, by decide⟩ (by decide) (by intro y hy; simp [lit0] at hy)
theorem w_lit1 : W26 lit1 := W26.mk (by decide) (by decide) ⟨by decide, by decide, by decide⟩ (by decide) (by intro y hy; simp [lit1] at hy)
theorem w_or : W26 orTree := W26.mk (by decide) (by decide) ⟨by decide, by decide, by decide⟩ (by simp [orTree, maxLen]) (by
  intro y hy
  simp only [orTree, List.mem_cons, List.not_mem_nil, or_false] at hy
  rcases hy with rfl | rfl
  · exact w_lit0
  · exact w_lit1)
theorem w_name : W26 nameTree := W26.mk (by decide) (by decide) ⟨by decide, by decide, by decide⟩ (by decide) (by intro y hy; simp [nameTree] at hy)
theorem type_or : typeOf tcols orTree = (1, 0) := by
  simp [typeOf, small, smallL, orTree, lit0, lit1, kind, kinds, may, toL0, toL2, expr_operator.kind, expr_operator.tell, expr_operator.every]
theorem type_name : typeOf tcols nameTree = (3, 0) := by
  simp [typeOf, small, smallL, nameTree, tcols, kind, kinds, may, toL0, toL1, col, List.findIdx?_cons, rd_T57]
theorem value_or (row : List S23) : value tcols row orTree = (truth true, 0) := by
  simp [orTree, lit0, lit1, value, values, does, both, isNull, truth, toL0, toL2]
theorem eval_or : evalOf tcols (List.replicate 3 z23) orTree = (truth true, 0) := by
  unfold evalOf
  rw [type_or, value_or]
  simp [rowOk, tcols, List.replicate, z23, may, toL0]
theorem begun_ev : Ev antipodelaw19_begun.f true := by
  have hE := eval_ev tname tcols 0 0 0 [] [] [] 0 0 0 (List.replicate 3 z23) orTree w_or (by intro v hv; rw [List.mem_replicate] at hv; rw [hv.2]; exact ⟨by decide, by decide, by decide⟩) (by simp)
  have hT := type_ev tname tcols 0 0 0 [] [] [] 0 0 0 nameTree w_name
  rw [eval_or] at hE
  rw [type_name] at hT
  simp only [orTree, nameTree, tname, tcols, lit0, lit1] at hE hT
  unfold antipodelaw19_begun.f antipodelaw19_lit.f antipodelaw19_op.f antipodelaw19_Table.f antipodelaw19_name.f
  simp only [Option.bind_some]
  refine Ev.pos (by decide) (Ev.bind hE (Ev.bind hT (Ev.pos ?_ (Ev.now _))))
  simp [antipodelaw19_begun.hole, t4, truth, toL0]
end Go.Proofs.Ytpmecpmankpcbaa.EK
