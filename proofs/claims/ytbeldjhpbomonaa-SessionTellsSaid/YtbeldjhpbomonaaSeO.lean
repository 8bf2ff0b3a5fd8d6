/- A span's cells, opened; no condition. -/
import Derived.Test.YtbeldjhpbomonaaSex0
import Derived.Test.YtbeldjhpbomonaaOp
namespace Go.Proofs.Ytbeldjhpbomonaa.Se
open Go.RowKit Go.ChangeShapes Go.WideShapes Go.Proofs.YtbeldjhpbomonaaW.PrintWords Go.Proofs.YtbeldjhpbomonaaOp
set_option linter.unusedVariables false
variable {H : Type} {enc : TypeId × Value → H} {w : World} {base : Nat} {spare : Nat → Bool} {held : Bool}
theorem span_elem {n : Nat} {cs : List Value} {x : DataW H × List MemPlace} (h : DataW.trod enc Try.prog w base spare held n 35 cs = some x) (hl : cs.length = 2) : ∃ s : S35, k35.K w s cs := by
  match cs, hl with
  | [c0, c1], _ =>
    obtain ⟨y0, y1, m, _, _, h0, h1⟩ := trod_struct2 Try.underlying35 h
    have e2 : Try.prog.cellsOf 2 = 1 := by kernel_rfl
    rw [e2] at h0 h1
    obtain ⟨v0, rfl⟩ := int_cell Try.underlying2 h0
    obtain ⟨v1, rfl⟩ := int_cell Try.underlying2 h1
    exact ⟨⟨v0, v1⟩, k35_mk w ⟨v0, v1⟩⟩
end Go.Proofs.Ytbeldjhpbomonaa.Se
