/- A record's and a row's cells, opened; no condition. -/
import Derived.Test.YtbeldjhpbomonaaSix0
import Derived.Test.YtbeldjhpbomonaaOp
import Derived.Deep.Strs
namespace Go.Proofs.Ytbeldjhpbomonaa.Si
open Go.RowKit Go.ChangeShapes Go.WideShapes Go.Deep Go.Proofs.YtbeldjhpbomonaaW.PrintWords Go.Proofs.YtbeldjhpbomonaaOp
set_option linter.unusedVariables false
variable {H : Type} {enc : TypeId × Value → H} {w : World} {base : Nat} {spare : Nat → Bool} {held : Bool}
theorem cells2 : Try.prog.cellsOf 2 = 1 := by kernel_rfl
theorem cells35 : Try.prog.cellsOf 35 = 2 := by kernel_rfl
theorem cells36 : Try.prog.cellsOf 36 = 2 := by kernel_rfl
theorem rec_elem {n : Nat} {cs : List Value} {x : DataW H × List MemPlace} (h : DataW.trod enc Try.prog w base spare held n 33 cs = some x) (hl : cs.length = 3) : ∃ s : S33, k33.K w s cs := by
  match cs, hl with
  | [c0, c1, c2], _ =>
    obtain ⟨y0, y1, y2, m, _, _, h0, h1, h2⟩ := trod_struct3 Try.underlying33 h
    rw [cells2] at h0 h1 h2
    obtain ⟨v0, rfl⟩ := int_cell Try.underlying2 h0
    obtain ⟨v1, rfl⟩ := int_cell Try.underlying2 h1
    obtain ⟨v2, rfl⟩ := int_cell Try.underlying2 h2
    exact ⟨⟨v0, v1, v2⟩, k33_mk w ⟨v0, v1, v2⟩⟩
theorem span_ints {n : Nat} {c0 c1 : Value} {x : DataW H × List MemPlace} (h : DataW.trod enc Try.prog w base spare held n 35 [c0, c1] = some x) : ∃ v0 v1 : Int, c0 = .int .i64 v0 ∧ c1 = .int .i64 v1 := by
  obtain ⟨y0, y1, m, _, _, h0, h1⟩ := trod_struct2 Try.underlying35 h
  rw [cells2] at h0 h1
  obtain ⟨v0, e0⟩ := int_cell Try.underlying2 h0
  obtain ⟨v1, e1⟩ := int_cell Try.underlying2 h1
  exact ⟨v0, v1, e0, e1⟩
set_option maxRecDepth 100000 in
theorem pair_ints {n : Nat} {c0 c1 : Value} {x : DataW H × List MemPlace} (h : DataW.trod enc Try.prog w base spare held n 36 [c0, c1] = some x) : ∃ v0 v1 : Int, c0 = .int .i64 v0 ∧ c1 = .int .i64 v1 := by
  obtain ⟨xs, m, _, _, _, hl, hf⟩ := DataW.trod_array Try.underlying36 h
  match xs, hl with
  | [y0, y1], _ =>
    have h0 := hf 0 (by omega)
    have h1 := hf 1 (by omega)
    rw [cells2] at h0 h1
    obtain ⟨v0, e0⟩ := int_cell Try.underlying2 h0
    obtain ⟨v1, e1⟩ := int_cell Try.underlying2 h1
    exact ⟨v0, v1, e0, e1⟩
theorem row_elem {n : Nat} {cs : List Value} {x : DataW H × List MemPlace} (h : DataW.trod enc Try.prog w base spare held n 38 cs = some x) (hl : cs.length = 5) : ∃ s : S38, k38.K w s cs := by
  match cs, hl with
  | [c0, c1, c2, c3, c4], _ =>
    obtain ⟨y0, y1, y2, m, _, _, h0, h1, h2⟩ := trod_struct3 Try.underlying38 h
    rw [cells2] at h0
    rw [cells35] at h1
    rw [cells36] at h2
    obtain ⟨v0, rfl⟩ := int_cell Try.underlying2 h0
    obtain ⟨v1, v2, rfl, rfl⟩ := span_ints h1
    obtain ⟨v3, v4, rfl, rfl⟩ := pair_ints h2
    exact ⟨⟨v0, ⟨v1, v2⟩, ⟨v3, v4⟩⟩, k38_mk w ⟨v0, ⟨v1, v2⟩, ⟨v3, v4⟩⟩⟩
end Go.Proofs.Ytbeldjhpbomonaa.Si
