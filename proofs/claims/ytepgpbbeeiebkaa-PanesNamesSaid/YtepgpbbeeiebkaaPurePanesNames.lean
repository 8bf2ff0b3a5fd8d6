/- PanesNames' plain statement: the named cases answer as they are named; no condition. -/
import Derived.Test.YtepgpbbeeiebkaaStx21
import Derived.Test.YtepgpbbeeiebkaaPvP
import Derived.Test.YtepgpbbeeiebkaaPvS
namespace Go.Proofs.Ytepgpbbeeiebkaa.Pure
open Go.RowKit Go.Proofs.Ytepgpbbeeiebkaa.St Go.Proofs.YtepgpbbeeiebkaaPv Go.Proofs.YtepgpbbeeiebkaaW.PrintWords Go.Proofs.YtepgpbbeeiebkaaW.PrintLast
set_option linter.unusedVariables false

theorem size_bad {a b : Int} (h : sizesOk a b = false) {k : Nat} (hk : 18 ≤ k) : panes_Size.f k a b = some (0, 2) := by
  unfold panes_Size.f
  rw [slide_bad_size h hk, Option.bind_some, if_neg (by decide)]
theorem parts_bad {kd sz ev : Int} (h : slidE kd sz ev ≠ 0) (a b : Int) {k : Nat} (hk : 2 ≤ k) : panes_Parts.f k kd sz ev a b = some ([], slidE kd sz ev) := by
  unfold panes_Parts.f
  rw [sliding_ok kd sz ev hk, Option.bind_some, if_neg h]
theorem valuesA : panes_Values.f 3 4 0 (List.replicate 241 z26) = some ([], 2) := by kernel_rfl
theorem valuesB : panes_Values.f 2 10 4 (List.replicate 241 z26) = some ([], 4) := by kernel_rfl
theorem valuesD : panes_Values.f 2 10 4 [(⟨0, 1099511627777, 0⟩ : S26)] = some ([], 16) := by kernel_rfl
theorem valuesE : ∃ x, panes_Values.f 2 10 4 [(⟨0, (-1099511627776), 0⟩ : S26)] = some (x, 0) ∧ x.length = 3 := ⟨_, rfl, by kernel_rfl⟩
theorem valuesC_ : ∃ x, panes_Values.f 2 10 4 (List.replicate 240 z26) = some (x, 0) ∧ x.length = 3 ∧ (rd_T39 x 0).f2.f0.f0 = 240 :=
  ⟨(valuesC (winsAt 10 4) ((List.replicate 240 z26).map recOf)).map (entryOf 10), by kernel_rfl, by kernel_rfl, by kernel_rfl⟩
set_option maxRecDepth 100000 in
theorem PanesNames_at {k : Nat} (hk : 1073750000 ≤ k) : tailwaterlaw19_PanesNames.f k = some true := by
  obtain ⟨x, hx, hx1, hx2⟩ := valuesC_
  obtain ⟨y, hy, hy1⟩ := valuesE
  have p5 : partsOut 10 4 2 12 = ([], 2) := by kernel_rfl
  have p6 : partsOut 10 4 4 13 = ([], 2) := by kernel_rfl
  have p7 : partsOut 10 4 1099511627780 1099511627790 = ([], 2) := by kernel_rfl
  have p8 : partsOut 4001 4000 0 4001 = ([], 4) := by kernel_rfl
  have p9 : partsOut 4000 3999 3999 7999 = (partsL 3999 1 4000, 0) := by
    have e1 : partN 4000 3999 = 4000 := by kernel_rfl
    have e2 : gcdI 4000 3999 = 1 := by kernel_rfl
    unfold partsOut
    rw [if_pos (by decide), e1, e2, if_neg (by decide)]
  have w0 : winE 0 0 0 = 8 := by kernel_rfl
  have s0 : slidE 0 0 0 = 8 := by kernel_rfl
  have s1 : slidE 1 4 0 = 2 := by kernel_rfl
  have g1 : gcdI 1073741824 1073741823 = 1 := by kernel_rfl
  have e0 : tailwaterlaw19_example.f = some (2, 10, 4) := rfl
  unfold tailwaterlaw19_PanesNames.f
  rw [e0, Option.bind_some, size_bad (by decide) (by omega), Option.bind_some, size_bad (by decide) (by omega), Option.bind_some, size_bad (by decide) (by omega), Option.bind_some, size_ok (by decide) (by rw [show ((1073741823 : Int)).toNat = 1073741823 from rfl]; omega), Option.bind_some,
    parts_bad (by rw [s0]; decide) 0 0 (by omega), Option.bind_some, parts_bad (by rw [s1]; decide) 0 4 (by omega), Option.bind_some,
    parts_ok (kd := 2) (sz := 10) (ev := 4) (by decide) 2 12 (by rw [show ((4 : Int)).toNat = 4 from rfl]; omega), Option.bind_some,
    parts_ok (kd := 2) (sz := 10) (ev := 4) (by decide) 4 13 (by rw [show ((4 : Int)).toNat = 4 from rfl]; omega), Option.bind_some,
    parts_ok (kd := 2) (sz := 10) (ev := 4) (by decide) 1099511627780 1099511627790 (by rw [show ((4 : Int)).toNat = 4 from rfl]; omega), Option.bind_some,
    parts_ok (kd := 2) (sz := 4001) (ev := 4000) (by decide) 0 4001 (by rw [show ((4000 : Int)).toNat = 4000 from rfl]; omega), Option.bind_some,
    parts_ok (kd := 2) (sz := 4000) (ev := 3999) (by decide) 3999 7999 (by rw [show ((3999 : Int)).toNat = 3999 from rfl]; omega), Option.bind_some,
    if_pos (by decide), valuesA, Option.bind_some, valuesB, Option.bind_some, if_pos (by decide), hx, Option.bind_some, valuesD, Option.bind_some, hy, Option.bind_some, alive_ok (by omega), Option.bind_some, refWindow_ok 0 0 0 (by omega), Option.bind_some,
    p5, p6, p7, p8, p9, w0, s0, s1, g1]
  simp only [partsL_length, hx1, hx2, hy1]
  decide
theorem PanesNames : tailwaterlaw19_PanesNames.Pure := by
  obtain ⟨k, hk⟩ : ∃ k : Nat, 1073750000 ≤ k := ⟨_, Nat.le_refl _⟩
  exact ⟨k, PanesNames_at hk⟩
end Go.Proofs.Ytepgpbbeeiebkaa.Pure
