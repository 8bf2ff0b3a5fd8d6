/- Contracts of functions of the program, each over a plain Lean function of the same answers: written by pdrive.py, a program of this session that drives the kit's printer with some functions given by hand; conditions: as each theorem says. -/
import Derived.Test.YtepgpbbeeiebkaaStx0
import Derived.Test.YtepgpbbeeiebkaaStx1
import Derived.Test.YtepgpbbeeiebkaaStx12
import Derived.Test.YtepgpbbeeiebkaaStx13
import Derived.Test.YtepgpbbeeiebkaaStx14
import Derived.Test.YtepgpbbeeiebkaaStx17
import Derived.Test.YtepgpbbeeiebkaaStx19
import Derived.Test.YtepgpbbeeiebkaaCpt
namespace Go.Proofs.Ytepgpbbeeiebkaa.St
open Go.RowKit Go.Proofs.YtepgpbbeeiebkaaFar Go.Proofs.YtepgpbbeeiebkaaW.PrintWords Go.Proofs.YtepgpbbeeiebkaaW.PrintLast Go.Proofs.YtepgpbbeeiebkaaW.PrintMore
attribute [local go_sem] max2_int min2_int max_two min_two max_three min_three max_four min_four   -- for this text's walks alone
set_option linter.unusedVariables false
set_option linter.unusedSimpArgs false

attribute [local go_sem high] eqA34
/-! ### tailwaterlaw19_PanesCommon: function 14 -/
mutual
def tailwaterlaw19_PanesCommon.j0 : Nat → Int → Bool → Bool → Int → Int → Int → Option (Bool)
  | 0, _, _, _, _, _, _ => none
  | k + 1, x1, x5, x38, x222000, x222001, x222002 => if x38 = true then (some x5) else ((slide_Of.f k x222000 x222001 x222002 x1).bind fun bt226 => (if bt226.2 = 0 then (if (bt226.1.length : Int) < 2 then (tailwaterlaw19_PanesCommon.j1 k x5 bt226.1 bt226.2 true x222000 x222001 x222002) else (if 0 < (bt226.1.length : Int) then ((tailwaterref13_Check.f k ((rd_T34 bt226.1 0).f0) 1).bind fun t231 => (if t231 = 0 then (if 1 < (bt226.1.length : Int) then ((tailwaterref13_Check.f k ((rd_T34 bt226.1 1).f0) 1).bind fun t233 => (tailwaterlaw19_PanesCommon.j1 k x5 bt226.1 bt226.2 (t233 != 0) x222000 x222001 x222002)) else (none)) else (tailwaterlaw19_PanesCommon.j1 k x5 bt226.1 bt226.2 true x222000 x222001 x222002))) else (none))) else (tailwaterlaw19_PanesCommon.j1 k x5 bt226.1 bt226.2 true x222000 x222001 x222002)))
def tailwaterlaw19_PanesCommon.j1 : Nat → Bool → List (S34) → Int → Bool → Int → Int → Int → Option (Bool)
  | 0, _, _, _, _, _, _, _ => none
  | k + 1, x5, x6, x7, x68, x222000, x222001, x222002 => if x68 = true then (if x5 = true then (some (x7 == 0)) else (some false)) else (if 0 < (x6.length : Int) then ((panes_Parts.f k x222000 x222001 x222002 ((rd_T34 x6 0).f0) ((rd_T34 x6 0).f1)).bind fun bt235 => (if 1 < (x6.length : Int) then ((panes_Parts.f k x222000 x222001 x222002 ((rd_T34 x6 1).f0) ((rd_T34 x6 1).f1)).bind fun bt240 => (if bt235.2 = 0 then (tailwaterlaw19_PanesCommon.j2 k x5 x6 bt235.1 bt240.1 (bt240.2 != 0)) else (tailwaterlaw19_PanesCommon.j2 k x5 x6 bt235.1 bt240.1 true))) else (none))) else (none))
def tailwaterlaw19_PanesCommon.j2 : Nat → Bool → List (S34) → List (S34) → List (S34) → Bool → Option (Bool)
  | 0, _, _, _, _, _ => none
  | k + 1, x5, x6, x8, x10, x95 => if x95 = true then (some false) else (tailwaterlaw19_PanesCommon.l0 k x5 x6 x8 x10 0 0)
def tailwaterlaw19_PanesCommon.l0 : Nat → Bool → List (S34) → List (S34) → List (S34) → Int → Int → Option (Bool)
  | 0, _, _, _, _, _, _ => none
  | k + 1, x5, x6, x8, x10, x12, x13 => if x13 < (x8.length : Int) then (tailwaterlaw19_PanesCommon.l1 k x5 x6 x8 x10 x12 x13 0) else (if x5 = true then (if 0 < (x6.length : Int) then (if 1 < (x6.length : Int) then (some (x12 == (wrap64 (((rd_T34 x6 0).f1) - ((rd_T34 x6 1).f0))))) else (none)) else (none)) else (some false))
def tailwaterlaw19_PanesCommon.l1 : Nat → Bool → List (S34) → List (S34) → List (S34) → Int → Int → Int → Option (Bool)
  | 0, _, _, _, _, _, _, _ => none
  | k + 1, x5, x6, x8, x10, x12, x13, x14 => if x14 < (x10.length : Int) then (if 0 ≤ x13 then (if x13 < (x8.length : Int) then (if 0 ≤ x14 then (if (((rd_T34 x8 x13).f0) == ((rd_T34 x10 x14).f0) && (((rd_T34 x8 x13).f1) == ((rd_T34 x10 x14).f1))) = true then (tailwaterlaw19_PanesCommon.l1 k x5 x6 x8 x10 (wrap64 (x12 + (wrap64 (((rd_T34 x8 x13).f1) - ((rd_T34 x8 x13).f0))))) x13 (wrap64 (x14 + 1))) else ((tailwaterref15_Overlap.f ((rd_T34 x8 x13).f0) ((rd_T34 x8 x13).f1) ((rd_T34 x10 x14).f0) ((rd_T34 x10 x14).f1)).bind fun t252 => (if t252 = true then (some false) else (tailwaterlaw19_PanesCommon.l1 k x5 x6 x8 x10 x12 x13 (wrap64 (x14 + 1)))))) else (none)) else (none)) else (none)) else (tailwaterlaw19_PanesCommon.l0 k x5 x6 x8 x10 x12 (wrap64 (x13 + 1)))
end
def tailwaterlaw19_PanesCommon.f (k : Nat) (a0_0 : Int) (a0_1 : Int) (a0_2 : Int) (a1 : Int) : Option (Bool) := (tailwaterlaw19_alive.f k).bind fun t222 => ((tailwaterref19_Asked.f k a0_0 a0_1 a0_2).bind fun t223 => (if t223 = 0 then ((tailwaterref13_Check.f k a1 1).bind fun t224 => (if t224 = 0 then ((tailwaterref19_Divisor.f k a0_1 a0_2).bind fun t225 => (if t225 = 0 then (none) else (if (wrap64 (Int.tdiv a0_1 t225)) > 200 then (tailwaterlaw19_PanesCommon.j0 k a1 t222 true a0_0 a0_1 a0_2) else (tailwaterlaw19_PanesCommon.j0 k a1 t222 (!t222) a0_0 a0_1 a0_2)))) else (tailwaterlaw19_PanesCommon.j0 k a1 t222 true a0_0 a0_1 a0_2))) else (tailwaterlaw19_PanesCommon.j0 k a1 t222 true a0_0 a0_1 a0_2)))
theorem tailwaterlaw19_PanesCommon.mono_l : ∀ k, (∀ y0 y1 y2 y3 y4 y5, LeO (tailwaterlaw19_PanesCommon.j0 k y0 y1 y2 y3 y4 y5) (tailwaterlaw19_PanesCommon.j0 (k + 1) y0 y1 y2 y3 y4 y5)) ∧ (∀ y0 y1 y2 y3 y4 y5 y6, LeO (tailwaterlaw19_PanesCommon.j1 k y0 y1 y2 y3 y4 y5 y6) (tailwaterlaw19_PanesCommon.j1 (k + 1) y0 y1 y2 y3 y4 y5 y6)) ∧ (∀ y0 y1 y2 y3 y4, LeO (tailwaterlaw19_PanesCommon.j2 k y0 y1 y2 y3 y4) (tailwaterlaw19_PanesCommon.j2 (k + 1) y0 y1 y2 y3 y4)) ∧ (∀ y0 y1 y2 y3 y4 y5, LeO (tailwaterlaw19_PanesCommon.l0 k y0 y1 y2 y3 y4 y5) (tailwaterlaw19_PanesCommon.l0 (k + 1) y0 y1 y2 y3 y4 y5)) ∧ (∀ y0 y1 y2 y3 y4 y5 y6, LeO (tailwaterlaw19_PanesCommon.l1 k y0 y1 y2 y3 y4 y5 y6) (tailwaterlaw19_PanesCommon.l1 (k + 1) y0 y1 y2 y3 y4 y5 y6))
  | 0 => ⟨fun _ _ _ _ _ _ r h => by simp [tailwaterlaw19_PanesCommon.j0] at h, fun _ _ _ _ _ _ _ r h => by simp [tailwaterlaw19_PanesCommon.j1] at h, fun _ _ _ _ _ r h => by simp [tailwaterlaw19_PanesCommon.j2] at h, fun _ _ _ _ _ _ r h => by simp [tailwaterlaw19_PanesCommon.l0] at h, fun _ _ _ _ _ _ _ r h => by simp [tailwaterlaw19_PanesCommon.l1] at h⟩
  | k + 1 => by
    obtain ⟨ih0, ih1, ih2, ih3, ih4⟩ := tailwaterlaw19_PanesCommon.mono_l k
    refine ⟨?_, ?_, ?_, ?_, ?_⟩
    · intro y0 y1 y2 y3 y4 y5
      unfold tailwaterlaw19_PanesCommon.j0
      repeat' first
      | (with_reducible exact ih0 _ _ _ _ _ _)
      | (with_reducible exact ih1 _ _ _ _ _ _ _)
      | (with_reducible exact ih2 _ _ _ _ _)
      | (with_reducible exact ih3 _ _ _ _ _ _)
      | (with_reducible exact ih4 _ _ _ _ _ _ _)
      | (with_reducible exact panes_Parts.mono _ _ _ _ _ _)
      | (with_reducible exact slide_Of.mono _ _ _ _ _)
      | (with_reducible exact tailwaterlaw19_alive.mono _)
      | (with_reducible exact tailwaterref13_Check.mono _ _ _)
      | (with_reducible exact tailwaterref19_Asked.mono _ _ _ _)
      | (with_reducible exact tailwaterref19_Divisor.mono _ _ _)
      | (with_reducible exact LeO.refl _)
      | (with_reducible exact LeO.none _)
      | (with_reducible refine LeO.ite ?_ ?_)
      | (with_reducible refine LeO.bind ?_ (fun _ => ?_))
      | exact ih0 _ _ _ _ _ _
      | exact ih1 _ _ _ _ _ _ _
      | exact ih2 _ _ _ _ _
      | exact ih3 _ _ _ _ _ _
      | exact ih4 _ _ _ _ _ _ _
      | exact panes_Parts.mono _ _ _ _ _ _
      | exact slide_Of.mono _ _ _ _ _
      | exact tailwaterlaw19_alive.mono _
      | exact tailwaterref13_Check.mono _ _ _
      | exact tailwaterref19_Asked.mono _ _ _ _
      | exact tailwaterref19_Divisor.mono _ _ _
      | exact LeO.none _
      | refine LeO.ite ?_ ?_
      | refine LeO.bind ?_ (fun _ => ?_)
    · intro y0 y1 y2 y3 y4 y5 y6
      unfold tailwaterlaw19_PanesCommon.j1
      repeat' first
      | (with_reducible exact ih0 _ _ _ _ _ _)
      | (with_reducible exact ih1 _ _ _ _ _ _ _)
      | (with_reducible exact ih2 _ _ _ _ _)
      | (with_reducible exact ih3 _ _ _ _ _ _)
      | (with_reducible exact ih4 _ _ _ _ _ _ _)
      | (with_reducible exact panes_Parts.mono _ _ _ _ _ _)
      | (with_reducible exact slide_Of.mono _ _ _ _ _)
      | (with_reducible exact tailwaterlaw19_alive.mono _)
      | (with_reducible exact tailwaterref13_Check.mono _ _ _)
      | (with_reducible exact tailwaterref19_Asked.mono _ _ _ _)
      | (with_reducible exact tailwaterref19_Divisor.mono _ _ _)
      | (with_reducible exact LeO.refl _)
      | (with_reducible exact LeO.none _)
      | (with_reducible refine LeO.ite ?_ ?_)
      | (with_reducible refine LeO.bind ?_ (fun _ => ?_))
      | exact ih0 _ _ _ _ _ _
      | exact ih1 _ _ _ _ _ _ _
      | exact ih2 _ _ _ _ _
      | exact ih3 _ _ _ _ _ _
      | exact ih4 _ _ _ _ _ _ _
      | exact panes_Parts.mono _ _ _ _ _ _
      | exact slide_Of.mono _ _ _ _ _
      | exact tailwaterlaw19_alive.mono _
      | exact tailwaterref13_Check.mono _ _ _
      | exact tailwaterref19_Asked.mono _ _ _ _
      | exact tailwaterref19_Divisor.mono _ _ _
      | exact LeO.none _
      | refine LeO.ite ?_ ?_
      | refine LeO.bind ?_ (fun _ => ?_)
    · intro y0 y1 y2 y3 y4
      unfold tailwaterlaw19_PanesCommon.j2
      repeat' first
      | (with_reducible exact ih0 _ _ _ _ _ _)
      | (with_reducible exact ih1 _ _ _ _ _ _ _)
      | (with_reducible exact ih2 _ _ _ _ _)
      | (with_reducible exact ih3 _ _ _ _ _ _)
      | (with_reducible exact ih4 _ _ _ _ _ _ _)
      | (with_reducible exact panes_Parts.mono _ _ _ _ _ _)
      | (with_reducible exact slide_Of.mono _ _ _ _ _)
      | (with_reducible exact tailwaterlaw19_alive.mono _)
      | (with_reducible exact tailwaterref13_Check.mono _ _ _)
      | (with_reducible exact tailwaterref19_Asked.mono _ _ _ _)
      | (with_reducible exact tailwaterref19_Divisor.mono _ _ _)
      | (with_reducible exact LeO.refl _)
      | (with_reducible exact LeO.none _)
      | (with_reducible refine LeO.ite ?_ ?_)
      | (with_reducible refine LeO.bind ?_ (fun _ => ?_))
      | exact ih0 _ _ _ _ _ _
      | exact ih1 _ _ _ _ _ _ _
      | exact ih2 _ _ _ _ _
      | exact ih3 _ _ _ _ _ _
      | exact ih4 _ _ _ _ _ _ _
      | exact panes_Parts.mono _ _ _ _ _ _
      | exact slide_Of.mono _ _ _ _ _
      | exact tailwaterlaw19_alive.mono _
      | exact tailwaterref13_Check.mono _ _ _
      | exact tailwaterref19_Asked.mono _ _ _ _
      | exact tailwaterref19_Divisor.mono _ _ _
      | exact LeO.none _
      | refine LeO.ite ?_ ?_
      | refine LeO.bind ?_ (fun _ => ?_)
    · intro y0 y1 y2 y3 y4 y5
      unfold tailwaterlaw19_PanesCommon.l0
      repeat' first
      | (with_reducible exact ih0 _ _ _ _ _ _)
      | (with_reducible exact ih1 _ _ _ _ _ _ _)
      | (with_reducible exact ih2 _ _ _ _ _)
      | (with_reducible exact ih3 _ _ _ _ _ _)
      | (with_reducible exact ih4 _ _ _ _ _ _ _)
      | (with_reducible exact panes_Parts.mono _ _ _ _ _ _)
      | (with_reducible exact slide_Of.mono _ _ _ _ _)
      | (with_reducible exact tailwaterlaw19_alive.mono _)
      | (with_reducible exact tailwaterref13_Check.mono _ _ _)
      | (with_reducible exact tailwaterref19_Asked.mono _ _ _ _)
      | (with_reducible exact tailwaterref19_Divisor.mono _ _ _)
      | (with_reducible exact LeO.refl _)
      | (with_reducible exact LeO.none _)
      | (with_reducible refine LeO.ite ?_ ?_)
      | (with_reducible refine LeO.bind ?_ (fun _ => ?_))
      | exact ih0 _ _ _ _ _ _
      | exact ih1 _ _ _ _ _ _ _
      | exact ih2 _ _ _ _ _
      | exact ih3 _ _ _ _ _ _
      | exact ih4 _ _ _ _ _ _ _
      | exact panes_Parts.mono _ _ _ _ _ _
      | exact slide_Of.mono _ _ _ _ _
      | exact tailwaterlaw19_alive.mono _
      | exact tailwaterref13_Check.mono _ _ _
      | exact tailwaterref19_Asked.mono _ _ _ _
      | exact tailwaterref19_Divisor.mono _ _ _
      | exact LeO.none _
      | refine LeO.ite ?_ ?_
      | refine LeO.bind ?_ (fun _ => ?_)
    · intro y0 y1 y2 y3 y4 y5 y6
      unfold tailwaterlaw19_PanesCommon.l1
      repeat' first
      | (with_reducible exact ih0 _ _ _ _ _ _)
      | (with_reducible exact ih1 _ _ _ _ _ _ _)
      | (with_reducible exact ih2 _ _ _ _ _)
      | (with_reducible exact ih3 _ _ _ _ _ _)
      | (with_reducible exact ih4 _ _ _ _ _ _ _)
      | (with_reducible exact panes_Parts.mono _ _ _ _ _ _)
      | (with_reducible exact slide_Of.mono _ _ _ _ _)
      | (with_reducible exact tailwaterlaw19_alive.mono _)
      | (with_reducible exact tailwaterref13_Check.mono _ _ _)
      | (with_reducible exact tailwaterref19_Asked.mono _ _ _ _)
      | (with_reducible exact tailwaterref19_Divisor.mono _ _ _)
      | (with_reducible exact LeO.refl _)
      | (with_reducible exact LeO.none _)
      | (with_reducible refine LeO.ite ?_ ?_)
      | (with_reducible refine LeO.bind ?_ (fun _ => ?_))
      | exact ih0 _ _ _ _ _ _
      | exact ih1 _ _ _ _ _ _ _
      | exact ih2 _ _ _ _ _
      | exact ih3 _ _ _ _ _ _
      | exact ih4 _ _ _ _ _ _ _
      | exact panes_Parts.mono _ _ _ _ _ _
      | exact slide_Of.mono _ _ _ _ _
      | exact tailwaterlaw19_alive.mono _
      | exact tailwaterref13_Check.mono _ _ _
      | exact tailwaterref19_Asked.mono _ _ _ _
      | exact tailwaterref19_Divisor.mono _ _ _
      | exact LeO.none _
      | refine LeO.ite ?_ ?_
      | refine LeO.bind ?_ (fun _ => ?_)
theorem tailwaterlaw19_PanesCommon.mono : ∀ a0 a1 a2 a3 k, LeO (tailwaterlaw19_PanesCommon.f k a0 a1 a2 a3) (tailwaterlaw19_PanesCommon.f (k + 1) a0 a1 a2 a3) := by
  intro a0 a1 a2 a3 k
  obtain ⟨ih0, ih1, ih2, ih3, ih4⟩ := tailwaterlaw19_PanesCommon.mono_l k
  unfold tailwaterlaw19_PanesCommon.f
  repeat' first
      | (with_reducible exact ih0 _ _ _ _ _ _)
      | (with_reducible exact ih1 _ _ _ _ _ _ _)
      | (with_reducible exact ih2 _ _ _ _ _)
      | (with_reducible exact ih3 _ _ _ _ _ _)
      | (with_reducible exact ih4 _ _ _ _ _ _ _)
      | (with_reducible exact panes_Parts.mono _ _ _ _ _ _)
      | (with_reducible exact slide_Of.mono _ _ _ _ _)
      | (with_reducible exact tailwaterlaw19_alive.mono _)
      | (with_reducible exact tailwaterref13_Check.mono _ _ _)
      | (with_reducible exact tailwaterref19_Asked.mono _ _ _ _)
      | (with_reducible exact tailwaterref19_Divisor.mono _ _ _)
      | (with_reducible exact LeO.refl _)
      | (with_reducible exact LeO.none _)
      | (with_reducible refine LeO.ite ?_ ?_)
      | (with_reducible refine LeO.bind ?_ (fun _ => ?_))
      | exact ih0 _ _ _ _ _ _
      | exact ih1 _ _ _ _ _ _ _
      | exact ih2 _ _ _ _ _
      | exact ih3 _ _ _ _ _ _
      | exact ih4 _ _ _ _ _ _ _
      | exact panes_Parts.mono _ _ _ _ _ _
      | exact slide_Of.mono _ _ _ _ _
      | exact tailwaterlaw19_alive.mono _
      | exact tailwaterref13_Check.mono _ _ _
      | exact tailwaterref19_Asked.mono _ _ _ _
      | exact tailwaterref19_Divisor.mono _ _ _
      | exact LeO.none _
      | refine LeO.ite ?_ ?_
      | refine LeO.bind ?_ (fun _ => ?_)
def tailwaterlaw19_PanesCommon.T2 : Bool × List (List Nat × List Nat) := (true, [([], []), ([0], [0]), ([1], [1]), ([2, 1], [2]), ([3], [3]), ([4, 3, 3], [3, 4]), ([5, 3], [3, 5]), ([3, 6], [3, 6]), ([7, 5], [7]), ([8], [8]), ([9, 8], [8, 9]), ([8], [8]), ([11, 8], [8, 11]), ([8], [8]), ([13, 8], [8, 13]), ([12, 14, 8, 8], [8, 12, 14]), ([10, 15, 8], [8, 10, 15]), ([16, 8], [8, 16]), ([8, 17], [8, 17]), ([18, 15], [18]), ([19], [19]), ([20, 19], [19, 20]), ([19, 21], [19, 21])])
def tailwaterlaw19_PanesCommon.B2 : List Nat := [0, 1, 3, 7, 15, 31, 63, 127, 255, 511, 1023, 511, 2559, 511, 8703, 31231, 65535, 131071, 262143, 524287, 1048575, 2097151, 4194303]
theorem tailwaterlaw19_PanesCommon.tab2 : rtab .any (opsOf Try.f14 2) = tailwaterlaw19_PanesCommon.T2 := by kernel_rfl
theorem tailwaterlaw19_PanesCommon.bits2 : waitsOk tailwaterlaw19_PanesCommon.T2.2 tailwaterlaw19_PanesCommon.B2 = true := by kernel_rfl
def tailwaterlaw19_PanesCommon.T7 : Bool × List (List Nat × List Nat) := (true, [([], []), ([], []), ([1], [1]), ([2], [2]), ([0, 3], [0, 3]), ([4], [4]), ([5], [5]), ([5], [5]), ([6, 4, 0, 1, 2, 3, 4, 5, 6], [6]), ([7, 8, 0, 1, 2, 3, 4, 5, 6, 7, 8], [7])])
def tailwaterlaw19_PanesCommon.B7 : List Nat := [0, 0, 2, 6, 15, 31, 63, 63, 127, 511]
theorem tailwaterlaw19_PanesCommon.tab7 : rtab .any (opsOf Try.f14 7) = tailwaterlaw19_PanesCommon.T7 := by kernel_rfl
theorem tailwaterlaw19_PanesCommon.bits7 : waitsOk tailwaterlaw19_PanesCommon.T7.2 tailwaterlaw19_PanesCommon.B7 = true := by kernel_rfl
def tailwaterlaw19_PanesCommon.T8 : Bool × List (List Nat × List Nat) := (true, [([], []), ([], []), ([1], [1]), ([2], [2]), ([0, 3], [0, 3]), ([4], [4]), ([5], [5]), ([5], [5]), ([6, 4, 0, 1, 2, 3, 4, 5, 6], [6]), ([7, 8, 0, 1, 2, 3, 4, 5, 6, 7, 8], [7])])
def tailwaterlaw19_PanesCommon.B8 : List Nat := [0, 0, 2, 6, 15, 31, 63, 63, 127, 511]
theorem tailwaterlaw19_PanesCommon.tab8 : rtab .any (opsOf Try.f14 8) = tailwaterlaw19_PanesCommon.T8 := by kernel_rfl
theorem tailwaterlaw19_PanesCommon.bits8 : waitsOk tailwaterlaw19_PanesCommon.T8.2 tailwaterlaw19_PanesCommon.B8 = true := by kernel_rfl
def tailwaterlaw19_PanesCommon.T18 : Bool × List (List Nat × List Nat) := (true, [([], []), ([], []), ([0, 1], [0, 1]), ([2], [2]), ([], []), ([], []), ([4, 5], [4, 5]), ([6], [6]), ([3, 7], [3, 7])])
def tailwaterlaw19_PanesCommon.B18 : List Nat := [0, 0, 3, 7, 0, 0, 48, 112, 255]
theorem tailwaterlaw19_PanesCommon.tab18 : rtab .any (opsOf Try.f14 18) = tailwaterlaw19_PanesCommon.T18 := by kernel_rfl
theorem tailwaterlaw19_PanesCommon.bits18 : waitsOk tailwaterlaw19_PanesCommon.T18.2 tailwaterlaw19_PanesCommon.B18 = true := by kernel_rfl
def tailwaterlaw19_PanesCommon.T19 : Bool × List (List Nat × List Nat) := (true, [([], []), ([], []), ([], []), ([1, 2], [1, 2]), ([3], [3]), ([4], [4]), ([], []), ([], []), ([6, 7], [6, 7]), ([8], [8]), ([9], [9]), ([5, 10], [5, 10]), ([0, 11], [0, 11]), ([12, 0, 1, 2, 3, 4, 5, 6, 7, 8, 9, 10, 11, 12], [0, 12])])
def tailwaterlaw19_PanesCommon.B19 : List Nat := [0, 0, 0, 6, 14, 30, 0, 0, 192, 448, 960, 2046, 4095, 8191]
theorem tailwaterlaw19_PanesCommon.tab19 : rtab .any (opsOf Try.f14 19) = tailwaterlaw19_PanesCommon.T19 := by kernel_rfl
theorem tailwaterlaw19_PanesCommon.bits19 : waitsOk tailwaterlaw19_PanesCommon.T19.2 tailwaterlaw19_PanesCommon.B19 = true := by kernel_rfl
def tailwaterlaw19_PanesCommon.T20 : Bool × List (List Nat × List Nat) := (true, [([], []), ([], []), ([0, 1], [0, 1]), ([2], [2]), ([], []), ([], []), ([4, 5], [4, 5]), ([6], [6]), ([3, 7], [3, 7])])
def tailwaterlaw19_PanesCommon.B20 : List Nat := [0, 0, 3, 7, 0, 0, 48, 112, 255]
theorem tailwaterlaw19_PanesCommon.tab20 : rtab .any (opsOf Try.f14 20) = tailwaterlaw19_PanesCommon.T20 := by kernel_rfl
theorem tailwaterlaw19_PanesCommon.bits20 : waitsOk tailwaterlaw19_PanesCommon.T20.2 tailwaterlaw19_PanesCommon.B20 = true := by kernel_rfl
def tailwaterlaw19_PanesCommon.T22 : Bool × List (List Nat × List Nat) := (true, [([], []), ([0], [0]), ([1], [1]), ([1], [1]), ([3, 1], [1, 3]), ([4, 1], [1, 4]), ([5, 1], [1, 5]), ([1], [1]), ([7, 1], [1, 7]), ([8, 1], [1, 8]), ([9, 1], [1, 9]), ([6, 10, 1], [1, 6, 10]), ([2, 11, 1], [1, 2, 11]), ([1, 12], [1, 12]), ([13, 1, 0, 1, 2, 3, 4, 5, 6, 7, 8, 9, 10, 11, 12, 13], [13])])
def tailwaterlaw19_PanesCommon.B22 : List Nat := [0, 1, 3, 3, 11, 27, 59, 3, 131, 387, 899, 2043, 4095, 8191, 16383]
theorem tailwaterlaw19_PanesCommon.tab22 : rtab .any (opsOf Try.f14 22) = tailwaterlaw19_PanesCommon.T22 := by kernel_rfl
theorem tailwaterlaw19_PanesCommon.bits22 : waitsOk tailwaterlaw19_PanesCommon.T22.2 tailwaterlaw19_PanesCommon.B22 = true := by kernel_rfl
set_option maxHeartbeats 8000000 in
set_option maxRecDepth 100000 in
theorem tailwaterlaw19_PanesCommon.calls (k : Nat) (a0_0 : Int) (a0_1 : Int) (a0_2 : Int) (a1 : Int) (r : Bool) (w : World) (h : tailwaterlaw19_PanesCommon.f k a0_0 a0_1 a0_2 a1 = some r) (hR_ : r = true) :
    Calls Try.prog 14 #[.agg #[.int .u8 a0_0, .int .i64 a0_1, .int .i64 a0_2], .int .i64 a1] w fun e w' => e = .returned (.bool r) ∧ Below w.heap.size w w' := by
  have hu24 := Try.underlying24
  have hu34 := Try.underlying34
  have HB := Aside0.mk (Below.refl w.heap.size w)
  have H : ((tailwaterlaw19_alive.f k).bind fun t222 => ((tailwaterref19_Asked.f k a0_0 a0_1 a0_2).bind fun t223 => (if t223 = 0 then ((tailwaterref13_Check.f k a1 1).bind fun t224 => (if t224 = 0 then ((tailwaterref19_Divisor.f k a0_1 a0_2).bind fun t225 => (if t225 = 0 then (none) else (if (wrap64 (Int.tdiv a0_1 t225)) > 200 then (tailwaterlaw19_PanesCommon.j0 k a1 t222 true a0_0 a0_1 a0_2) else (tailwaterlaw19_PanesCommon.j0 k a1 t222 (!t222) a0_0 a0_1 a0_2)))) else (tailwaterlaw19_PanesCommon.j0 k a1 t222 true a0_0 a0_1 a0_2))) else (tailwaterlaw19_PanesCommon.j0 k a1 t222 true a0_0 a0_1 a0_2)))) = some r := h
  clear h
  replace H := Option.bind_eq_some_iff.mp H
  obtain ⟨t222, A30, H⟩ := H
  replace H : ((tailwaterref19_Asked.f k a0_0 a0_1 a0_2).bind fun t223 => (if t223 = 0 then ((tailwaterref13_Check.f k a1 1).bind fun t224 => (if t224 = 0 then ((tailwaterref19_Divisor.f k a0_1 a0_2).bind fun t225 => (if t225 = 0 then (none) else (if (wrap64 (Int.tdiv a0_1 t225)) > 200 then (tailwaterlaw19_PanesCommon.j0 k a1 t222 true a0_0 a0_1 a0_2) else (tailwaterlaw19_PanesCommon.j0 k a1 t222 (!t222) a0_0 a0_1 a0_2)))) else (tailwaterlaw19_PanesCommon.j0 k a1 t222 true a0_0 a0_1 a0_2))) else (tailwaterlaw19_PanesCommon.j0 k a1 t222 true a0_0 a0_1 a0_2))) = some r := H
  have A3 := Aside0.mk A30
  clear A30
  have HC4 := Aside0.mk H
  clear H
  go_enter Try.func14, Try.ntmps14
  go_upto_region 2 with (first | ((with_reducible refine gate_dst (N := 2) rfl ?_); (try (refine gate_guard (by rfl) ?_; dsimp only)); refine box_event ?hg (N := 2) ?hd (cs := #[.int .u8 a0_0, .int .i64 a0_1, .int .i64 a0_2]) (t := 24) ?hr ?_; (case hd => rfl); (case hg => rfl); (case hr => first | (go_simp; done) | (go_simp; rfl)); intro gb221 hg w5 hbox hb; have n0_ := Aside0.mk (below_step (by repeat (first | (with_reducible first | exact HB.out | apply below_alloc | apply pw_below_drewN | apply below_drew1) | exact HB.out)) hb); have n1_ := Aside0.mk (hbox); have n2_ := Aside0.mk ((by rw [hg]; exact (below_size (by repeat (first | (with_reducible first | exact HB.out | apply below_alloc | apply pw_below_drewN | apply below_drew1) | exact HB.out))) : w.heap.size ≤ gb221)); clear HB; have HB := n0_; have BK221 := n1_; have GE221 := n2_; clear n0_ n1_ n2_; clear hb hbox hg) | ((with_reducible refine gate_callee (f := 30) rfl ?_); refine goesL_ (some 15) rfl rfl Try.func30 (by kernel_rfl) rfl #[] rfl (by (try simp only [List.map_toArray, List.map_cons, List.map_nil]); first | done | rfl | (simp only [List.length_drop, List.length_take]; rfl)) ?_; (with_reducible refine (tailwaterlaw19_alive.calls k  t222 _ A3.out).mono ?_); rintro e w6 ⟨rfl, hb⟩; refine ⟨_, rfl, ?_⟩; have n0_ := Aside0.mk (blk_below (by (with_reducible repeat (first | apply blk_drewN | apply blk_drew | apply blk_alloc)); exact BK221.out) hb); have n1_ := Aside0.mk (below_step (by repeat (first | (with_reducible first | exact HB.out | apply below_alloc | apply pw_below_drewN | apply below_drew1 | refine below_set ?_ GE221.out) | exact HB.out)) hb); clear BK221 HB; have BK221 := n0_; have HB := n1_; clear n0_ n1_; (try clear hb); (try clear hb2); (try clear hk); (try clear hi)))
  (try simp only [Act.put, List.setIfInBounds_toArray, List.set_cons_zero, List.set_cons_succ])
  go_cut [38] (fun v38 wc => ∃ (kq : Nat) (x38_3 : Bool), v38 = .bool x38_3 ∧ Aside0 (tailwaterlaw19_PanesCommon.j0 kq a1 t222 x38_3 a0_0 a0_1 a0_2 = some r) ∧ Aside0 (kq ≤ k) ∧ Aside0 (wc.heap[gb221]? = some (.cells #[.int .u8 a0_0, .int .i64 a0_1, .int .i64 a0_2] 24 (0, 0))) ∧ Aside0 (Below w.heap.size w wc))
  case first =>
    have H := HC4.out
    clear HC4
    replace H := Option.bind_eq_some_iff.mp H
    obtain ⟨t223, A70, H⟩ := H
    replace H : (if t223 = 0 then ((tailwaterref13_Check.f k a1 1).bind fun t224 => (if t224 = 0 then ((tailwaterref19_Divisor.f k a0_1 a0_2).bind fun t225 => (if t225 = 0 then (none) else (if (wrap64 (Int.tdiv a0_1 t225)) > 200 then (tailwaterlaw19_PanesCommon.j0 k a1 t222 true a0_0 a0_1 a0_2) else (tailwaterlaw19_PanesCommon.j0 k a1 t222 (!t222) a0_0 a0_1 a0_2)))) else (tailwaterlaw19_PanesCommon.j0 k a1 t222 true a0_0 a0_1 a0_2))) else (tailwaterlaw19_PanesCommon.j0 k a1 t222 true a0_0 a0_1 a0_2)) = some r := H
    have A7 := Aside0.mk A70
    clear A70
    by_cases c8 : t223 = 0
    · rw [if_pos c8] at H
      have c8b0 : (t223 == 0) = true := beq_iff_eq.mpr c8
      have c8b1 : (t223 != 0) = false := bne_eq_false_iff_eq.mpr c8
      clear c8
      (first | rw [c8b0] | (simp only [i64_w, i32_w]; rw [c8b0]) | skip)
      replace H := Option.bind_eq_some_iff.mp H
      obtain ⟨t224, A90, H⟩ := H
      replace H : (if t224 = 0 then ((tailwaterref19_Divisor.f k a0_1 a0_2).bind fun t225 => (if t225 = 0 then (none) else (if (wrap64 (Int.tdiv a0_1 t225)) > 200 then (tailwaterlaw19_PanesCommon.j0 k a1 t222 true a0_0 a0_1 a0_2) else (tailwaterlaw19_PanesCommon.j0 k a1 t222 (!t222) a0_0 a0_1 a0_2)))) else (tailwaterlaw19_PanesCommon.j0 k a1 t222 true a0_0 a0_1 a0_2)) = some r := H
      have A9 := Aside0.mk A90
      clear A90
      by_cases c10 : t224 = 0
      · rw [if_pos c10] at H
        have c10b0 : (t224 == 0) = true := beq_iff_eq.mpr c10
        have c10b1 : (t224 != 0) = false := bne_eq_false_iff_eq.mpr c10
        clear c10
        replace H := Option.bind_eq_some_iff.mp H
        obtain ⟨t225, A110, H⟩ := H
        replace H : (if t225 = 0 then (none) else (if (wrap64 (Int.tdiv a0_1 t225)) > 200 then (tailwaterlaw19_PanesCommon.j0 k a1 t222 true a0_0 a0_1 a0_2) else (tailwaterlaw19_PanesCommon.j0 k a1 t222 (!t222) a0_0 a0_1 a0_2))) = some r := H
        have A11 := Aside0.mk A110
        clear A110
        by_cases c12 : t225 = 0
        · rw [if_pos c12] at H
          exact absurd H (by simp)
        · rw [if_neg c12] at H
          have c12b0 : (t225 == 0) = false := beq_eq_false_iff_ne.mpr c12
          have c12b1 : (t225 != 0) = true := bne_iff_ne.mpr c12
          by_cases c13 : (wrap64 (Int.tdiv a0_1 t225)) > 200
          · rw [if_pos c13] at H
            have c13b0 : decide (200 < (wrap64 (Int.tdiv a0_1 t225))) = true := decide_eq_true c13
            clear c13
            have H' := Aside0.mk H
            clear H
            try go_wp2
            have n0_ := Aside0.mk (blk_drew BK221.out)
            have n1_ := Aside0.mk (below_drew1 HB.out)
            clear BK221 HB
            have BK221 := n0_
            have HB := n1_
            clear n0_ n1_
            refine start_ (n := 23) (S := fun w' => w'.cell? ⟨gb221, 0, none⟩ = some (.int .u8 a0_0) ∧ w'.cell? ⟨gb221, 1, none⟩ = some (.int .i64 a0_1) ∧ w'.cell? ⟨gb221, 2, none⟩ = some (.int .i64 a0_2)) (ds := []) (pfx_ 23 0) (by kernel_rfl) rfl rfl ⟨(blk_cell BK221.out 0).trans rfl, (blk_cell BK221.out 1).trans rfl, (blk_cell BK221.out 2).trans rfl⟩ (fun hHeld => ?_); refine with_tabW tailwaterlaw19_PanesCommon.tab2 tailwaterlaw19_PanesCommon.bits2 (fun HT_ HW_ => ?_)
            generalize w6.drew = w14 at BK221 HB hHeld ⊢
            refine take_ (i := 0) (N := some 16) (v := ?_) (a' := ?_) (pfx_ 23 1) rfl rfl (take_ofW HT_.out HW_.out (by kernel_rfl)) (fun _ _ _ h => h) (Or.inl ⟨by rfl, ?_⟩) hHeld ?_ ?_
            rotate_left
            · rintro w' ⟨s0, s1, s2⟩
              go_simp
              with_reducible rfl
            rotate_left
            · simp only [Act.put, List.setIfInBounds_toArray, List.set_cons_zero, List.set_cons_succ, i64_w, i32_w]
              rfl
            refine one_ (i := 1) (N := some 17) (pfx_ 23 2) rfl rfl (one_of HT_.out (by kernel_rfl)) (by decide) (fun K hK => ?_)
            refine goes_ Try.func31 (by kernel_rfl) rfl #[.agg #[.int .u8 a0_0, .int .i64 a0_1, .int .i64 a0_2]] (by rfl) rfl rfl (by (try simp only [List.map_toArray, List.map_cons, List.map_nil]); first | done | rfl | (simp only [List.length_drop, List.length_take]; rfl)) ?_
            with_reducible refine (tailwaterref19_Asked.calls k a0_0 a0_1 a0_2 t223 _ A7.out).mono ?_
            rintro e w15 ⟨rfl, hb⟩
            refine ⟨_, rfl, ?_⟩
            have n0_ := Aside0.mk (blk_below (by (with_reducible repeat (first | apply blk_drewN | apply blk_drew | apply blk_alloc)); exact BK221.out) hb)
            have n1_ := Aside0.mk (below_step (by repeat (first | (with_reducible first | exact HB.out | apply below_alloc | apply pw_below_drewN | apply below_drew1 | refine below_set ?_ GE221.out) | exact HB.out)) hb)
            clear BK221 HB
            have BK221 := n0_
            have HB := n1_
            clear n0_ n1_
            (try clear hb)
            (try clear hb2)
            (try clear hk)
            (try clear hi)
            refine hK.out _ _ ⟨(blk_cell BK221.out 0).trans rfl, (blk_cell BK221.out 1).trans rfl, (blk_cell BK221.out 2).trans rfl⟩ (fun hHeld => ?_)
            clear hK K
            refine norm_ (a' := ?_) ?_ ?_
            rotate_left
            · show Act.put _ (some 17) _ = _
              simp only [Act.put, List.setIfInBounds_toArray, List.set_cons_zero, List.set_cons_succ, i64_w, i32_w]
              rfl
            iterate 3 (refine pv_ (v := ?_) (a' := ?_) HT_.out rfl rfl (by kernel_rfl) (fun _ _ _ h => h) (Or.inl ⟨by rfl, ?_⟩) ?_ ?_; rotate_left; (focus (intro w'; go_simp; with_reducible rfl)); rotate_left; (focus (show Act.put _ (some _) _ = _; simp only [Act.put, List.setIfInBounds_toArray, List.set_cons_zero, List.set_cons_succ, i64_w, i32_w]; rfl)))
            refine one_ (i := 5) (N := some 21) (pfx_ 23 6) rfl rfl (one_of HT_.out (by kernel_rfl)) (by decide) (fun K hK => ?_)
            refine goes_ Try.func32 (by kernel_rfl) rfl #[.int .i64 a1, .int .i64 1] (by rfl) rfl rfl (by (try simp only [List.map_toArray, List.map_cons, List.map_nil]); first | done | rfl | (simp only [List.length_drop, List.length_take]; rfl)) ?_
            with_reducible refine (tailwaterref13_Check.calls k a1 1 t224 _ A9.out).mono ?_
            rintro e w' ⟨rfl, ⟨nd, rfl⟩⟩
            refine ⟨_, rfl, ?_⟩
            refine hK.out _ _ ⟨(blk_cell BK221.out 0).trans rfl, (blk_cell BK221.out 1).trans rfl, (blk_cell BK221.out 2).trans rfl⟩ (fun hHeld => ?_)
            clear hK K
            refine norm_ (a' := ?_) ?_ ?_
            rotate_left
            · show Act.put _ (some 21) _ = _
              simp only [Act.put, List.setIfInBounds_toArray, List.set_cons_zero, List.set_cons_succ, i64_w, i32_w]
              rfl
            iterate 4 (refine pv_ (v := ?_) (a' := ?_) HT_.out rfl rfl (by kernel_rfl) (fun _ _ _ h => h) (Or.inl ⟨by rfl, ?_⟩) ?_ ?_; rotate_left; (focus (intro w'; go_simp; with_reducible rfl)); rotate_left; (focus (show Act.put _ (some _) _ = _; simp only [Act.put, List.setIfInBounds_toArray, List.set_cons_zero, List.set_cons_succ, i64_w, i32_w]; rfl)))
            refine pure_ (i := 11) (N := some 27) (v := ?_) (a' := ?_) (bm_ 23 3071) rfl rfl (any_of HT_.out (by kernel_rfl)) (fun _ _ _ h => h) (Or.inl ⟨by rfl, ?_⟩) ?_ ?_
            rotate_left
            · intro w'
              go_simp
              with_reducible rfl
            rotate_left
            · simp only [Act.put, List.setIfInBounds_toArray, List.set_cons_zero, List.set_cons_succ, i64_w, i32_w]
              rfl
            refine pure_ (i := 13) (N := some 29) (v := ?_) (a' := ?_) (bm_ 23 11263) rfl rfl (any_of HT_.out (by kernel_rfl)) (fun _ _ _ h => h) (Or.inl ⟨by rfl, ?_⟩) ?_ ?_
            rotate_left
            · intro w'
              go_simp
              with_reducible rfl
            rotate_left
            · simp only [Act.put, List.setIfInBounds_toArray, List.set_cons_zero, List.set_cons_succ, i64_w, i32_w]
              rfl
            refine take_ (i := 10) (N := some 26) (v := ?_) (a' := ?_) (bm_ 23 12287) rfl rfl (take_ofW HT_.out HW_.out (by kernel_rfl)) (fun _ _ _ h => h) (Or.inl ⟨by rfl, ?_⟩) hHeld ?_ ?_
            rotate_left
            · rintro w' ⟨s0, s1, s2⟩
              go_simp
              with_reducible rfl
            rotate_left
            · simp only [Act.put, List.setIfInBounds_toArray, List.set_cons_zero, List.set_cons_succ, i64_w, i32_w]
              rfl
            refine take_ (i := 12) (N := some 28) (v := ?_) (a' := ?_) (pfx_ 23 14) rfl rfl (take_ofW HT_.out HW_.out (by kernel_rfl)) (fun _ _ _ h => h) (Or.inl ⟨by rfl, ?_⟩) hHeld ?_ ?_
            rotate_left
            · rintro w' ⟨s0, s1, s2⟩
              go_simp
              with_reducible rfl
            rotate_left
            · simp only [Act.put, List.setIfInBounds_toArray, List.set_cons_zero, List.set_cons_succ, i64_w, i32_w]
              rfl
            refine take_ (i := 14) (N := some 30) (v := ?_) (a' := ?_) (pfx_ 23 15) rfl rfl (take_ofW HT_.out HW_.out (by kernel_rfl)) (fun _ _ _ h => h) (Or.inl ⟨by rfl, ?_⟩) hHeld ?_ ?_
            rotate_left
            · rintro w' ⟨s0, s1, s2⟩
              go_simp
              with_reducible rfl
            rotate_left
            · simp only [Act.put, List.setIfInBounds_toArray, List.set_cons_zero, List.set_cons_succ, i64_w, i32_w]
              rfl
            refine one_ (i := 15) (N := some 31) (pfx_ 23 16) rfl rfl (one_of HT_.out (by kernel_rfl)) (by decide) (fun K hK => ?_)
            refine goes_ Try.func42 (by kernel_rfl) rfl #[.int .i64 a0_1, .int .i64 a0_2] (by rfl) rfl rfl (by (try simp only [List.map_toArray, List.map_cons, List.map_nil]); first | done | rfl | (simp only [List.length_drop, List.length_take]; rfl)) ?_
            with_reducible refine (tailwaterref19_Divisor.calls k a0_1 a0_2 t225 _ A11.out).mono ?_
            rintro e w' ⟨rfl, ⟨nd, rfl⟩⟩
            refine ⟨_, rfl, ?_⟩
            refine hK.out _ _ ⟨(blk_cell BK221.out 0).trans rfl, (blk_cell BK221.out 1).trans rfl, (blk_cell BK221.out 2).trans rfl⟩ (fun hHeld => ?_)
            clear hK K
            refine norm_ (a' := ?_) ?_ ?_
            rotate_left
            · show Act.put _ (some 31) _ = _
              simp only [Act.put, List.setIfInBounds_toArray, List.set_cons_zero, List.set_cons_succ, i64_w, i32_w]
              rfl
            iterate 4 (refine pv_ (v := ?_) (a' := ?_) HT_.out rfl rfl (by kernel_rfl) (fun _ _ _ h => h) (Or.inl ⟨by rfl, ?_⟩) ?_ ?_; rotate_left; (focus (intro w'; go_simp; with_reducible rfl)); rotate_left; (focus (show Act.put _ (some _) _ = _; simp only [Act.put, List.setIfInBounds_toArray, List.set_cons_zero, List.set_cons_succ, i64_w, i32_w]; rfl)))
            iterate 2 (refine pv_ (v := undef) (a' := ?_) HT_.out rfl rfl (by kernel_rfl) (fun _ _ _ h => h) (Or.inr ⟨by rfl, rfl⟩) ?_ ?_; rotate_left; (focus (show Act.put _ (some _) _ = _; simp only [Act.put, List.setIfInBounds_toArray, List.set_cons_zero, List.set_cons_succ, i64_w, i32_w]; rfl)))
            (refine pv_ (v := ?_) (a' := ?_) HT_.out rfl rfl (by kernel_rfl) (fun _ _ _ h => h) (Or.inl ⟨by rfl, ?_⟩) ?_ ?_; rotate_left; (focus (intro w'; go_simp; with_reducible rfl)); rotate_left; (focus (show Act.put _ (some _) _ = _; simp only [Act.put, List.setIfInBounds_toArray, List.set_cons_zero, List.set_cons_succ, i64_w, i32_w]; rfl)))
            refine done_ (done_of HT_.out (by kernel_rfl)) ?_
            try go_wp2
            go_meet
            case rel => exact ⟨_, (true), (by first | rfl | (simp; done) | (simp [*]; done)), H', ⟨by first | omega | exact Nat.le_refl _⟩, ⟨by (with_reducible repeat (first | refine blk_drewN ?_ _ | refine blk_drew ?_ | refine blk_alloc ?_ _)); exact BK221.out⟩, ⟨by repeat (first | (with_reducible first | exact HB.out | apply below_alloc | apply pw_below_drewN | apply below_drew1 | refine below_set ?_ GE221.out) | exact HB.out)⟩⟩
          · rw [if_neg c13] at H
            have c13b0 : decide (200 < (wrap64 (Int.tdiv a0_1 t225))) = false := decide_eq_false c13
            clear c13
            have H' := Aside0.mk H
            clear H
            try go_wp2
            have n0_ := Aside0.mk (blk_drew BK221.out)
            have n1_ := Aside0.mk (below_drew1 HB.out)
            clear BK221 HB
            have BK221 := n0_
            have HB := n1_
            clear n0_ n1_
            refine start_ (n := 23) (S := fun w' => w'.cell? ⟨gb221, 0, none⟩ = some (.int .u8 a0_0) ∧ w'.cell? ⟨gb221, 1, none⟩ = some (.int .i64 a0_1) ∧ w'.cell? ⟨gb221, 2, none⟩ = some (.int .i64 a0_2)) (ds := []) (pfx_ 23 0) (by kernel_rfl) rfl rfl ⟨(blk_cell BK221.out 0).trans rfl, (blk_cell BK221.out 1).trans rfl, (blk_cell BK221.out 2).trans rfl⟩ (fun hHeld => ?_); refine with_tabW tailwaterlaw19_PanesCommon.tab2 tailwaterlaw19_PanesCommon.bits2 (fun HT_ HW_ => ?_)
            generalize w6.drew = w16 at BK221 HB hHeld ⊢
            refine take_ (i := 0) (N := some 16) (v := ?_) (a' := ?_) (pfx_ 23 1) rfl rfl (take_ofW HT_.out HW_.out (by kernel_rfl)) (fun _ _ _ h => h) (Or.inl ⟨by rfl, ?_⟩) hHeld ?_ ?_
            rotate_left
            · rintro w' ⟨s0, s1, s2⟩
              go_simp
              with_reducible rfl
            rotate_left
            · simp only [Act.put, List.setIfInBounds_toArray, List.set_cons_zero, List.set_cons_succ, i64_w, i32_w]
              rfl
            refine one_ (i := 1) (N := some 17) (pfx_ 23 2) rfl rfl (one_of HT_.out (by kernel_rfl)) (by decide) (fun K hK => ?_)
            refine goes_ Try.func31 (by kernel_rfl) rfl #[.agg #[.int .u8 a0_0, .int .i64 a0_1, .int .i64 a0_2]] (by rfl) rfl rfl (by (try simp only [List.map_toArray, List.map_cons, List.map_nil]); first | done | rfl | (simp only [List.length_drop, List.length_take]; rfl)) ?_
            with_reducible refine (tailwaterref19_Asked.calls k a0_0 a0_1 a0_2 t223 _ A7.out).mono ?_
            rintro e w17 ⟨rfl, hb⟩
            refine ⟨_, rfl, ?_⟩
            have n0_ := Aside0.mk (blk_below (by (with_reducible repeat (first | apply blk_drewN | apply blk_drew | apply blk_alloc)); exact BK221.out) hb)
            have n1_ := Aside0.mk (below_step (by repeat (first | (with_reducible first | exact HB.out | apply below_alloc | apply pw_below_drewN | apply below_drew1 | refine below_set ?_ GE221.out) | exact HB.out)) hb)
            clear BK221 HB
            have BK221 := n0_
            have HB := n1_
            clear n0_ n1_
            (try clear hb)
            (try clear hb2)
            (try clear hk)
            (try clear hi)
            refine hK.out _ _ ⟨(blk_cell BK221.out 0).trans rfl, (blk_cell BK221.out 1).trans rfl, (blk_cell BK221.out 2).trans rfl⟩ (fun hHeld => ?_)
            clear hK K
            refine norm_ (a' := ?_) ?_ ?_
            rotate_left
            · show Act.put _ (some 17) _ = _
              simp only [Act.put, List.setIfInBounds_toArray, List.set_cons_zero, List.set_cons_succ, i64_w, i32_w]
              rfl
            iterate 3 (refine pv_ (v := ?_) (a' := ?_) HT_.out rfl rfl (by kernel_rfl) (fun _ _ _ h => h) (Or.inl ⟨by rfl, ?_⟩) ?_ ?_; rotate_left; (focus (intro w'; go_simp; with_reducible rfl)); rotate_left; (focus (show Act.put _ (some _) _ = _; simp only [Act.put, List.setIfInBounds_toArray, List.set_cons_zero, List.set_cons_succ, i64_w, i32_w]; rfl)))
            refine one_ (i := 5) (N := some 21) (pfx_ 23 6) rfl rfl (one_of HT_.out (by kernel_rfl)) (by decide) (fun K hK => ?_)
            refine goes_ Try.func32 (by kernel_rfl) rfl #[.int .i64 a1, .int .i64 1] (by rfl) rfl rfl (by (try simp only [List.map_toArray, List.map_cons, List.map_nil]); first | done | rfl | (simp only [List.length_drop, List.length_take]; rfl)) ?_
            with_reducible refine (tailwaterref13_Check.calls k a1 1 t224 _ A9.out).mono ?_
            rintro e w' ⟨rfl, ⟨nd, rfl⟩⟩
            refine ⟨_, rfl, ?_⟩
            refine hK.out _ _ ⟨(blk_cell BK221.out 0).trans rfl, (blk_cell BK221.out 1).trans rfl, (blk_cell BK221.out 2).trans rfl⟩ (fun hHeld => ?_)
            clear hK K
            refine norm_ (a' := ?_) ?_ ?_
            rotate_left
            · show Act.put _ (some 21) _ = _
              simp only [Act.put, List.setIfInBounds_toArray, List.set_cons_zero, List.set_cons_succ, i64_w, i32_w]
              rfl
            iterate 4 (refine pv_ (v := ?_) (a' := ?_) HT_.out rfl rfl (by kernel_rfl) (fun _ _ _ h => h) (Or.inl ⟨by rfl, ?_⟩) ?_ ?_; rotate_left; (focus (intro w'; go_simp; with_reducible rfl)); rotate_left; (focus (show Act.put _ (some _) _ = _; simp only [Act.put, List.setIfInBounds_toArray, List.set_cons_zero, List.set_cons_succ, i64_w, i32_w]; rfl)))
            refine pure_ (i := 11) (N := some 27) (v := ?_) (a' := ?_) (bm_ 23 3071) rfl rfl (any_of HT_.out (by kernel_rfl)) (fun _ _ _ h => h) (Or.inl ⟨by rfl, ?_⟩) ?_ ?_
            rotate_left
            · intro w'
              go_simp
              with_reducible rfl
            rotate_left
            · simp only [Act.put, List.setIfInBounds_toArray, List.set_cons_zero, List.set_cons_succ, i64_w, i32_w]
              rfl
            refine pure_ (i := 13) (N := some 29) (v := ?_) (a' := ?_) (bm_ 23 11263) rfl rfl (any_of HT_.out (by kernel_rfl)) (fun _ _ _ h => h) (Or.inl ⟨by rfl, ?_⟩) ?_ ?_
            rotate_left
            · intro w'
              go_simp
              with_reducible rfl
            rotate_left
            · simp only [Act.put, List.setIfInBounds_toArray, List.set_cons_zero, List.set_cons_succ, i64_w, i32_w]
              rfl
            refine take_ (i := 10) (N := some 26) (v := ?_) (a' := ?_) (bm_ 23 12287) rfl rfl (take_ofW HT_.out HW_.out (by kernel_rfl)) (fun _ _ _ h => h) (Or.inl ⟨by rfl, ?_⟩) hHeld ?_ ?_
            rotate_left
            · rintro w' ⟨s0, s1, s2⟩
              go_simp
              with_reducible rfl
            rotate_left
            · simp only [Act.put, List.setIfInBounds_toArray, List.set_cons_zero, List.set_cons_succ, i64_w, i32_w]
              rfl
            refine take_ (i := 12) (N := some 28) (v := ?_) (a' := ?_) (pfx_ 23 14) rfl rfl (take_ofW HT_.out HW_.out (by kernel_rfl)) (fun _ _ _ h => h) (Or.inl ⟨by rfl, ?_⟩) hHeld ?_ ?_
            rotate_left
            · rintro w' ⟨s0, s1, s2⟩
              go_simp
              with_reducible rfl
            rotate_left
            · simp only [Act.put, List.setIfInBounds_toArray, List.set_cons_zero, List.set_cons_succ, i64_w, i32_w]
              rfl
            refine take_ (i := 14) (N := some 30) (v := ?_) (a' := ?_) (pfx_ 23 15) rfl rfl (take_ofW HT_.out HW_.out (by kernel_rfl)) (fun _ _ _ h => h) (Or.inl ⟨by rfl, ?_⟩) hHeld ?_ ?_
            rotate_left
            · rintro w' ⟨s0, s1, s2⟩
              go_simp
              with_reducible rfl
            rotate_left
            · simp only [Act.put, List.setIfInBounds_toArray, List.set_cons_zero, List.set_cons_succ, i64_w, i32_w]
              rfl
            refine one_ (i := 15) (N := some 31) (pfx_ 23 16) rfl rfl (one_of HT_.out (by kernel_rfl)) (by decide) (fun K hK => ?_)
            refine goes_ Try.func42 (by kernel_rfl) rfl #[.int .i64 a0_1, .int .i64 a0_2] (by rfl) rfl rfl (by (try simp only [List.map_toArray, List.map_cons, List.map_nil]); first | done | rfl | (simp only [List.length_drop, List.length_take]; rfl)) ?_
            with_reducible refine (tailwaterref19_Divisor.calls k a0_1 a0_2 t225 _ A11.out).mono ?_
            rintro e w' ⟨rfl, ⟨nd, rfl⟩⟩
            refine ⟨_, rfl, ?_⟩
            refine hK.out _ _ ⟨(blk_cell BK221.out 0).trans rfl, (blk_cell BK221.out 1).trans rfl, (blk_cell BK221.out 2).trans rfl⟩ (fun hHeld => ?_)
            clear hK K
            refine norm_ (a' := ?_) ?_ ?_
            rotate_left
            · show Act.put _ (some 31) _ = _
              simp only [Act.put, List.setIfInBounds_toArray, List.set_cons_zero, List.set_cons_succ, i64_w, i32_w]
              rfl
            iterate 7 (refine pv_ (v := ?_) (a' := ?_) HT_.out rfl rfl (by kernel_rfl) (fun _ _ _ h => h) (Or.inl ⟨by rfl, ?_⟩) ?_ ?_; rotate_left; (focus (intro w'; go_simp; with_reducible rfl)); rotate_left; (focus (show Act.put _ (some _) _ = _; simp only [Act.put, List.setIfInBounds_toArray, List.set_cons_zero, List.set_cons_succ, i64_w, i32_w]; rfl)))
            refine done_ (done_of HT_.out (by kernel_rfl)) ?_
            try go_wp2
            go_meet
            case rel => exact ⟨_, (!t222), (by first | rfl | (simp; done) | (simp [*]; done)), H', ⟨by first | omega | exact Nat.le_refl _⟩, ⟨by (with_reducible repeat (first | refine blk_drewN ?_ _ | refine blk_drew ?_ | refine blk_alloc ?_ _)); exact BK221.out⟩, ⟨by repeat (first | (with_reducible first | exact HB.out | apply below_alloc | apply pw_below_drewN | apply below_drew1 | refine below_set ?_ GE221.out) | exact HB.out)⟩⟩
      · rw [if_neg c10] at H
        have c10b0 : (t224 == 0) = false := beq_eq_false_iff_ne.mpr c10
        have c10b1 : (t224 != 0) = true := bne_iff_ne.mpr c10
        have H' := Aside0.mk H
        clear H
        try go_wp2
        have n0_ := Aside0.mk (blk_drew BK221.out)
        have n1_ := Aside0.mk (below_drew1 HB.out)
        clear BK221 HB
        have BK221 := n0_
        have HB := n1_
        clear n0_ n1_
        refine start_ (n := 23) (S := fun w' => w'.cell? ⟨gb221, 0, none⟩ = some (.int .u8 a0_0) ∧ w'.cell? ⟨gb221, 1, none⟩ = some (.int .i64 a0_1) ∧ w'.cell? ⟨gb221, 2, none⟩ = some (.int .i64 a0_2)) (ds := []) (pfx_ 23 0) (by kernel_rfl) rfl rfl ⟨(blk_cell BK221.out 0).trans rfl, (blk_cell BK221.out 1).trans rfl, (blk_cell BK221.out 2).trans rfl⟩ (fun hHeld => ?_); refine with_tabW tailwaterlaw19_PanesCommon.tab2 tailwaterlaw19_PanesCommon.bits2 (fun HT_ HW_ => ?_)
        generalize w6.drew = w18 at BK221 HB hHeld ⊢
        refine take_ (i := 0) (N := some 16) (v := ?_) (a' := ?_) (pfx_ 23 1) rfl rfl (take_ofW HT_.out HW_.out (by kernel_rfl)) (fun _ _ _ h => h) (Or.inl ⟨by rfl, ?_⟩) hHeld ?_ ?_
        rotate_left
        · rintro w' ⟨s0, s1, s2⟩
          go_simp
          with_reducible rfl
        rotate_left
        · simp only [Act.put, List.setIfInBounds_toArray, List.set_cons_zero, List.set_cons_succ, i64_w, i32_w]
          rfl
        refine one_ (i := 1) (N := some 17) (pfx_ 23 2) rfl rfl (one_of HT_.out (by kernel_rfl)) (by decide) (fun K hK => ?_)
        refine goes_ Try.func31 (by kernel_rfl) rfl #[.agg #[.int .u8 a0_0, .int .i64 a0_1, .int .i64 a0_2]] (by rfl) rfl rfl (by (try simp only [List.map_toArray, List.map_cons, List.map_nil]); first | done | rfl | (simp only [List.length_drop, List.length_take]; rfl)) ?_
        with_reducible refine (tailwaterref19_Asked.calls k a0_0 a0_1 a0_2 t223 _ A7.out).mono ?_
        rintro e w19 ⟨rfl, hb⟩
        refine ⟨_, rfl, ?_⟩
        have n0_ := Aside0.mk (blk_below (by (with_reducible repeat (first | apply blk_drewN | apply blk_drew | apply blk_alloc)); exact BK221.out) hb)
        have n1_ := Aside0.mk (below_step (by repeat (first | (with_reducible first | exact HB.out | apply below_alloc | apply pw_below_drewN | apply below_drew1 | refine below_set ?_ GE221.out) | exact HB.out)) hb)
        clear BK221 HB
        have BK221 := n0_
        have HB := n1_
        clear n0_ n1_
        (try clear hb)
        (try clear hb2)
        (try clear hk)
        (try clear hi)
        refine hK.out _ _ ⟨(blk_cell BK221.out 0).trans rfl, (blk_cell BK221.out 1).trans rfl, (blk_cell BK221.out 2).trans rfl⟩ (fun hHeld => ?_)
        clear hK K
        refine norm_ (a' := ?_) ?_ ?_
        rotate_left
        · show Act.put _ (some 17) _ = _
          simp only [Act.put, List.setIfInBounds_toArray, List.set_cons_zero, List.set_cons_succ, i64_w, i32_w]
          rfl
        iterate 3 (refine pv_ (v := ?_) (a' := ?_) HT_.out rfl rfl (by kernel_rfl) (fun _ _ _ h => h) (Or.inl ⟨by rfl, ?_⟩) ?_ ?_; rotate_left; (focus (intro w'; go_simp; with_reducible rfl)); rotate_left; (focus (show Act.put _ (some _) _ = _; simp only [Act.put, List.setIfInBounds_toArray, List.set_cons_zero, List.set_cons_succ, i64_w, i32_w]; rfl)))
        refine one_ (i := 5) (N := some 21) (pfx_ 23 6) rfl rfl (one_of HT_.out (by kernel_rfl)) (by decide) (fun K hK => ?_)
        refine goes_ Try.func32 (by kernel_rfl) rfl #[.int .i64 a1, .int .i64 1] (by rfl) rfl rfl (by (try simp only [List.map_toArray, List.map_cons, List.map_nil]); first | done | rfl | (simp only [List.length_drop, List.length_take]; rfl)) ?_
        with_reducible refine (tailwaterref13_Check.calls k a1 1 t224 _ A9.out).mono ?_
        rintro e w' ⟨rfl, ⟨nd, rfl⟩⟩
        refine ⟨_, rfl, ?_⟩
        refine hK.out _ _ ⟨(blk_cell BK221.out 0).trans rfl, (blk_cell BK221.out 1).trans rfl, (blk_cell BK221.out 2).trans rfl⟩ (fun hHeld => ?_)
        clear hK K
        refine norm_ (a' := ?_) ?_ ?_
        rotate_left
        · show Act.put _ (some 21) _ = _
          simp only [Act.put, List.setIfInBounds_toArray, List.set_cons_zero, List.set_cons_succ, i64_w, i32_w]
          rfl
        iterate 3 (refine pv_ (v := ?_) (a' := ?_) HT_.out rfl rfl (by kernel_rfl) (fun _ _ _ h => h) (Or.inl ⟨by rfl, ?_⟩) ?_ ?_; rotate_left; (focus (intro w'; go_simp; with_reducible rfl)); rotate_left; (focus (show Act.put _ (some _) _ = _; simp only [Act.put, List.setIfInBounds_toArray, List.set_cons_zero, List.set_cons_succ, i64_w, i32_w]; rfl)))
        iterate 9 (refine pv_ (v := undef) (a' := ?_) HT_.out rfl rfl (by kernel_rfl) (fun _ _ _ h => h) (Or.inr ⟨by rfl, rfl⟩) ?_ ?_; rotate_left; (focus (show Act.put _ (some _) _ = _; simp only [Act.put, List.setIfInBounds_toArray, List.set_cons_zero, List.set_cons_succ, i64_w, i32_w]; rfl)))
        iterate 2 (refine pv_ (v := ?_) (a' := ?_) HT_.out rfl rfl (by kernel_rfl) (fun _ _ _ h => h) (Or.inl ⟨by rfl, ?_⟩) ?_ ?_; rotate_left; (focus (intro w'; go_simp; with_reducible rfl)); rotate_left; (focus (show Act.put _ (some _) _ = _; simp only [Act.put, List.setIfInBounds_toArray, List.set_cons_zero, List.set_cons_succ, i64_w, i32_w]; rfl)))
        iterate 2 (refine pv_ (v := undef) (a' := ?_) HT_.out rfl rfl (by kernel_rfl) (fun _ _ _ h => h) (Or.inr ⟨by rfl, rfl⟩) ?_ ?_; rotate_left; (focus (show Act.put _ (some _) _ = _; simp only [Act.put, List.setIfInBounds_toArray, List.set_cons_zero, List.set_cons_succ, i64_w, i32_w]; rfl)))
        (refine pv_ (v := ?_) (a' := ?_) HT_.out rfl rfl (by kernel_rfl) (fun _ _ _ h => h) (Or.inl ⟨by rfl, ?_⟩) ?_ ?_; rotate_left; (focus (intro w'; go_simp; with_reducible rfl)); rotate_left; (focus (show Act.put _ (some _) _ = _; simp only [Act.put, List.setIfInBounds_toArray, List.set_cons_zero, List.set_cons_succ, i64_w, i32_w]; rfl)))
        refine done_ (done_of HT_.out (by kernel_rfl)) ?_
        try go_wp2
        go_meet
        case rel => exact ⟨_, (true), (by first | rfl | (simp; done) | (simp [*]; done)), H', ⟨by first | omega | exact Nat.le_refl _⟩, ⟨by (with_reducible repeat (first | refine blk_drewN ?_ _ | refine blk_drew ?_ | refine blk_alloc ?_ _)); exact BK221.out⟩, ⟨by repeat (first | (with_reducible first | exact HB.out | apply below_alloc | apply pw_below_drewN | apply below_drew1 | refine below_set ?_ GE221.out) | exact HB.out)⟩⟩
    · rw [if_neg c8] at H
      have c8b0 : (t223 == 0) = false := beq_eq_false_iff_ne.mpr c8
      have c8b1 : (t223 != 0) = true := bne_iff_ne.mpr c8
      (first | rw [c8b0] | (simp only [i64_w, i32_w]; rw [c8b0]) | skip)
      have H' := Aside0.mk H
      clear H
      try go_wp2
      have n0_ := Aside0.mk (blk_drew BK221.out)
      have n1_ := Aside0.mk (below_drew1 HB.out)
      clear BK221 HB
      have BK221 := n0_
      have HB := n1_
      clear n0_ n1_
      refine start_ (n := 23) (S := fun w' => w'.cell? ⟨gb221, 0, none⟩ = some (.int .u8 a0_0) ∧ w'.cell? ⟨gb221, 1, none⟩ = some (.int .i64 a0_1) ∧ w'.cell? ⟨gb221, 2, none⟩ = some (.int .i64 a0_2)) (ds := []) (pfx_ 23 0) (by kernel_rfl) rfl rfl ⟨(blk_cell BK221.out 0).trans rfl, (blk_cell BK221.out 1).trans rfl, (blk_cell BK221.out 2).trans rfl⟩ (fun hHeld => ?_); refine with_tabW tailwaterlaw19_PanesCommon.tab2 tailwaterlaw19_PanesCommon.bits2 (fun HT_ HW_ => ?_)
      generalize w6.drew = w20 at BK221 HB hHeld ⊢
      refine take_ (i := 0) (N := some 16) (v := ?_) (a' := ?_) (pfx_ 23 1) rfl rfl (take_ofW HT_.out HW_.out (by kernel_rfl)) (fun _ _ _ h => h) (Or.inl ⟨by rfl, ?_⟩) hHeld ?_ ?_
      rotate_left
      · rintro w' ⟨s0, s1, s2⟩
        go_simp
        with_reducible rfl
      rotate_left
      · simp only [Act.put, List.setIfInBounds_toArray, List.set_cons_zero, List.set_cons_succ, i64_w, i32_w]
        rfl
      refine one_ (i := 1) (N := some 17) (pfx_ 23 2) rfl rfl (one_of HT_.out (by kernel_rfl)) (by decide) (fun K hK => ?_)
      refine goes_ Try.func31 (by kernel_rfl) rfl #[.agg #[.int .u8 a0_0, .int .i64 a0_1, .int .i64 a0_2]] (by rfl) rfl rfl (by (try simp only [List.map_toArray, List.map_cons, List.map_nil]); first | done | rfl | (simp only [List.length_drop, List.length_take]; rfl)) ?_
      with_reducible refine (tailwaterref19_Asked.calls k a0_0 a0_1 a0_2 t223 _ A7.out).mono ?_
      rintro e w21 ⟨rfl, hb⟩
      refine ⟨_, rfl, ?_⟩
      have n0_ := Aside0.mk (blk_below (by (with_reducible repeat (first | apply blk_drewN | apply blk_drew | apply blk_alloc)); exact BK221.out) hb)
      have n1_ := Aside0.mk (below_step (by repeat (first | (with_reducible first | exact HB.out | apply below_alloc | apply pw_below_drewN | apply below_drew1 | refine below_set ?_ GE221.out) | exact HB.out)) hb)
      clear BK221 HB
      have BK221 := n0_
      have HB := n1_
      clear n0_ n1_
      (try clear hb)
      (try clear hb2)
      (try clear hk)
      (try clear hi)
      refine hK.out _ _ ⟨(blk_cell BK221.out 0).trans rfl, (blk_cell BK221.out 1).trans rfl, (blk_cell BK221.out 2).trans rfl⟩ (fun hHeld => ?_)
      clear hK K
      refine norm_ (a' := ?_) ?_ ?_
      rotate_left
      · show Act.put _ (some 17) _ = _
        simp only [Act.put, List.setIfInBounds_toArray, List.set_cons_zero, List.set_cons_succ, i64_w, i32_w]
        rfl
      iterate 2 (refine pv_ (v := ?_) (a' := ?_) HT_.out rfl rfl (by kernel_rfl) (fun _ _ _ h => h) (Or.inl ⟨by rfl, ?_⟩) ?_ ?_; rotate_left; (focus (intro w'; go_simp; with_reducible rfl)); rotate_left; (focus (show Act.put _ (some _) _ = _; simp only [Act.put, List.setIfInBounds_toArray, List.set_cons_zero, List.set_cons_succ, i64_w, i32_w]; rfl)))
      iterate 3 (refine pv_ (v := undef) (a' := ?_) HT_.out rfl rfl (by kernel_rfl) (fun _ _ _ h => h) (Or.inr ⟨by rfl, rfl⟩) ?_ ?_; rotate_left; (focus (show Act.put _ (some _) _ = _; simp only [Act.put, List.setIfInBounds_toArray, List.set_cons_zero, List.set_cons_succ, i64_w, i32_w]; rfl)))
      iterate 2 (refine pv_ (v := ?_) (a' := ?_) HT_.out rfl rfl (by kernel_rfl) (fun _ _ _ h => h) (Or.inl ⟨by rfl, ?_⟩) ?_ ?_; rotate_left; (focus (intro w'; go_simp; with_reducible rfl)); rotate_left; (focus (show Act.put _ (some _) _ = _; simp only [Act.put, List.setIfInBounds_toArray, List.set_cons_zero, List.set_cons_succ, i64_w, i32_w]; rfl)))
      iterate 9 (refine pv_ (v := undef) (a' := ?_) HT_.out rfl rfl (by kernel_rfl) (fun _ _ _ h => h) (Or.inr ⟨by rfl, rfl⟩) ?_ ?_; rotate_left; (focus (show Act.put _ (some _) _ = _; simp only [Act.put, List.setIfInBounds_toArray, List.set_cons_zero, List.set_cons_succ, i64_w, i32_w]; rfl)))
      iterate 2 (refine pv_ (v := ?_) (a' := ?_) HT_.out rfl rfl (by kernel_rfl) (fun _ _ _ h => h) (Or.inl ⟨by rfl, ?_⟩) ?_ ?_; rotate_left; (focus (intro w'; go_simp; with_reducible rfl)); rotate_left; (focus (show Act.put _ (some _) _ = _; simp only [Act.put, List.setIfInBounds_toArray, List.set_cons_zero, List.set_cons_succ, i64_w, i32_w]; rfl)))
      iterate 2 (refine pv_ (v := undef) (a' := ?_) HT_.out rfl rfl (by kernel_rfl) (fun _ _ _ h => h) (Or.inr ⟨by rfl, rfl⟩) ?_ ?_; rotate_left; (focus (show Act.put _ (some _) _ = _; simp only [Act.put, List.setIfInBounds_toArray, List.set_cons_zero, List.set_cons_succ, i64_w, i32_w]; rfl)))
      (refine pv_ (v := ?_) (a' := ?_) HT_.out rfl rfl (by kernel_rfl) (fun _ _ _ h => h) (Or.inl ⟨by rfl, ?_⟩) ?_ ?_; rotate_left; (focus (intro w'; go_simp; with_reducible rfl)); rotate_left; (focus (show Act.put _ (some _) _ = _; simp only [Act.put, List.setIfInBounds_toArray, List.set_cons_zero, List.set_cons_succ, i64_w, i32_w]; rfl)))
      refine done_ (done_of HT_.out (by kernel_rfl)) ?_
      try go_wp2
      go_meet
      case rel => exact ⟨_, (true), (by first | rfl | (simp; done) | (simp [*]; done)), H', ⟨by first | omega | exact Nat.le_refl _⟩, ⟨by (with_reducible repeat (first | refine blk_drewN ?_ _ | refine blk_drew ?_ | refine blk_alloc ?_ _)); exact BK221.out⟩, ⟨by repeat (first | (with_reducible first | exact HB.out | apply below_alloc | apply pw_below_drewN | apply below_drew1 | refine below_set ?_ GE221.out) | exact HB.out)⟩⟩
  case rest =>
    clear HC4
    obtain ⟨kq, x38_3, rfl, HA, HJ3, BK221, HB⟩ := hcut
    cases kq with
    | zero => exact absurd HA.out (by simp [tailwaterlaw19_PanesCommon.j0])
    | succ kj3 =>
      have H := HA.out
      clear HA
      simp only [tailwaterlaw19_PanesCommon.j0] at H
      by_cases c22 : x38_3 = true
      · subst c22
        have H1 : (some t222) = some r := by rw [if_pos rfl] at H; exact H
        clear H
        have H := H1
        clear H1
        obtain rfl := Option.some.inj H
        go_wp2
        go_ret
        exact ⟨by first | rfl | (simp [errW_none, errW_some] <;> rfl) | (simp [*, errW_none, errW_some] <;> rfl), by repeat (first | (with_reducible first | exact HB.out | apply below_alloc | apply pw_below_drewN | apply below_drew1 | refine below_set ?_ GE221.out) | exact HB.out)⟩
      · replace c22 := Bool.eq_false_iff.mpr c22
        subst c22
        have H1 : ((slide_Of.f kj3 a0_0 a0_1 a0_2 a1).bind fun bt226 => (if bt226.2 = 0 then (if (bt226.1.length : Int) < 2 then (tailwaterlaw19_PanesCommon.j1 kj3 t222 bt226.1 bt226.2 true a0_0 a0_1 a0_2) else (if 0 < (bt226.1.length : Int) then ((tailwaterref13_Check.f kj3 ((rd_T34 bt226.1 0).f0) 1).bind fun t231 => (if t231 = 0 then (if 1 < (bt226.1.length : Int) then ((tailwaterref13_Check.f kj3 ((rd_T34 bt226.1 1).f0) 1).bind fun t233 => (tailwaterlaw19_PanesCommon.j1 kj3 t222 bt226.1 bt226.2 (t233 != 0) a0_0 a0_1 a0_2)) else (none)) else (tailwaterlaw19_PanesCommon.j1 kj3 t222 bt226.1 bt226.2 true a0_0 a0_1 a0_2))) else (none))) else (tailwaterlaw19_PanesCommon.j1 kj3 t222 bt226.1 bt226.2 true a0_0 a0_1 a0_2))) = some r := by rw [if_neg (show ¬ (false = true) by decide)] at H; exact H
        clear H
        have H := H1
        clear H1
        replace H := Option.bind_eq_some_iff.mp H
        obtain ⟨⟨t226, t229⟩, A230, H⟩ := H
        replace H : (if t229 = 0 then (if (t226.length : Int) < 2 then (tailwaterlaw19_PanesCommon.j1 kj3 t222 t226 t229 true a0_0 a0_1 a0_2) else (if 0 < (t226.length : Int) then ((tailwaterref13_Check.f kj3 ((rd_T34 t226 0).f0) 1).bind fun t231 => (if t231 = 0 then (if 1 < (t226.length : Int) then ((tailwaterref13_Check.f kj3 ((rd_T34 t226 1).f0) 1).bind fun t233 => (tailwaterlaw19_PanesCommon.j1 kj3 t222 t226 t229 (t233 != 0) a0_0 a0_1 a0_2)) else (none)) else (tailwaterlaw19_PanesCommon.j1 kj3 t222 t226 t229 true a0_0 a0_1 a0_2))) else (none))) else (tailwaterlaw19_PanesCommon.j1 kj3 t222 t226 t229 true a0_0 a0_1 a0_2)) = some r := H
        have A23 := Aside0.mk A230
        clear A230
        have HC24 := Aside0.mk H
        clear H
        obtain ⟨hcz25_0, hcz25_1, hcz25_2⟩ := blkc3 BK221.out
        obtain ⟨hfz25_0, hfz25_1, hfz25_2⟩ := blkf3 BK221.out
        go_upto_region 5 with (first | ((with_reducible refine gate_callee (f := 29) rfl ?_); refine goesL_ (some 43) rfl rfl Try.func29 (by kernel_rfl) rfl #[.agg #[.int .u8 a0_0, .int .i64 a0_1, .int .i64 a0_2], .int .i64 a1] rfl (by (try simp only [List.map_toArray, List.map_cons, List.map_nil]); first | done | rfl | (simp only [List.length_drop, List.length_take]; rfl)) ?_; (with_reducible refine (slide_Of.calls kj3 a0_0 a0_1 a0_2 a1 t226 t229 _ A23.out).mono ?_); rintro e w26 ⟨v227, rfl, ho0, hb⟩; refine ⟨_, rfl, ?_⟩; have n0_ := Aside0.mk (Kd.R_lower ho0 (below_size (by repeat (first | (with_reducible first | exact HB.out | apply below_alloc | apply pw_below_drewN | apply below_drew1 | refine below_set ?_ GE221.out) | exact HB.out)))); have n1_ := Aside0.mk (blk_below (by (with_reducible repeat (first | apply blk_drewN | apply blk_drew | apply blk_alloc)); exact BK221.out) hb); have n2_ := Aside0.mk (below_step (by repeat (first | (with_reducible first | exact HB.out | apply below_alloc | apply pw_below_drewN | apply below_drew1 | refine below_set ?_ GE221.out) | exact HB.out)) hb); clear BK221 HB; have HO228 := n0_; have BK221 := n1_; have HB := n2_; clear n0_ n1_ n2_; (try clear hb); (try clear hb2); (try clear hk); (try clear hi); (try clear ho0)))
        (try simp only [Act.put, List.setIfInBounds_toArray, List.set_cons_zero, List.set_cons_succ])
        go_cut [68] (fun v68 wc => ∃ (kq : Nat) (x68_23 : Bool), v68 = .bool x68_23 ∧ Aside0 (tailwaterlaw19_PanesCommon.j1 kq t222 t226 t229 x68_23 a0_0 a0_1 a0_2 = some r) ∧ Aside0 (kq ≤ kj3) ∧ Aside0 (Kd.R k34 34 wc w.heap.size (fun _ => True) v227 t226) ∧ Aside0 (wc.heap[gb221]? = some (.cells #[.int .u8 a0_0, .int .i64 a0_1, .int .i64 a0_2] 24 (0, 0))) ∧ Aside0 (Below w.heap.size w wc))
        case first =>
          have H := HC24.out
          clear HC24
          by_cases c27 : t229 = 0
          · rw [if_pos c27] at H
            have c27b0 : (t229 == 0) = true := beq_iff_eq.mpr c27
            have c27b1 : (t229 != 0) = false := bne_eq_false_iff_eq.mpr c27
            clear c27
            (first | rw [c27b0] | (simp only [i64_w, i32_w]; rw [c27b0]) | skip)
            by_cases c28 : (t226.length : Int) < 2
            · rw [if_pos c28] at H
              have c28b0 : decide ((t226.length : Int) < 2) = true := decide_eq_true c28
              have c28b1 : decide (t226.length < 2) = true := decide_eq_true (by omega)
              clear c28
              have H' := Aside0.mk H
              clear H
              obtain ⟨Ao29, co29, eo29⟩ := Kd.R_slice HO228.out
              subst eo29
              go_wp2
              go_meet
              case rel => exact ⟨_, (true), (by first | rfl | (simp; done) | (simp [*]; done)), H', ⟨by have := HJ3.out; first | omega | exact Nat.le_refl _⟩, ⟨by (with_reducible repeat (first | apply Kd.R_alloc | apply Kd.R_drewN | apply Kd.R_drew)); exact HO228.out⟩, ⟨by (with_reducible repeat (first | refine blk_drewN ?_ _ | refine blk_drew ?_ | refine blk_alloc ?_ _)); exact BK221.out⟩, ⟨by repeat (first | (with_reducible first | exact HB.out | apply below_alloc | apply pw_below_drewN | apply below_drew1 | refine below_set ?_ GE221.out) | exact HB.out)⟩⟩
            · rw [if_neg c28] at H
              have c28b0 : decide ((t226.length : Int) < 2) = false := decide_eq_false c28
              have c28b1 : decide (t226.length < 2) = false := decide_eq_false (by omega)
              clear c28
              by_cases c30 : 0 < (t226.length : Int)
              · rw [if_pos c30] at H
                have c30b0 : decide (0 < (t226.length : Int)) = true := decide_eq_true c30
                have c30b1 : decide (0 < t226.length) = true := decide_eq_true (by omega)
                clear c30
                replace H := Option.bind_eq_some_iff.mp H
                obtain ⟨t231, A310, H⟩ := H
                replace H : (if t231 = 0 then (if 1 < (t226.length : Int) then ((tailwaterref13_Check.f kj3 ((rd_T34 t226 1).f0) 1).bind fun t233 => (tailwaterlaw19_PanesCommon.j1 kj3 t222 t226 t229 (t233 != 0) a0_0 a0_1 a0_2)) else (none)) else (tailwaterlaw19_PanesCommon.j1 kj3 t222 t226 t229 true a0_0 a0_1 a0_2)) = some r := H
                have A31 := Aside0.mk A310
                clear A310
                by_cases c32 : t231 = 0
                · rw [if_pos c32] at H
                  have c32b0 : (t231 == 0) = true := beq_iff_eq.mpr c32
                  have c32b1 : (t231 != 0) = false := bne_eq_false_iff_eq.mpr c32
                  clear c32
                  by_cases c33 : 1 < (t226.length : Int)
                  · rw [if_pos c33] at H
                    have c33b0 : decide (1 < (t226.length : Int)) = true := decide_eq_true c33
                    have c33b1 : decide (1 < t226.length) = true := decide_eq_true (by omega)
                    clear c33
                    replace H := Option.bind_eq_some_iff.mp H
                    obtain ⟨t233, A340, H⟩ := H
                    replace H : (tailwaterlaw19_PanesCommon.j1 kj3 t222 t226 t229 (t233 != 0) a0_0 a0_1 a0_2) = some r := H
                    have A34 := Aside0.mk A340
                    clear A340
                    have H' := Aside0.mk H
                    clear H
                    obtain ⟨Ao35, co35, eo35⟩ := Kd.R_slice HO228.out
                    subst eo35
                    have p230 : 0 ≤ (0 : Int) := (by omega)
                    have q230 : 0 < (t226.length : Int) := of_decide_eq_true (by first | (with_reducible assumption) | assumption)
                    obtain ⟨ad230, e230, hx230_0, hx230_1⟩ := at_T34 (Kd.R_reads' HO228.out).2.2 0 p230 q230
                    cases e230
                    have qi230 : (0 < t226.length) = True := eq_true (by omega)
                    (try rw [show ((0 : Int)).toNat = 0 from rfl] at hx230_0)
                    (try rw [show 0 * 2 = 0 from rfl] at hx230_0)
                    (try rw [Addr.add_zero'] at hx230_0)
                    (try rw [show ((0 : Int)).toNat = 0 from rfl] at hx230_1)
                    (try rw [show 0 * 2 = 0 from rfl] at hx230_1)
                    (try rw [Addr.add_zero'] at hx230_1)
                    replace p230 := eq_true p230
                    replace q230 := eq_true q230
                    go_wp2_with (first | (go_at_call 32; (with_reducible refine (tailwaterref13_Check.calls kj3 ((rd_T34 t226 0).f0) 1 t231 _ A31.out).mono ?_); rintro e w' ⟨rfl, ⟨nd, rfl⟩⟩; have p232 : 0 ≤ (1 : Int) := (by omega); have q232 : 1 < (t226.length : Int) := of_decide_eq_true (by first | (with_reducible assumption) | assumption); obtain ⟨ad232, e232, hx232_0, hx232_1⟩ := at_T34 (Kd.R_reads' HO228.out).2.2 1 p232 q232; obtain rfl : ad230 = ad232 := (by injection e232); (try simp only [show (1 : Int).toNat = 1 from rfl, Nat.reduceMul, Nat.reduceEqDiff, Go.Addr.add, ↓reduceIte] at hx232_0); (try simp only [show (1 : Int).toNat = 1 from rfl, Nat.reduceMul, Nat.reduceEqDiff, Go.Addr.add, ↓reduceIte] at hx232_1); have qi232 : (1 < t226.length) = True := eq_true (by omega); (try rw [show ((1 : Int)).toNat = 1 from rfl] at hx232_0); (try rw [show 1 * 2 = 2 from rfl] at hx232_0); (try rw [show ((1 : Int)).toNat = 1 from rfl] at hx232_1); (try rw [show 1 * 2 = 2 from rfl] at hx232_1); replace p232 := eq_true p232; replace q232 := eq_true q232) | (go_at_call 32; (with_reducible refine (tailwaterref13_Check.calls kj3 ((rd_T34 t226 1).f0) 1 t233 _ A34.out).mono ?_); rintro e w' ⟨rfl, ⟨nd, rfl⟩⟩))
                    go_meet
                    case rel => exact ⟨_, ((t233 != 0)), (by first | rfl | (simp; done) | (simp [*]; done)), H', ⟨by have := HJ3.out; first | omega | exact Nat.le_refl _⟩, ⟨by (with_reducible repeat (first | apply Kd.R_alloc | apply Kd.R_drewN | apply Kd.R_drew)); exact HO228.out⟩, ⟨by (with_reducible repeat (first | refine blk_drewN ?_ _ | refine blk_drew ?_ | refine blk_alloc ?_ _)); exact BK221.out⟩, ⟨by repeat (first | (with_reducible first | exact HB.out | apply below_alloc | apply pw_below_drewN | apply below_drew1 | refine below_set ?_ GE221.out) | exact HB.out)⟩⟩
                  · rw [if_neg c33] at H
                    exact absurd H (by simp)
                · rw [if_neg c32] at H
                  have c32b0 : (t231 == 0) = false := beq_eq_false_iff_ne.mpr c32
                  have c32b1 : (t231 != 0) = true := bne_iff_ne.mpr c32
                  have H' := Aside0.mk H
                  clear H
                  obtain ⟨Ao36, co36, eo36⟩ := Kd.R_slice HO228.out
                  subst eo36
                  have p230 : 0 ≤ (0 : Int) := (by omega)
                  have q230 : 0 < (t226.length : Int) := of_decide_eq_true (by first | (with_reducible assumption) | assumption)
                  obtain ⟨ad230, e230, hx230_0, hx230_1⟩ := at_T34 (Kd.R_reads' HO228.out).2.2 0 p230 q230
                  cases e230
                  have qi230 : (0 < t226.length) = True := eq_true (by omega)
                  (try rw [show ((0 : Int)).toNat = 0 from rfl] at hx230_0)
                  (try rw [show 0 * 2 = 0 from rfl] at hx230_0)
                  (try rw [Addr.add_zero'] at hx230_0)
                  (try rw [show ((0 : Int)).toNat = 0 from rfl] at hx230_1)
                  (try rw [show 0 * 2 = 0 from rfl] at hx230_1)
                  (try rw [Addr.add_zero'] at hx230_1)
                  replace p230 := eq_true p230
                  replace q230 := eq_true q230
                  go_wp2_with (first | (go_at_call 32; (with_reducible refine (tailwaterref13_Check.calls kj3 ((rd_T34 t226 0).f0) 1 t231 _ A31.out).mono ?_); rintro e w' ⟨rfl, ⟨nd, rfl⟩⟩))
                  go_meet
                  case rel => exact ⟨_, (true), (by first | rfl | (simp; done) | (simp [*]; done)), H', ⟨by have := HJ3.out; first | omega | exact Nat.le_refl _⟩, ⟨by (with_reducible repeat (first | apply Kd.R_alloc | apply Kd.R_drewN | apply Kd.R_drew)); exact HO228.out⟩, ⟨by (with_reducible repeat (first | refine blk_drewN ?_ _ | refine blk_drew ?_ | refine blk_alloc ?_ _)); exact BK221.out⟩, ⟨by repeat (first | (with_reducible first | exact HB.out | apply below_alloc | apply pw_below_drewN | apply below_drew1 | refine below_set ?_ GE221.out) | exact HB.out)⟩⟩
              · rw [if_neg c30] at H
                exact absurd H (by simp)
          · rw [if_neg c27] at H
            have c27b0 : (t229 == 0) = false := beq_eq_false_iff_ne.mpr c27
            have c27b1 : (t229 != 0) = true := bne_iff_ne.mpr c27
            (first | rw [c27b0] | (simp only [i64_w, i32_w]; rw [c27b0]) | skip)
            have H' := Aside0.mk H
            clear H
            go_wp2
            go_meet
            case rel => exact ⟨_, (true), (by first | rfl | (simp; done) | (simp [*]; done)), H', ⟨by have := HJ3.out; first | omega | exact Nat.le_refl _⟩, ⟨by (with_reducible repeat (first | apply Kd.R_alloc | apply Kd.R_drewN | apply Kd.R_drew)); exact HO228.out⟩, ⟨by (with_reducible repeat (first | refine blk_drewN ?_ _ | refine blk_drew ?_ | refine blk_alloc ?_ _)); exact BK221.out⟩, ⟨by repeat (first | (with_reducible first | exact HB.out | apply below_alloc | apply pw_below_drewN | apply below_drew1 | refine below_set ?_ GE221.out) | exact HB.out)⟩⟩
        case rest =>
          clear HC24
          try clear c22
          try clear hcz25_0
          try clear hcz25_1
          try clear hcz25_2
          try clear hfz25_0
          try clear hfz25_1
          try clear hfz25_2
          obtain ⟨kq, x68_23, rfl, HA, HJ23, HO_6, BK221, HB⟩ := hcut
          cases kq with
          | zero => exact absurd HA.out (by simp [tailwaterlaw19_PanesCommon.j1])
          | succ kj23 =>
            have H := HA.out
            clear HA
            simp only [tailwaterlaw19_PanesCommon.j1] at H
            by_cases c37 : x68_23 = true
            · subst c37
              have H1 : (if t222 = true then (some (t229 == 0)) else (some false)) = some r := by rw [if_pos rfl] at H; exact H
              clear H
              have H := H1
              clear H1
              by_cases c38 : t222 = true
              · subst c38
                have H1 : (some (t229 == 0)) = some r := by rw [if_pos rfl] at H; exact H
                clear H
                have H := H1
                clear H1
                obtain rfl := Option.some.inj H
                go_wp2
                go_ret
                exact ⟨by first | rfl | (simp [errW_none, errW_some] <;> rfl) | (simp [*, errW_none, errW_some] <;> rfl), by repeat (first | (with_reducible first | exact HB.out | apply below_alloc | apply pw_below_drewN | apply below_drew1 | refine below_set ?_ GE221.out) | exact HB.out)⟩
              · replace c38 := Bool.eq_false_iff.mpr c38
                subst c38
                have H1 : (some false) = some r := by rw [if_neg (show ¬ (false = true) by decide)] at H; exact H
                clear H
                have H := H1
                clear H1
                exact absurd ((Option.some.inj H).trans hR_) (by decide)
            · replace c37 := Bool.eq_false_iff.mpr c37
              subst c37
              have H1 : (if 0 < (t226.length : Int) then ((panes_Parts.f kj23 a0_0 a0_1 a0_2 ((rd_T34 t226 0).f0) ((rd_T34 t226 0).f1)).bind fun bt235 => (if 1 < (t226.length : Int) then ((panes_Parts.f kj23 a0_0 a0_1 a0_2 ((rd_T34 t226 1).f0) ((rd_T34 t226 1).f1)).bind fun bt240 => (if bt235.2 = 0 then (tailwaterlaw19_PanesCommon.j2 kj23 t222 t226 bt235.1 bt240.1 (bt240.2 != 0)) else (tailwaterlaw19_PanesCommon.j2 kj23 t222 t226 bt235.1 bt240.1 true))) else (none))) else (none)) = some r := by rw [if_neg (show ¬ (false = true) by decide)] at H; exact H
              clear H
              have H := H1
              clear H1
              by_cases c39 : 0 < (t226.length : Int)
              · rw [if_pos c39] at H
                have c39b0 : decide (0 < (t226.length : Int)) = true := decide_eq_true c39
                have c39b1 : decide (0 < t226.length) = true := decide_eq_true (by omega)
                clear c39
                replace H := Option.bind_eq_some_iff.mp H
                obtain ⟨⟨t235, t238⟩, A400, H⟩ := H
                replace H : (if 1 < (t226.length : Int) then ((panes_Parts.f kj23 a0_0 a0_1 a0_2 ((rd_T34 t226 1).f0) ((rd_T34 t226 1).f1)).bind fun bt240 => (if t238 = 0 then (tailwaterlaw19_PanesCommon.j2 kj23 t222 t226 t235 bt240.1 (bt240.2 != 0)) else (tailwaterlaw19_PanesCommon.j2 kj23 t222 t226 t235 bt240.1 true))) else (none)) = some r := H
                have A40 := Aside0.mk A400
                clear A400
                by_cases c41 : 1 < (t226.length : Int)
                · rw [if_pos c41] at H
                  have c41b0 : decide (1 < (t226.length : Int)) = true := decide_eq_true c41
                  have c41b1 : decide (1 < t226.length) = true := decide_eq_true (by omega)
                  clear c41
                  replace H := Option.bind_eq_some_iff.mp H
                  obtain ⟨⟨t240, t243⟩, A420, H⟩ := H
                  replace H : (if t238 = 0 then (tailwaterlaw19_PanesCommon.j2 kj23 t222 t226 t235 t240 (t243 != 0)) else (tailwaterlaw19_PanesCommon.j2 kj23 t222 t226 t235 t240 true)) = some r := H
                  have A42 := Aside0.mk A420
                  clear A420
                  have HC43 := Aside0.mk H
                  clear H
                  try go_wp2
                  have n0_ := Aside0.mk (Kd.R_drew HO_6.out)
                  have n1_ := Aside0.mk (blk_drew BK221.out)
                  have n2_ := Aside0.mk (below_drew1 HB.out)
                  clear HO_6 BK221 HB
                  have HO_6 := n0_
                  have BK221 := n1_
                  have HB := n2_
                  clear n0_ n1_ n2_
                  obtain ⟨Ao45, co45, eo45⟩ := Kd.R_slice HO_6.out
                  (first | subst eo45 | (injection eo45 with f1_ f2_ f3_; have f4_ := f1_.symm; have f5_ := f3_.symm; clear f1_ f2_ f3_; subst f4_; subst f5_))
                  have p234 : 0 ≤ (0 : Int) := (by omega)
                  have q234 : 0 < (t226.length : Int) := of_decide_eq_true (by first | (with_reducible assumption) | assumption)
                  obtain ⟨ad234, e234, hx234_0, hx234_1⟩ := at_T34 (Kd.R_reads' HO_6.out).2.2 0 p234 q234
                  cases e234
                  have qi234 : (0 < t226.length) = True := eq_true (by omega)
                  (try rw [show ((0 : Int)).toNat = 0 from rfl] at hx234_0)
                  (try rw [show 0 * 2 = 0 from rfl] at hx234_0)
                  (try rw [Addr.add_zero'] at hx234_0)
                  (try rw [show ((0 : Int)).toNat = 0 from rfl] at hx234_1)
                  (try rw [show 0 * 2 = 0 from rfl] at hx234_1)
                  (try rw [Addr.add_zero'] at hx234_1)
                  replace p234 := eq_true p234
                  replace q234 := eq_true q234
                  refine start_ (n := 10) (S := fun w' => w'.cell? ⟨gb221, 0, none⟩ = some (.int .u8 a0_0) ∧ w'.cell? ⟨gb221, 1, none⟩ = some (.int .i64 a0_1) ∧ w'.cell? ⟨gb221, 2, none⟩ = some (.int .i64 a0_2) ∧ w'.cell? ad234 = some (.int .i64 ((rd_T34 t226 0).f0)) ∧ w'.cell? ⟨ad234.block, ad234.off + 1, none⟩ = some (.int .i64 ((rd_T34 t226 0).f1))) (ds := []) (pfx_ 10 0) (by kernel_rfl) rfl rfl ⟨(blk_cell BK221.out 0).trans rfl, (blk_cell BK221.out 1).trans rfl, (blk_cell BK221.out 2).trans rfl, hx234_0, hx234_1⟩ (fun hHeld => ?_); refine with_tabW tailwaterlaw19_PanesCommon.tab7 tailwaterlaw19_PanesCommon.bits7 (fun HT_ HW_ => ?_)
                  generalize wc.drew = w44 at HO_6 BK221 HB hx234_0 hx234_1 hHeld ⊢
                  refine pure_ (i := 1) (N := some 76) (v := ?_) (a' := ?_) (bm_ 10 2) rfl rfl (any_of HT_.out (by kernel_rfl)) (fun _ _ _ h => h) (Or.inl ⟨by rfl, ?_⟩) ?_ ?_
                  rotate_left
                  · intro w'
                    go_simp
                    with_reducible rfl
                  rotate_left
                  · simp only [Act.put, List.setIfInBounds_toArray, List.set_cons_zero, List.set_cons_succ, i64_w, i32_w]
                    rfl
                  refine pure_ (i := 2) (N := some 77) (v := ?_) (a' := ?_) (bm_ 10 6) rfl rfl (any_of HT_.out (by kernel_rfl)) (fun _ _ _ h => h) (Or.inl ⟨by rfl, ?_⟩) ?_ ?_
                  rotate_left
                  · intro w'
                    go_simp
                    with_reducible rfl
                  rotate_left
                  · simp only [Act.put, List.setIfInBounds_toArray, List.set_cons_zero, List.set_cons_succ, i64_w, i32_w]
                    rfl
                  refine take_ (i := 0) (N := some 75) (v := ?_) (a' := ?_) (pfx_ 10 3) rfl rfl (take_ofW HT_.out HW_.out (by kernel_rfl)) (fun _ _ _ h => h) (Or.inl ⟨by rfl, ?_⟩) hHeld ?_ ?_
                  rotate_left
                  · rintro w' ⟨s0, s1, s2, s3, s4⟩
                    go_simp
                    with_reducible rfl
                  rotate_left
                  · simp only [Act.put, List.setIfInBounds_toArray, List.set_cons_zero, List.set_cons_succ, i64_w, i32_w]
                    rfl
                  refine take_ (i := 3) (N := some 78) (v := ?_) (a' := ?_) (pfx_ 10 4) rfl rfl (take_ofW HT_.out HW_.out (by kernel_rfl)) (fun _ _ _ h => h) (Or.inl ⟨by rfl, ?_⟩) hHeld ?_ ?_
                  rotate_left
                  · rintro w' ⟨s0, s1, s2, s3, s4⟩
                    go_simp
                    with_reducible rfl
                  rotate_left
                  · simp only [Act.put, List.setIfInBounds_toArray, List.set_cons_zero, List.set_cons_succ, i64_w, i32_w]
                    rfl
                  refine one_ (i := 4) (N := some 79) (pfx_ 10 5) rfl rfl (one_of HT_.out (by kernel_rfl)) (by decide) (fun K hK => ?_)
                  refine goes_ Try.func36 (by kernel_rfl) rfl #[.agg #[.int .u8 a0_0, .int .i64 a0_1, .int .i64 a0_2], .agg #[.int .i64 ((rd_T34 t226 0).f0), .int .i64 ((rd_T34 t226 0).f1)]] (by rfl) rfl rfl (by (try simp only [List.map_toArray, List.map_cons, List.map_nil]); first | done | rfl | (simp only [List.length_drop, List.length_take]; rfl)) ?_
                  with_reducible refine (panes_Parts.calls kj23 a0_0 a0_1 a0_2 ((rd_T34 t226 0).f0) ((rd_T34 t226 0).f1) t235 t238 _ A40.out).mono ?_
                  rintro e w46 ⟨v236, rfl, ho0, hb⟩
                  have HS3_ := (hb.cell (World.block_lt_of_cell? _ _ (hHeld.2.2.2.1))).trans (hHeld.2.2.2.1)
                  have HS4_ := (hb.cell (World.block_lt_of_cell? _ _ (hHeld.2.2.2.2))).trans (hHeld.2.2.2.2)
                  refine ⟨_, rfl, ?_⟩
                  have n0_ := Aside0.mk (Kd.R_elder' (by (with_reducible repeat (first | apply Kd.R_alloc | apply Kd.R_drewN | apply Kd.R_drew)); exact HO_6.out) (Kd.R_base ho0) hb)
                  have n1_ := Aside0.mk (Kd.R_lower (Kd.R_new' ho0 (Kd.R_lt (by (with_reducible repeat (first | apply Kd.R_alloc | apply Kd.R_drewN | apply Kd.R_drew)); exact HO_6.out))) (below_size (by repeat (first | (with_reducible first | exact HB.out | apply below_alloc | apply pw_below_drewN | apply below_drew1 | refine below_set ?_ GE221.out) | exact HB.out))))
                  have n2_ := Aside0.mk (blk_below (by (with_reducible repeat (first | apply blk_drewN | apply blk_drew | apply blk_alloc)); exact BK221.out) hb)
                  have n3_ := Aside0.mk (below_step (by repeat (first | (with_reducible first | exact HB.out | apply below_alloc | apply pw_below_drewN | apply below_drew1 | refine below_set ?_ GE221.out) | exact HB.out)) hb)
                  clear HO_6 BK221 HB
                  have HO_6 := n0_
                  have HO237 := n1_
                  have BK221 := n2_
                  have HB := n3_
                  clear n0_ n1_ n2_ n3_
                  (try clear hb)
                  (try clear hb2)
                  (try clear hk)
                  (try clear hi)
                  (try clear ho0)
                  refine hK.out _ _ ⟨(blk_cell BK221.out 0).trans rfl, (blk_cell BK221.out 1).trans rfl, (blk_cell BK221.out 2).trans rfl, HS3_, HS4_⟩ (fun hHeld => ?_)
                  clear hK K
                  refine norm_ (a' := ?_) ?_ ?_
                  rotate_left
                  · show Act.put _ (some 79) _ = _
                    simp only [Act.put, List.setIfInBounds_toArray, List.set_cons_zero, List.set_cons_succ, i64_w, i32_w]
                    rfl
                  iterate 5 (refine pv_ (v := ?_) (a' := ?_) HT_.out rfl rfl (by kernel_rfl) (fun _ _ _ h => h) (Or.inl ⟨by rfl, ?_⟩) ?_ ?_; rotate_left; (focus (intro w'; go_simp; with_reducible rfl)); rotate_left; (focus (show Act.put _ (some _) _ = _; simp only [Act.put, List.setIfInBounds_toArray, List.set_cons_zero, List.set_cons_succ, i64_w, i32_w]; rfl)))
                  refine done_ (done_of HT_.out (by kernel_rfl)) ?_
                  try go_wp2
                  have n0_ := Aside0.mk (Kd.R_drew HO_6.out)
                  have n1_ := Aside0.mk (Kd.R_drew HO237.out)
                  have n2_ := Aside0.mk (blk_drew BK221.out)
                  have n3_ := Aside0.mk (below_drew1 HB.out)
                  clear HO_6 HO237 BK221 HB
                  have HO_6 := n0_
                  have HO237 := n1_
                  have BK221 := n2_
                  have HB := n3_
                  clear n0_ n1_ n2_ n3_
                  have p239 : 0 ≤ (1 : Int) := (by omega)
                  have q239 : 1 < (t226.length : Int) := of_decide_eq_true (by first | (with_reducible assumption) | assumption)
                  obtain ⟨ad239, e239, hx239_0, hx239_1⟩ := at_T34 (Kd.R_reads' HO_6.out).2.2 1 p239 q239
                  obtain rfl : ad234 = ad239 := (by injection e239)
                  (try simp only [show (1 : Int).toNat = 1 from rfl, Nat.reduceMul, Nat.reduceEqDiff, Go.Addr.add, ↓reduceIte] at hx239_0)
                  (try simp only [show (1 : Int).toNat = 1 from rfl, Nat.reduceMul, Nat.reduceEqDiff, Go.Addr.add, ↓reduceIte] at hx239_1)
                  have qi239 : (1 < t226.length) = True := eq_true (by omega)
                  (try rw [show ((1 : Int)).toNat = 1 from rfl] at hx239_0)
                  (try rw [show 1 * 2 = 2 from rfl] at hx239_0)
                  (try rw [show ((1 : Int)).toNat = 1 from rfl] at hx239_1)
                  (try rw [show 1 * 2 = 2 from rfl] at hx239_1)
                  replace p239 := eq_true p239
                  replace q239 := eq_true q239
                  refine start_ (n := 10) (S := fun w' => w'.cell? ⟨gb221, 0, none⟩ = some (.int .u8 a0_0) ∧ w'.cell? ⟨gb221, 1, none⟩ = some (.int .i64 a0_1) ∧ w'.cell? ⟨gb221, 2, none⟩ = some (.int .i64 a0_2) ∧ w'.cell? ⟨ad234.block, ad234.off + 2, none⟩ = some (.int .i64 ((rd_T34 t226 1).f0)) ∧ w'.cell? ⟨ad234.block, ad234.off + 2 + 1, none⟩ = some (.int .i64 ((rd_T34 t226 1).f1))) (ds := []) (pfx_ 10 0) (by kernel_rfl) rfl rfl ⟨(blk_cell BK221.out 0).trans rfl, (blk_cell BK221.out 1).trans rfl, (blk_cell BK221.out 2).trans rfl, hx239_0, hx239_1⟩ (fun hHeld => ?_); refine with_tabW tailwaterlaw19_PanesCommon.tab8 tailwaterlaw19_PanesCommon.bits8 (fun HT_ HW_ => ?_)
                  generalize w46.drew = w47 at HO_6 HO237 BK221 HB hx239_0 hx239_1 hHeld ⊢
                  refine pure_ (i := 1) (N := some 84) (v := ?_) (a' := ?_) (bm_ 10 2) rfl rfl (any_of HT_.out (by kernel_rfl)) (fun _ _ _ h => h) (Or.inl ⟨by rfl, ?_⟩) ?_ ?_
                  rotate_left
                  · intro w'
                    go_simp
                    with_reducible rfl
                  rotate_left
                  · simp only [Act.put, List.setIfInBounds_toArray, List.set_cons_zero, List.set_cons_succ, i64_w, i32_w]
                    rfl
                  refine pure_ (i := 2) (N := some 85) (v := ?_) (a' := ?_) (bm_ 10 6) rfl rfl (any_of HT_.out (by kernel_rfl)) (fun _ _ _ h => h) (Or.inl ⟨by rfl, ?_⟩) ?_ ?_
                  rotate_left
                  · intro w'
                    go_simp
                    with_reducible rfl
                  rotate_left
                  · simp only [Act.put, List.setIfInBounds_toArray, List.set_cons_zero, List.set_cons_succ, i64_w, i32_w]
                    rfl
                  refine take_ (i := 0) (N := some 83) (v := ?_) (a' := ?_) (pfx_ 10 3) rfl rfl (take_ofW HT_.out HW_.out (by kernel_rfl)) (fun _ _ _ h => h) (Or.inl ⟨by rfl, ?_⟩) hHeld ?_ ?_
                  rotate_left
                  · rintro w' ⟨s0, s1, s2, s3, s4⟩
                    go_simp
                    with_reducible rfl
                  rotate_left
                  · simp only [Act.put, List.setIfInBounds_toArray, List.set_cons_zero, List.set_cons_succ, i64_w, i32_w]
                    rfl
                  refine take_ (i := 3) (N := some 86) (v := ?_) (a' := ?_) (pfx_ 10 4) rfl rfl (take_ofW HT_.out HW_.out (by kernel_rfl)) (fun _ _ _ h => h) (Or.inl ⟨by rfl, ?_⟩) hHeld ?_ ?_
                  rotate_left
                  · rintro w' ⟨s0, s1, s2, s3, s4⟩
                    go_simp
                    with_reducible rfl
                  rotate_left
                  · simp only [Act.put, List.setIfInBounds_toArray, List.set_cons_zero, List.set_cons_succ, i64_w, i32_w]
                    rfl
                  refine one_ (i := 4) (N := some 87) (pfx_ 10 5) rfl rfl (one_of HT_.out (by kernel_rfl)) (by decide) (fun K hK => ?_)
                  refine goes_ Try.func36 (by kernel_rfl) rfl #[.agg #[.int .u8 a0_0, .int .i64 a0_1, .int .i64 a0_2], .agg #[.int .i64 ((rd_T34 t226 1).f0), .int .i64 ((rd_T34 t226 1).f1)]] (by rfl) rfl rfl (by (try simp only [List.map_toArray, List.map_cons, List.map_nil]); first | done | rfl | (simp only [List.length_drop, List.length_take]; rfl)) ?_
                  with_reducible refine (panes_Parts.calls kj23 a0_0 a0_1 a0_2 ((rd_T34 t226 1).f0) ((rd_T34 t226 1).f1) t240 t243 _ A42.out).mono ?_
                  rintro e w48 ⟨v241, rfl, ho0, hb⟩
                  have HS3_ := (hb.cell (World.block_lt_of_cell? _ _ (hHeld.2.2.2.1))).trans (hHeld.2.2.2.1)
                  have HS4_ := (hb.cell (World.block_lt_of_cell? _ _ (hHeld.2.2.2.2))).trans (hHeld.2.2.2.2)
                  refine ⟨_, rfl, ?_⟩
                  have n0_ := Aside0.mk (Kd.R_elder' (by (with_reducible repeat (first | apply Kd.R_alloc | apply Kd.R_drewN | apply Kd.R_drew)); exact HO_6.out) (Kd.R_base ho0) hb)
                  have n1_ := Aside0.mk (Kd.R_elder' (by (with_reducible repeat (first | apply Kd.R_alloc | apply Kd.R_drewN | apply Kd.R_drew)); exact HO237.out) (Kd.R_base ho0) hb)
                  have n2_ := Aside0.mk (Kd.R_lower (Kd.R_new' (Kd.R_new' ho0 (Kd.R_lt (by (with_reducible repeat (first | apply Kd.R_alloc | apply Kd.R_drewN | apply Kd.R_drew)); exact HO_6.out))) (Kd.R_lt (by (with_reducible repeat (first | apply Kd.R_alloc | apply Kd.R_drewN | apply Kd.R_drew)); exact HO237.out))) (below_size (by repeat (first | (with_reducible first | exact HB.out | apply below_alloc | apply pw_below_drewN | apply below_drew1 | refine below_set ?_ GE221.out) | exact HB.out))))
                  have n3_ := Aside0.mk (blk_below (by (with_reducible repeat (first | apply blk_drewN | apply blk_drew | apply blk_alloc)); exact BK221.out) hb)
                  have n4_ := Aside0.mk (below_step (by repeat (first | (with_reducible first | exact HB.out | apply below_alloc | apply pw_below_drewN | apply below_drew1 | refine below_set ?_ GE221.out) | exact HB.out)) hb)
                  clear HO_6 HO237 BK221 HB
                  have HO_6 := n0_
                  have HO237 := n1_
                  have HO242 := n2_
                  have BK221 := n3_
                  have HB := n4_
                  clear n0_ n1_ n2_ n3_ n4_
                  (try clear hb)
                  (try clear hb2)
                  (try clear hk)
                  (try clear hi)
                  (try clear ho0)
                  refine hK.out _ _ ⟨(blk_cell BK221.out 0).trans rfl, (blk_cell BK221.out 1).trans rfl, (blk_cell BK221.out 2).trans rfl, HS3_, HS4_⟩ (fun hHeld => ?_)
                  clear hK K
                  refine norm_ (a' := ?_) ?_ ?_
                  rotate_left
                  · show Act.put _ (some 87) _ = _
                    simp only [Act.put, List.setIfInBounds_toArray, List.set_cons_zero, List.set_cons_succ, i64_w, i32_w]
                    rfl
                  iterate 5 (refine pv_ (v := ?_) (a' := ?_) HT_.out rfl rfl (by kernel_rfl) (fun _ _ _ h => h) (Or.inl ⟨by rfl, ?_⟩) ?_ ?_; rotate_left; (focus (intro w'; go_simp; with_reducible rfl)); rotate_left; (focus (show Act.put _ (some _) _ = _; simp only [Act.put, List.setIfInBounds_toArray, List.set_cons_zero, List.set_cons_succ, i64_w, i32_w]; rfl)))
                  refine done_ (done_of HT_.out (by kernel_rfl)) ?_
                  go_upto_region 9 with (fail)
                  go_cut [95] (fun v95 wc => ∃ (kq : Nat) (x95_42 : Bool), v95 = .bool x95_42 ∧ Aside0 (tailwaterlaw19_PanesCommon.j2 kq t222 t226 t235 t240 x95_42 = some r) ∧ Aside0 (kq ≤ kj23) ∧ Aside0 (Kd.R k34 34 wc w.heap.size (fun k_ => some k_ ≠ (v236 : Value).ownBlock ∧ some k_ ≠ (v241 : Value).ownBlock) (.slice (some ad234) t226.length co45) t226) ∧ Aside0 (Kd.R k34 34 wc w.heap.size (fun k_ => some k_ ≠ ((.slice (some ad234) t226.length co45) : Value).ownBlock ∧ some k_ ≠ (v241 : Value).ownBlock) v236 t235) ∧ Aside0 (Kd.R k34 34 wc w.heap.size (fun k_ => some k_ ≠ ((.slice (some ad234) t226.length co45) : Value).ownBlock ∧ some k_ ≠ (v236 : Value).ownBlock) v241 t240) ∧ Aside0 (wc.heap[gb221]? = some (.cells #[.int .u8 a0_0, .int .i64 a0_1, .int .i64 a0_2] 24 (0, 0))) ∧ Aside0 (Below w.heap.size w wc))
                  case first =>
                    have H := HC43.out
                    clear HC43
                    by_cases c49 : t238 = 0
                    · rw [if_pos c49] at H
                      have c49b0 : (t238 == 0) = true := beq_iff_eq.mpr c49
                      have c49b1 : (t238 != 0) = false := bne_eq_false_iff_eq.mpr c49
                      clear c49
                      (first | rw [c49b0] | (simp only [i64_w, i32_w]; rw [c49b0]) | skip)
                      have H' := Aside0.mk H
                      clear H
                      go_wp2
                      go_meet
                      case rel => exact ⟨_, ((t243 != 0)), (by first | rfl | (simp; done) | (simp [*]; done)), H', ⟨by have := HJ3.out; have := HJ23.out; first | omega | exact Nat.le_refl _⟩, ⟨by (with_reducible repeat (first | apply Kd.R_alloc | apply Kd.R_drewN | apply Kd.R_drew)); exact Kd.R_mono HO_6.out (fun _ hk => ⟨hk.1.2, hk.2⟩)⟩, ⟨by (with_reducible repeat (first | apply Kd.R_alloc | apply Kd.R_drewN | apply Kd.R_drew)); exact Kd.R_mono HO237.out (fun _ hk => ⟨hk.1.2, hk.2⟩)⟩, ⟨by (with_reducible repeat (first | apply Kd.R_alloc | apply Kd.R_drewN | apply Kd.R_drew)); exact Kd.R_mono HO242.out (fun _ hk => ⟨hk.1.2, hk.2⟩)⟩, ⟨by (with_reducible repeat (first | refine blk_drewN ?_ _ | refine blk_drew ?_ | refine blk_alloc ?_ _)); exact BK221.out⟩, ⟨by repeat (first | (with_reducible first | exact HB.out | apply below_alloc | apply pw_below_drewN | apply below_drew1 | refine below_set ?_ GE221.out) | exact HB.out)⟩⟩
                    · rw [if_neg c49] at H
                      have c49b0 : (t238 == 0) = false := beq_eq_false_iff_ne.mpr c49
                      have c49b1 : (t238 != 0) = true := bne_iff_ne.mpr c49
                      (first | rw [c49b0] | (simp only [i64_w, i32_w]; rw [c49b0]) | skip)
                      have H' := Aside0.mk H
                      clear H
                      go_wp2
                      go_meet
                      case rel => exact ⟨_, (true), (by first | rfl | (simp; done) | (simp [*]; done)), H', ⟨by have := HJ3.out; have := HJ23.out; first | omega | exact Nat.le_refl _⟩, ⟨by (with_reducible repeat (first | apply Kd.R_alloc | apply Kd.R_drewN | apply Kd.R_drew)); exact Kd.R_mono HO_6.out (fun _ hk => ⟨hk.1.2, hk.2⟩)⟩, ⟨by (with_reducible repeat (first | apply Kd.R_alloc | apply Kd.R_drewN | apply Kd.R_drew)); exact Kd.R_mono HO237.out (fun _ hk => ⟨hk.1.2, hk.2⟩)⟩, ⟨by (with_reducible repeat (first | apply Kd.R_alloc | apply Kd.R_drewN | apply Kd.R_drew)); exact Kd.R_mono HO242.out (fun _ hk => ⟨hk.1.2, hk.2⟩)⟩, ⟨by (with_reducible repeat (first | refine blk_drewN ?_ _ | refine blk_drew ?_ | refine blk_alloc ?_ _)); exact BK221.out⟩, ⟨by repeat (first | (with_reducible first | exact HB.out | apply below_alloc | apply pw_below_drewN | apply below_drew1 | refine below_set ?_ GE221.out) | exact HB.out)⟩⟩
                  case rest =>
                    clear HC43
                    try clear c22
                    try clear c37
                    try clear c39
                    try clear c39b0
                    try clear c39b1
                    try clear c41
                    try clear c41b0
                    try clear c41b1
                    try clear hcz25_0
                    try clear hcz25_1
                    try clear hcz25_2
                    try clear hfz25_0
                    try clear hfz25_1
                    try clear hfz25_2
                    try clear hx234_0
                    try clear hx234_1
                    try clear hx239_0
                    try clear hx239_1
                    try clear p234
                    try clear p239
                    try clear q234
                    try clear q239
                    obtain ⟨kq, x95_42, rfl, HA, HJ42, HO_6, HO_8, HO_10, BK221, HB⟩ := hcut
                    cases kq with
                    | zero => exact absurd HA.out (by simp [tailwaterlaw19_PanesCommon.j2])
                    | succ kj42 =>
                      have H := HA.out
                      clear HA
                      simp only [tailwaterlaw19_PanesCommon.j2] at H
                      by_cases c50 : x95_42 = true
                      · subst c50
                        have H1 : (some false) = some r := by rw [if_pos rfl] at H; exact H
                        clear H
                        have H := H1
                        clear H1
                        exact absurd ((Option.some.inj H).trans hR_) (by decide)
                      · replace c50 := Bool.eq_false_iff.mpr c50
                        subst c50
                        have H1 : (tailwaterlaw19_PanesCommon.l0 kj42 t222 t226 t235 t240 0 0) = some r := by rw [if_neg (show ¬ (false = true) by decide)] at H; exact H
                        clear H
                        have H := H1
                        clear H1
                        have H' := Aside0.mk H
                        clear H
                        go_wp2
                        go_loopg [12, 13] kj42 (fun kq v12 v13 w' => ∃ (x12_4 : Int) (x13_4 : Int), v12 = .int .i64 x12_4 ∧ v13 = .int .i64 x13_4 ∧ Aside0 (tailwaterlaw19_PanesCommon.l0 kq t222 t226 t235 t240 x12_4 x13_4 = some r) ∧ Aside0 (kq ≤ kj42) ∧ Aside0 (Kd.R k34 34 w' w.heap.size (fun k_ => some k_ ≠ (v236 : Value).ownBlock ∧ some k_ ≠ (v241 : Value).ownBlock) (.slice (some ad234) t226.length co45) t226) ∧ Aside0 (Kd.R k34 34 w' w.heap.size (fun k_ => some k_ ≠ ((.slice (some ad234) t226.length co45) : Value).ownBlock ∧ some k_ ≠ (v241 : Value).ownBlock) v236 t235) ∧ Aside0 (Kd.R k34 34 w' w.heap.size (fun k_ => some k_ ≠ ((.slice (some ad234) t226.length co45) : Value).ownBlock ∧ some k_ ≠ (v236 : Value).ownBlock) v241 t240) ∧ Aside0 (w'.heap[gb221]? = some (.cells #[.int .u8 a0_0, .int .i64 a0_1, .int .i64 a0_2] 24 (0, 0))) ∧ Aside0 (Below w.heap.size w w'))
                        case atStart => exact ⟨(0), (0), (by first | rfl | (simp; done) | (simp [*]; done)), (by first | rfl | (simp; done) | (simp [*]; done)), H', ⟨Nat.le_refl _⟩, ⟨by (with_reducible repeat (first | apply Kd.R_alloc | apply Kd.R_drewN | apply Kd.R_drew)); exact HO_6.out⟩, ⟨by (with_reducible repeat (first | apply Kd.R_alloc | apply Kd.R_drewN | apply Kd.R_drew)); exact HO_8.out⟩, ⟨by (with_reducible repeat (first | apply Kd.R_alloc | apply Kd.R_drewN | apply Kd.R_drew)); exact HO_10.out⟩, ⟨by (with_reducible repeat (first | refine blk_drewN ?_ _ | refine blk_drew ?_ | refine blk_alloc ?_ _)); exact BK221.out⟩, ⟨by repeat (first | (with_reducible first | exact HB.out | apply below_alloc | apply pw_below_drewN | apply below_drew1 | refine below_set ?_ GE221.out) | exact HB.out)⟩⟩
                        case round =>
                          clear H'
                          try clear c22
                          try clear c37
                          try clear c39
                          try clear c39b0
                          try clear c39b1
                          try clear c41
                          try clear c41b0
                          try clear c41b1
                          try clear c50
                          try clear hcz25_0
                          try clear hcz25_1
                          try clear hcz25_2
                          try clear hfz25_0
                          try clear hfz25_1
                          try clear hfz25_2
                          try clear hx234_0
                          try clear hx234_1
                          try clear hx239_0
                          try clear hx239_1
                          try clear p234
                          try clear p239
                          try clear q234
                          try clear q239
                          obtain ⟨x12_4, x13_4, rfl, rfl, HA, HK4, HO_6, HO_8, HO_10, BK221, HB⟩ := hrel
                          cases gk with
                          | zero => exact absurd HA.out (by simp [tailwaterlaw19_PanesCommon.l0])
                          | succ k4 =>
                            have H := HA.out
                            clear HA
                            simp only [tailwaterlaw19_PanesCommon.l0] at H
                            by_cases c51 : x13_4 < (t235.length : Int)
                            · rw [if_pos c51] at H
                              have c51b0 : decide (x13_4 < (t235.length : Int)) = true := decide_eq_true c51
                              clear c51
                              have H' := Aside0.mk H
                              clear H
                              obtain ⟨Ao52, co52, eo52⟩ := Kd.R_slice HO_8.out
                              subst eo52
                              go_wp2
                              go_loopg [12, 14] k4 (fun kq v12 v14 w' => ∃ (x12_5 : Int) (x14_5 : Int), v12 = .int .i64 x12_5 ∧ v14 = .int .i64 x14_5 ∧ Aside0 (tailwaterlaw19_PanesCommon.l1 kq t222 t226 t235 t240 x12_5 x13_4 x14_5 = some r) ∧ Aside0 (kq ≤ k4) ∧ Aside0 (Kd.R k34 34 w' w.heap.size (fun k_ => some k_ ≠ ((.slice Ao52 t235.length co52) : Value).ownBlock ∧ some k_ ≠ (v241 : Value).ownBlock) (.slice (some ad234) t226.length co45) t226) ∧ Aside0 (Kd.R k34 34 w' w.heap.size (fun k_ => some k_ ≠ ((.slice (some ad234) t226.length co45) : Value).ownBlock ∧ some k_ ≠ (v241 : Value).ownBlock) (.slice Ao52 t235.length co52) t235) ∧ Aside0 (Kd.R k34 34 w' w.heap.size (fun k_ => some k_ ≠ ((.slice (some ad234) t226.length co45) : Value).ownBlock ∧ some k_ ≠ ((.slice Ao52 t235.length co52) : Value).ownBlock) v241 t240) ∧ Aside0 (w'.heap[gb221]? = some (.cells #[.int .u8 a0_0, .int .i64 a0_1, .int .i64 a0_2] 24 (0, 0))) ∧ Aside0 (Below w.heap.size w w'))
                              case atStart => exact ⟨(x12_4), (0), (by first | rfl | (simp; done) | (simp [*]; done)), (by first | rfl | (simp; done) | (simp [*]; done)), H', ⟨Nat.le_refl _⟩, ⟨by (with_reducible repeat (first | apply Kd.R_alloc | apply Kd.R_drewN | apply Kd.R_drew)); exact HO_6.out⟩, ⟨by (with_reducible repeat (first | apply Kd.R_alloc | apply Kd.R_drewN | apply Kd.R_drew)); exact HO_8.out⟩, ⟨by (with_reducible repeat (first | apply Kd.R_alloc | apply Kd.R_drewN | apply Kd.R_drew)); exact HO_10.out⟩, ⟨by (with_reducible repeat (first | refine blk_drewN ?_ _ | refine blk_drew ?_ | refine blk_alloc ?_ _)); exact BK221.out⟩, ⟨by repeat (first | (with_reducible first | exact HB.out | apply below_alloc | apply pw_below_drewN | apply below_drew1 | refine below_set ?_ GE221.out) | exact HB.out)⟩⟩
                              case round =>
                                clear H'
                                try clear c22
                                try clear c37
                                try clear c39
                                try clear c39b0
                                try clear c39b1
                                try clear c41
                                try clear c41b0
                                try clear c41b1
                                try clear c50
                                try clear c51
                                try clear c51b0
                                try clear hcz25_0
                                try clear hcz25_1
                                try clear hcz25_2
                                try clear hfz25_0
                                try clear hfz25_1
                                try clear hfz25_2
                                try clear hx234_0
                                try clear hx234_1
                                try clear hx239_0
                                try clear hx239_1
                                try clear p234
                                try clear p239
                                try clear q234
                                try clear q239
                                obtain ⟨x12_5, x14_5, rfl, rfl, HA, HK5, HO_6, HO_8, HO_10, BK221, HB⟩ := hrel
                                cases gk with
                                | zero => exact absurd HA.out (by simp [tailwaterlaw19_PanesCommon.l1])
                                | succ k5 =>
                                  have H := HA.out
                                  clear HA
                                  simp only [tailwaterlaw19_PanesCommon.l1] at H
                                  by_cases c53 : x14_5 < (t240.length : Int)
                                  · rw [if_pos c53] at H
                                    have c53b0 : decide (x14_5 < (t240.length : Int)) = true := decide_eq_true c53
                                    clear c53
                                    by_cases c54 : 0 ≤ x13_4
                                    · rw [if_pos c54] at H
                                      have c54b0 : decide (0 ≤ x13_4) = true := decide_eq_true c54
                                      clear c54
                                      by_cases c55 : x13_4 < (t235.length : Int)
                                      · rw [if_pos c55] at H
                                        have c55b0 : decide (x13_4 < (t235.length : Int)) = true := decide_eq_true c55
                                        clear c55
                                        by_cases c56 : 0 ≤ x14_5
                                        · rw [if_pos c56] at H
                                          have c56b0 : decide (0 ≤ x14_5) = true := decide_eq_true c56
                                          clear c56
                                          by_cases c57 : (((rd_T34 t235 x13_4).f0) == ((rd_T34 t240 x14_5).f0) && (((rd_T34 t235 x13_4).f1) == ((rd_T34 t240 x14_5).f1))) = true
                                          · rw [if_pos c57] at H
                                            have c57b0 : (((rd_T34 t235 x13_4).f0) == ((rd_T34 t240 x14_5).f0) && (((rd_T34 t235 x13_4).f1) == ((rd_T34 t240 x14_5).f1))) = true := c57
                                            (try (have c57b1 : decide (((rd_T34 t235 x13_4).f0) = ((rd_T34 t240 x14_5).f0) && (((rd_T34 t235 x13_4).f1) == ((rd_T34 t240 x14_5).f1))) = true := by simpa using c57))
                                            (try (have c57b2 : (((rd_T34 t235 x13_4).f0) == ((rd_T34 t240 x14_5).f0) && (((rd_T34 t235 x13_4).f1) == ((rd_T34 t240 x14_5).f1))) = true := by simpa using c57))
                                            clear c57
                                            have H' := Aside0.mk H
                                            clear H
                                            obtain ⟨Ao58, co58, eo58⟩ := Kd.R_slice HO_10.out
                                            subst eo58
                                            try go_wp2
                                            have n0_ := Aside0.mk (Kd.R_drew HO_6.out)
                                            have n1_ := Aside0.mk (Kd.R_drew HO_8.out)
                                            have n2_ := Aside0.mk (Kd.R_drew HO_10.out)
                                            have n3_ := Aside0.mk (blk_drew BK221.out)
                                            have n4_ := Aside0.mk (below_drew1 HB.out)
                                            clear HO_6 HO_8 HO_10 BK221 HB
                                            have HO_6 := n0_
                                            have HO_8 := n1_
                                            have HO_10 := n2_
                                            have BK221 := n3_
                                            have HB := n4_
                                            clear n0_ n1_ n2_ n3_ n4_
                                            have p246 : 0 ≤ (x13_4 : Int) := of_decide_eq_true (by first | (with_reducible assumption) | assumption)
                                            have q246 : x13_4 < (t235.length : Int) := of_decide_eq_true (by first | (with_reducible assumption) | assumption)
                                            obtain ⟨ad246, e246, hx246_0, hx246_1⟩ := at_T34 (Kd.R_reads' HO_8.out).2.2 x13_4 p246 q246
                                            cases e246
                                            replace p246 := eq_true p246
                                            replace q246 := eq_true q246
                                            have p247 : 0 ≤ (x14_5 : Int) := of_decide_eq_true (by first | (with_reducible assumption) | assumption)
                                            have q247 : x14_5 < (t240.length : Int) := of_decide_eq_true (by first | (with_reducible assumption) | assumption)
                                            obtain ⟨ad247, e247, hx247_0, hx247_1⟩ := at_T34 (Kd.R_reads' HO_10.out).2.2 x14_5 p247 q247
                                            cases e247
                                            replace p247 := eq_true p247
                                            replace q247 := eq_true q247
                                            refine start_ (n := 9) (S := fun w' => w'.cell? (ad246.add ((x13_4).toNat * 2)) = some (.int .i64 ((rd_T34 t235 x13_4).f0)) ∧ w'.cell? ⟨(ad246.add ((x13_4).toNat * 2)).block, (ad246.add ((x13_4).toNat * 2)).off + 1, none⟩ = some (.int .i64 ((rd_T34 t235 x13_4).f1)) ∧ w'.cell? (ad247.add ((x14_5).toNat * 2)) = some (.int .i64 ((rd_T34 t240 x14_5).f0)) ∧ w'.cell? ⟨(ad247.add ((x14_5).toNat * 2)).block, (ad247.add ((x14_5).toNat * 2)).off + 1, none⟩ = some (.int .i64 ((rd_T34 t240 x14_5).f1))) (ds := []) (pfx_ 9 0) (by kernel_rfl) rfl rfl ⟨hx246_0, hx246_1, hx247_0, hx247_1⟩ (fun hHeld => ?_); refine with_tabW tailwaterlaw19_PanesCommon.tab18 tailwaterlaw19_PanesCommon.bits18 (fun HT_ HW_ => ?_)
                                            generalize wr.drew = w59 at HO_6 HO_8 HO_10 BK221 HB hx246_0 hx246_1 hx247_0 hx247_1 hHeld ⊢
                                            iterate 3 (refine pv_ (v := ?_) (a' := ?_) HT_.out rfl rfl (by kernel_rfl) (fun _ _ _ h => h) (Or.inl ⟨by rfl, ?_⟩) ?_ ?_; rotate_left; (focus (intro w'; go_simp; with_reducible rfl)); rotate_left; (focus (show Act.put _ (some _) _ = _; simp only [Act.put, List.setIfInBounds_toArray, List.set_cons_zero, List.set_cons_succ, i64_w, i32_w]; rfl)))
                                            refine pure_ (i := 4) (N := some 112) (v := ?_) (a' := ?_) (bm_ 9 23) rfl rfl (any_of HT_.out (by kernel_rfl)) (fun _ _ _ h => h) (Or.inl ⟨by rfl, ?_⟩) ?_ ?_
                                            rotate_left
                                            · intro w'
                                              go_simp
                                              with_reducible rfl
                                            rotate_left
                                            · simp only [Act.put, List.setIfInBounds_toArray, List.set_cons_zero, List.set_cons_succ, i64_w, i32_w]
                                              rfl
                                            refine pure_ (i := 5) (N := some 113) (v := ?_) (a' := ?_) (bm_ 9 55) rfl rfl (any_of HT_.out (by kernel_rfl)) (fun _ _ _ h => h) (Or.inl ⟨by rfl, ?_⟩) ?_ ?_
                                            rotate_left
                                            · intro w'
                                              go_simp
                                              with_reducible rfl
                                            rotate_left
                                            · simp only [Act.put, List.setIfInBounds_toArray, List.set_cons_zero, List.set_cons_succ, i64_w, i32_w]
                                              rfl
                                            refine pure_ (i := 6) (N := some 114) (v := ?_) (a' := ?_) (bm_ 9 119) rfl rfl (any_of HT_.out (by kernel_rfl)) (fun _ _ _ h => h) (Or.inl ⟨by rfl, ?_⟩) ?_ ?_
                                            rotate_left
                                            · intro w'
                                              go_simp
                                              with_reducible rfl
                                            rotate_left
                                            · simp only [Act.put, List.setIfInBounds_toArray, List.set_cons_zero, List.set_cons_succ, i64_w, i32_w]
                                              rfl
                                            refine take_ (i := 3) (N := some 111) (v := ?_) (a' := ?_) (pfx_ 9 7) rfl rfl (take_ofW HT_.out HW_.out (by kernel_rfl)) (fun _ _ _ h => h) (Or.inl ⟨by rfl, ?_⟩) hHeld ?_ ?_
                                            rotate_left
                                            · rintro w' ⟨s0, s1, s2, s3⟩
                                              go_simp
                                              with_reducible rfl
                                            rotate_left
                                            · simp only [Act.put, List.setIfInBounds_toArray, List.set_cons_zero, List.set_cons_succ, i64_w, i32_w]
                                              rfl
                                            refine take_ (i := 7) (N := some 115) (v := ?_) (a' := ?_) (pfx_ 9 8) rfl rfl (take_ofW HT_.out HW_.out (by kernel_rfl)) (fun _ _ _ h => h) (Or.inl ⟨by rfl, ?_⟩) hHeld ?_ ?_
                                            rotate_left
                                            · rintro w' ⟨s0, s1, s2, s3⟩
                                              go_simp
                                              with_reducible rfl
                                            rotate_left
                                            · simp only [Act.put, List.setIfInBounds_toArray, List.set_cons_zero, List.set_cons_succ, i64_w, i32_w]
                                              rfl
                                            (refine pv_ (v := ?_) (a' := ?_) HT_.out rfl rfl (by kernel_rfl) (fun _ _ _ h => h) (Or.inl ⟨by rfl, ?_⟩) ?_ ?_; rotate_left; (focus (intro w'; go_simp; with_reducible rfl)); rotate_left; (focus (show Act.put _ (some _) _ = _; simp only [Act.put, List.setIfInBounds_toArray, List.set_cons_zero, List.set_cons_succ, i64_w, i32_w]; rfl)))
                                            refine done_ (done_of HT_.out (by kernel_rfl)) ?_
                                            try go_wp2
                                            have n0_ := Aside0.mk (Kd.R_drew HO_6.out)
                                            have n1_ := Aside0.mk (Kd.R_drew HO_8.out)
                                            have n2_ := Aside0.mk (Kd.R_drew HO_10.out)
                                            have n3_ := Aside0.mk (blk_drew BK221.out)
                                            have n4_ := Aside0.mk (below_drew1 HB.out)
                                            clear HO_6 HO_8 HO_10 BK221 HB
                                            have HO_6 := n0_
                                            have HO_8 := n1_
                                            have HO_10 := n2_
                                            have BK221 := n3_
                                            have HB := n4_
                                            clear n0_ n1_ n2_ n3_ n4_
                                            have p248 : 0 ≤ (x13_4 : Int) := of_decide_eq_true (by first | (with_reducible assumption) | assumption)
                                            have q248 : x13_4 < (t235.length : Int) := of_decide_eq_true (by first | (with_reducible assumption) | assumption)
                                            obtain ⟨ad248, e248, hx248_0, hx248_1⟩ := at_T34 (Kd.R_reads' HO_8.out).2.2 x13_4 p248 q248
                                            obtain rfl : ad246 = ad248 := (by injection e248)
                                            replace p248 := eq_true p248
                                            replace q248 := eq_true q248
                                            have p249 : 0 ≤ (x13_4 : Int) := of_decide_eq_true (by first | (with_reducible assumption) | assumption)
                                            have q249 : x13_4 < (t235.length : Int) := of_decide_eq_true (by first | (with_reducible assumption) | assumption)
                                            obtain ⟨ad249, e249, hx249_0, hx249_1⟩ := at_T34 (Kd.R_reads' HO_8.out).2.2 x13_4 p249 q249
                                            obtain rfl : ad246 = ad249 := (by injection e249)
                                            replace p249 := eq_true p249
                                            replace q249 := eq_true q249
                                            refine start_ (n := 14) (S := fun w' => w'.cell? (ad246.add ((x13_4).toNat * 2)) = some (.int .i64 ((rd_T34 t235 x13_4).f0)) ∧ w'.cell? ⟨(ad246.add ((x13_4).toNat * 2)).block, (ad246.add ((x13_4).toNat * 2)).off + 1, none⟩ = some (.int .i64 ((rd_T34 t235 x13_4).f1)) ∧ w'.cell? (ad246.add ((x13_4).toNat * 2)) = some (.int .i64 ((rd_T34 t235 x13_4).f0)) ∧ w'.cell? ⟨(ad246.add ((x13_4).toNat * 2)).block, (ad246.add ((x13_4).toNat * 2)).off + 1, none⟩ = some (.int .i64 ((rd_T34 t235 x13_4).f1))) (ds := []) (pfx_ 14 0) (by kernel_rfl) rfl rfl ⟨hx248_0, hx248_1, hx249_0, hx249_1⟩ (fun hHeld => ?_); refine with_tabW tailwaterlaw19_PanesCommon.tab19 tailwaterlaw19_PanesCommon.bits19 (fun HT_ HW_ => ?_)
                                            generalize w59.drew = w60 at HO_6 HO_8 HO_10 BK221 HB hx248_0 hx248_1 hx249_0 hx249_1 hHeld ⊢
                                            iterate 5 (refine pv_ (v := ?_) (a' := ?_) HT_.out rfl rfl (by kernel_rfl) (fun _ _ _ h => h) (Or.inl ⟨by rfl, ?_⟩) ?_ ?_; rotate_left; (focus (intro w'; go_simp; with_reducible rfl)); rotate_left; (focus (show Act.put _ (some _) _ = _; simp only [Act.put, List.setIfInBounds_toArray, List.set_cons_zero, List.set_cons_succ, i64_w, i32_w]; rfl)))
                                            refine pure_ (i := 6) (N := some 123) (v := ?_) (a' := ?_) (bm_ 14 95) rfl rfl (any_of HT_.out (by kernel_rfl)) (fun _ _ _ h => h) (Or.inl ⟨by rfl, ?_⟩) ?_ ?_
                                            rotate_left
                                            · intro w'
                                              go_simp
                                              with_reducible rfl
                                            rotate_left
                                            · simp only [Act.put, List.setIfInBounds_toArray, List.set_cons_zero, List.set_cons_succ, i64_w, i32_w]
                                              rfl
                                            refine pure_ (i := 7) (N := some 124) (v := ?_) (a' := ?_) (bm_ 14 223) rfl rfl (any_of HT_.out (by kernel_rfl)) (fun _ _ _ h => h) (Or.inl ⟨by rfl, ?_⟩) ?_ ?_
                                            rotate_left
                                            · intro w'
                                              go_simp
                                              with_reducible rfl
                                            rotate_left
                                            · simp only [Act.put, List.setIfInBounds_toArray, List.set_cons_zero, List.set_cons_succ, i64_w, i32_w]
                                              rfl
                                            refine pure_ (i := 8) (N := some 125) (v := ?_) (a' := ?_) (bm_ 14 479) rfl rfl (any_of HT_.out (by kernel_rfl)) (fun _ _ _ h => h) (Or.inl ⟨by rfl, ?_⟩) ?_ ?_
                                            rotate_left
                                            · intro w'
                                              go_simp
                                              with_reducible rfl
                                            rotate_left
                                            · simp only [Act.put, List.setIfInBounds_toArray, List.set_cons_zero, List.set_cons_succ, i64_w, i32_w]
                                              rfl
                                            refine pure_ (i := 9) (N := some 126) (v := ?_) (a' := ?_) (bm_ 14 991) rfl rfl (any_of HT_.out (by kernel_rfl)) (fun _ _ _ h => h) (Or.inl ⟨by rfl, ?_⟩) ?_ ?_
                                            rotate_left
                                            · intro w'
                                              go_simp
                                              with_reducible rfl
                                            rotate_left
                                            · simp only [Act.put, List.setIfInBounds_toArray, List.set_cons_zero, List.set_cons_succ, i64_w, i32_w]
                                              rfl
                                            refine take_ (i := 5) (N := some 122) (v := ?_) (a' := ?_) (pfx_ 14 10) rfl rfl (take_ofW HT_.out HW_.out (by kernel_rfl)) (fun _ _ _ h => h) (Or.inl ⟨by rfl, ?_⟩) hHeld ?_ ?_
                                            rotate_left
                                            · rintro w' ⟨s0, s1, s2, s3⟩
                                              go_simp
                                              with_reducible rfl
                                            rotate_left
                                            · simp only [Act.put, List.setIfInBounds_toArray, List.set_cons_zero, List.set_cons_succ, i64_w, i32_w]
                                              rfl
                                            refine take_ (i := 10) (N := some 127) (v := ?_) (a' := ?_) (pfx_ 14 11) rfl rfl (take_ofW HT_.out HW_.out (by kernel_rfl)) (fun _ _ _ h => h) (Or.inl ⟨by rfl, ?_⟩) hHeld ?_ ?_
                                            rotate_left
                                            · rintro w' ⟨s0, s1, s2, s3⟩
                                              go_simp
                                              with_reducible rfl
                                            rotate_left
                                            · simp only [Act.put, List.setIfInBounds_toArray, List.set_cons_zero, List.set_cons_succ, i64_w, i32_w]
                                              rfl
                                            iterate 3 (refine pv_ (v := ?_) (a' := ?_) HT_.out rfl rfl (by kernel_rfl) (fun _ _ _ h => h) (Or.inl ⟨by rfl, ?_⟩) ?_ ?_; rotate_left; (focus (intro w'; go_simp; with_reducible rfl)); rotate_left; (focus (show Act.put _ (some _) _ = _; simp only [Act.put, List.setIfInBounds_toArray, List.set_cons_zero, List.set_cons_succ, i64_w, i32_w]; rfl)))
                                            refine done_ (done_of HT_.out (by kernel_rfl)) ?_
                                            try go_wp2
                                            go_roundg k5
                                            case measure => have := HJ3.out; have := HJ23.out; have := HJ42.out; have := HK4.out; have := HK5.out; omega
                                            case rel => exact ⟨(wrap64 (x12_5 + (wrap64 (((rd_T34 t235 x13_4).f1) - ((rd_T34 t235 x13_4).f0))))), (wrap64 (x14_5 + 1)), (by first | rfl | (simp; done) | (simp [*]; done)), (by first | rfl | (simp; done) | (simp [*]; done)), H', ⟨by have := HJ3.out; have := HJ23.out; have := HJ42.out; have := HK4.out; have := HK5.out; omega⟩, ⟨by (with_reducible repeat (first | apply Kd.R_alloc | apply Kd.R_drewN | apply Kd.R_drew)); exact HO_6.out⟩, ⟨by (with_reducible repeat (first | apply Kd.R_alloc | apply Kd.R_drewN | apply Kd.R_drew)); exact HO_8.out⟩, ⟨by (with_reducible repeat (first | apply Kd.R_alloc | apply Kd.R_drewN | apply Kd.R_drew)); exact HO_10.out⟩, ⟨by (with_reducible repeat (first | refine blk_drewN ?_ _ | refine blk_drew ?_ | refine blk_alloc ?_ _)); exact BK221.out⟩, ⟨by repeat (first | (with_reducible first | exact HB.out | apply below_alloc | apply pw_below_drewN | apply below_drew1 | refine below_set ?_ GE221.out) | exact HB.out)⟩⟩
                                          · rw [if_neg c57] at H
                                            have c57b0 : (((rd_T34 t235 x13_4).f0) == ((rd_T34 t240 x14_5).f0) && (((rd_T34 t235 x13_4).f1) == ((rd_T34 t240 x14_5).f1))) = false := by simpa using c57
                                            (try (have c57b1 : decide (((rd_T34 t235 x13_4).f0) = ((rd_T34 t240 x14_5).f0) && (((rd_T34 t235 x13_4).f1) == ((rd_T34 t240 x14_5).f1))) = false := by simpa using c57))
                                            (try (have c57b2 : (((rd_T34 t235 x13_4).f0) == ((rd_T34 t240 x14_5).f0) && (((rd_T34 t235 x13_4).f1) == ((rd_T34 t240 x14_5).f1))) = false := by simpa using c57))
                                            (try (have c57b3 : ¬ (((rd_T34 t235 x13_4).f0) = ((rd_T34 t240 x14_5).f0) && (((rd_T34 t235 x13_4).f1) == ((rd_T34 t240 x14_5).f1))) := by simpa using c57))
                                            clear c57
                                            replace H := Option.bind_eq_some_iff.mp H
                                            obtain ⟨t252, A610, H⟩ := H
                                            replace H : (if t252 = true then (some false) else (tailwaterlaw19_PanesCommon.l1 k5 t222 t226 t235 t240 x12_5 x13_4 (wrap64 (x14_5 + 1)))) = some r := H
                                            have A61 := Aside0.mk A610
                                            clear A610
                                            by_cases c62 : t252 = true
                                            · subst c62
                                              have H1 : (some false) = some r := by rw [if_pos rfl] at H; exact H
                                              clear H
                                              have H := H1
                                              clear H1
                                              exact absurd ((Option.some.inj H).trans hR_) (by decide)
                                            · replace c62 := Bool.eq_false_iff.mpr c62
                                              subst c62
                                              have H1 : (tailwaterlaw19_PanesCommon.l1 k5 t222 t226 t235 t240 x12_5 x13_4 (wrap64 (x14_5 + 1))) = some r := by rw [if_neg (show ¬ (false = true) by decide)] at H; exact H
                                              clear H
                                              have H := H1
                                              clear H1
                                              have H' := Aside0.mk H
                                              clear H
                                              obtain ⟨Ao63, co63, eo63⟩ := Kd.R_slice HO_10.out
                                              subst eo63
                                              try go_wp2
                                              have n0_ := Aside0.mk (Kd.R_drew HO_6.out)
                                              have n1_ := Aside0.mk (Kd.R_drew HO_8.out)
                                              have n2_ := Aside0.mk (Kd.R_drew HO_10.out)
                                              have n3_ := Aside0.mk (blk_drew BK221.out)
                                              have n4_ := Aside0.mk (below_drew1 HB.out)
                                              clear HO_6 HO_8 HO_10 BK221 HB
                                              have HO_6 := n0_
                                              have HO_8 := n1_
                                              have HO_10 := n2_
                                              have BK221 := n3_
                                              have HB := n4_
                                              clear n0_ n1_ n2_ n3_ n4_
                                              have p246 : 0 ≤ (x13_4 : Int) := of_decide_eq_true (by first | (with_reducible assumption) | assumption)
                                              have q246 : x13_4 < (t235.length : Int) := of_decide_eq_true (by first | (with_reducible assumption) | assumption)
                                              obtain ⟨ad246, e246, hx246_0, hx246_1⟩ := at_T34 (Kd.R_reads' HO_8.out).2.2 x13_4 p246 q246
                                              cases e246
                                              replace p246 := eq_true p246
                                              replace q246 := eq_true q246
                                              have p247 : 0 ≤ (x14_5 : Int) := of_decide_eq_true (by first | (with_reducible assumption) | assumption)
                                              have q247 : x14_5 < (t240.length : Int) := of_decide_eq_true (by first | (with_reducible assumption) | assumption)
                                              obtain ⟨ad247, e247, hx247_0, hx247_1⟩ := at_T34 (Kd.R_reads' HO_10.out).2.2 x14_5 p247 q247
                                              cases e247
                                              replace p247 := eq_true p247
                                              replace q247 := eq_true q247
                                              refine start_ (n := 9) (S := fun w' => w'.cell? (ad246.add ((x13_4).toNat * 2)) = some (.int .i64 ((rd_T34 t235 x13_4).f0)) ∧ w'.cell? ⟨(ad246.add ((x13_4).toNat * 2)).block, (ad246.add ((x13_4).toNat * 2)).off + 1, none⟩ = some (.int .i64 ((rd_T34 t235 x13_4).f1)) ∧ w'.cell? (ad247.add ((x14_5).toNat * 2)) = some (.int .i64 ((rd_T34 t240 x14_5).f0)) ∧ w'.cell? ⟨(ad247.add ((x14_5).toNat * 2)).block, (ad247.add ((x14_5).toNat * 2)).off + 1, none⟩ = some (.int .i64 ((rd_T34 t240 x14_5).f1))) (ds := []) (pfx_ 9 0) (by kernel_rfl) rfl rfl ⟨hx246_0, hx246_1, hx247_0, hx247_1⟩ (fun hHeld => ?_); refine with_tabW tailwaterlaw19_PanesCommon.tab18 tailwaterlaw19_PanesCommon.bits18 (fun HT_ HW_ => ?_)
                                              generalize wr.drew = w64 at HO_6 HO_8 HO_10 BK221 HB hx246_0 hx246_1 hx247_0 hx247_1 hHeld ⊢
                                              iterate 3 (refine pv_ (v := ?_) (a' := ?_) HT_.out rfl rfl (by kernel_rfl) (fun _ _ _ h => h) (Or.inl ⟨by rfl, ?_⟩) ?_ ?_; rotate_left; (focus (intro w'; go_simp; with_reducible rfl)); rotate_left; (focus (show Act.put _ (some _) _ = _; simp only [Act.put, List.setIfInBounds_toArray, List.set_cons_zero, List.set_cons_succ, i64_w, i32_w]; rfl)))
                                              refine pure_ (i := 4) (N := some 112) (v := ?_) (a' := ?_) (bm_ 9 23) rfl rfl (any_of HT_.out (by kernel_rfl)) (fun _ _ _ h => h) (Or.inl ⟨by rfl, ?_⟩) ?_ ?_
                                              rotate_left
                                              · intro w'
                                                go_simp
                                                with_reducible rfl
                                              rotate_left
                                              · simp only [Act.put, List.setIfInBounds_toArray, List.set_cons_zero, List.set_cons_succ, i64_w, i32_w]
                                                rfl
                                              refine pure_ (i := 5) (N := some 113) (v := ?_) (a' := ?_) (bm_ 9 55) rfl rfl (any_of HT_.out (by kernel_rfl)) (fun _ _ _ h => h) (Or.inl ⟨by rfl, ?_⟩) ?_ ?_
                                              rotate_left
                                              · intro w'
                                                go_simp
                                                with_reducible rfl
                                              rotate_left
                                              · simp only [Act.put, List.setIfInBounds_toArray, List.set_cons_zero, List.set_cons_succ, i64_w, i32_w]
                                                rfl
                                              refine pure_ (i := 6) (N := some 114) (v := ?_) (a' := ?_) (bm_ 9 119) rfl rfl (any_of HT_.out (by kernel_rfl)) (fun _ _ _ h => h) (Or.inl ⟨by rfl, ?_⟩) ?_ ?_
                                              rotate_left
                                              · intro w'
                                                go_simp
                                                with_reducible rfl
                                              rotate_left
                                              · simp only [Act.put, List.setIfInBounds_toArray, List.set_cons_zero, List.set_cons_succ, i64_w, i32_w]
                                                rfl
                                              refine take_ (i := 3) (N := some 111) (v := ?_) (a' := ?_) (pfx_ 9 7) rfl rfl (take_ofW HT_.out HW_.out (by kernel_rfl)) (fun _ _ _ h => h) (Or.inl ⟨by rfl, ?_⟩) hHeld ?_ ?_
                                              rotate_left
                                              · rintro w' ⟨s0, s1, s2, s3⟩
                                                go_simp
                                                with_reducible rfl
                                              rotate_left
                                              · simp only [Act.put, List.setIfInBounds_toArray, List.set_cons_zero, List.set_cons_succ, i64_w, i32_w]
                                                rfl
                                              refine take_ (i := 7) (N := some 115) (v := ?_) (a' := ?_) (pfx_ 9 8) rfl rfl (take_ofW HT_.out HW_.out (by kernel_rfl)) (fun _ _ _ h => h) (Or.inl ⟨by rfl, ?_⟩) hHeld ?_ ?_
                                              rotate_left
                                              · rintro w' ⟨s0, s1, s2, s3⟩
                                                go_simp
                                                with_reducible rfl
                                              rotate_left
                                              · simp only [Act.put, List.setIfInBounds_toArray, List.set_cons_zero, List.set_cons_succ, i64_w, i32_w]
                                                rfl
                                              (refine pv_ (v := ?_) (a' := ?_) HT_.out rfl rfl (by kernel_rfl) (fun _ _ _ h => h) (Or.inl ⟨by rfl, ?_⟩) ?_ ?_; rotate_left; (focus (intro w'; go_simp; with_reducible rfl)); rotate_left; (focus (show Act.put _ (some _) _ = _; simp only [Act.put, List.setIfInBounds_toArray, List.set_cons_zero, List.set_cons_succ, i64_w, i32_w]; rfl)))
                                              refine done_ (done_of HT_.out (by kernel_rfl)) ?_
                                              try go_wp2
                                              have n0_ := Aside0.mk (Kd.R_drew HO_6.out)
                                              have n1_ := Aside0.mk (Kd.R_drew HO_8.out)
                                              have n2_ := Aside0.mk (Kd.R_drew HO_10.out)
                                              have n3_ := Aside0.mk (blk_drew BK221.out)
                                              have n4_ := Aside0.mk (below_drew1 HB.out)
                                              clear HO_6 HO_8 HO_10 BK221 HB
                                              have HO_6 := n0_
                                              have HO_8 := n1_
                                              have HO_10 := n2_
                                              have BK221 := n3_
                                              have HB := n4_
                                              clear n0_ n1_ n2_ n3_ n4_
                                              have p250 : 0 ≤ (x13_4 : Int) := of_decide_eq_true (by first | (with_reducible assumption) | assumption)
                                              have q250 : x13_4 < (t235.length : Int) := of_decide_eq_true (by first | (with_reducible assumption) | assumption)
                                              obtain ⟨ad250, e250, hx250_0, hx250_1⟩ := at_T34 (Kd.R_reads' HO_8.out).2.2 x13_4 p250 q250
                                              obtain rfl : ad246 = ad250 := (by injection e250)
                                              replace p250 := eq_true p250
                                              replace q250 := eq_true q250
                                              have p251 : 0 ≤ (x14_5 : Int) := of_decide_eq_true (by first | (with_reducible assumption) | assumption)
                                              have q251 : x14_5 < (t240.length : Int) := of_decide_eq_true (by first | (with_reducible assumption) | assumption)
                                              obtain ⟨ad251, e251, hx251_0, hx251_1⟩ := at_T34 (Kd.R_reads' HO_10.out).2.2 x14_5 p251 q251
                                              obtain rfl : ad247 = ad251 := (by injection e251)
                                              replace p251 := eq_true p251
                                              replace q251 := eq_true q251
                                              refine start_ (n := 9) (S := fun w' => w'.cell? (ad246.add ((x13_4).toNat * 2)) = some (.int .i64 ((rd_T34 t235 x13_4).f0)) ∧ w'.cell? ⟨(ad246.add ((x13_4).toNat * 2)).block, (ad246.add ((x13_4).toNat * 2)).off + 1, none⟩ = some (.int .i64 ((rd_T34 t235 x13_4).f1)) ∧ w'.cell? (ad247.add ((x14_5).toNat * 2)) = some (.int .i64 ((rd_T34 t240 x14_5).f0)) ∧ w'.cell? ⟨(ad247.add ((x14_5).toNat * 2)).block, (ad247.add ((x14_5).toNat * 2)).off + 1, none⟩ = some (.int .i64 ((rd_T34 t240 x14_5).f1))) (ds := []) (pfx_ 9 0) (by kernel_rfl) rfl rfl ⟨hx250_0, hx250_1, hx251_0, hx251_1⟩ (fun hHeld => ?_); refine with_tabW tailwaterlaw19_PanesCommon.tab20 tailwaterlaw19_PanesCommon.bits20 (fun HT_ HW_ => ?_)
                                              generalize w64.drew = w65 at HO_6 HO_8 HO_10 BK221 HB hx250_0 hx250_1 hx251_0 hx251_1 hHeld ⊢
                                              iterate 3 (refine pv_ (v := ?_) (a' := ?_) HT_.out rfl rfl (by kernel_rfl) (fun _ _ _ h => h) (Or.inl ⟨by rfl, ?_⟩) ?_ ?_; rotate_left; (focus (intro w'; go_simp; with_reducible rfl)); rotate_left; (focus (show Act.put _ (some _) _ = _; simp only [Act.put, List.setIfInBounds_toArray, List.set_cons_zero, List.set_cons_succ, i64_w, i32_w]; rfl)))
                                              refine pure_ (i := 4) (N := some 134) (v := ?_) (a' := ?_) (bm_ 9 23) rfl rfl (any_of HT_.out (by kernel_rfl)) (fun _ _ _ h => h) (Or.inl ⟨by rfl, ?_⟩) ?_ ?_
                                              rotate_left
                                              · intro w'
                                                go_simp
                                                with_reducible rfl
                                              rotate_left
                                              · simp only [Act.put, List.setIfInBounds_toArray, List.set_cons_zero, List.set_cons_succ, i64_w, i32_w]
                                                rfl
                                              refine pure_ (i := 5) (N := some 135) (v := ?_) (a' := ?_) (bm_ 9 55) rfl rfl (any_of HT_.out (by kernel_rfl)) (fun _ _ _ h => h) (Or.inl ⟨by rfl, ?_⟩) ?_ ?_
                                              rotate_left
                                              · intro w'
                                                go_simp
                                                with_reducible rfl
                                              rotate_left
                                              · simp only [Act.put, List.setIfInBounds_toArray, List.set_cons_zero, List.set_cons_succ, i64_w, i32_w]
                                                rfl
                                              refine pure_ (i := 6) (N := some 136) (v := ?_) (a' := ?_) (bm_ 9 119) rfl rfl (any_of HT_.out (by kernel_rfl)) (fun _ _ _ h => h) (Or.inl ⟨by rfl, ?_⟩) ?_ ?_
                                              rotate_left
                                              · intro w'
                                                go_simp
                                                with_reducible rfl
                                              rotate_left
                                              · simp only [Act.put, List.setIfInBounds_toArray, List.set_cons_zero, List.set_cons_succ, i64_w, i32_w]
                                                rfl
                                              refine take_ (i := 3) (N := some 133) (v := ?_) (a' := ?_) (pfx_ 9 7) rfl rfl (take_ofW HT_.out HW_.out (by kernel_rfl)) (fun _ _ _ h => h) (Or.inl ⟨by rfl, ?_⟩) hHeld ?_ ?_
                                              rotate_left
                                              · rintro w' ⟨s0, s1, s2, s3⟩
                                                go_simp
                                                with_reducible rfl
                                              rotate_left
                                              · simp only [Act.put, List.setIfInBounds_toArray, List.set_cons_zero, List.set_cons_succ, i64_w, i32_w]
                                                rfl
                                              refine take_ (i := 7) (N := some 137) (v := ?_) (a' := ?_) (pfx_ 9 8) rfl rfl (take_ofW HT_.out HW_.out (by kernel_rfl)) (fun _ _ _ h => h) (Or.inl ⟨by rfl, ?_⟩) hHeld ?_ ?_
                                              rotate_left
                                              · rintro w' ⟨s0, s1, s2, s3⟩
                                                go_simp
                                                with_reducible rfl
                                              rotate_left
                                              · simp only [Act.put, List.setIfInBounds_toArray, List.set_cons_zero, List.set_cons_succ, i64_w, i32_w]
                                                rfl
                                              refine one_ (i := 8) (N := some 138) (pfx_ 9 9) rfl rfl (one_of HT_.out (by kernel_rfl)) (by decide) (fun K hK => ?_)
                                              refine goes_ Try.func28 (by kernel_rfl) rfl #[.agg #[.int .i64 ((rd_T34 t235 x13_4).f0), .int .i64 ((rd_T34 t235 x13_4).f1)], .agg #[.int .i64 ((rd_T34 t240 x14_5).f0), .int .i64 ((rd_T34 t240 x14_5).f1)]] (by rfl) rfl rfl (by (try simp only [List.map_toArray, List.map_cons, List.map_nil]); first | done | rfl | (simp only [List.length_drop, List.length_take]; rfl)) ?_
                                              with_reducible refine (tailwaterref15_Overlap.calls ((rd_T34 t235 x13_4).f0) ((rd_T34 t235 x13_4).f1) ((rd_T34 t240 x14_5).f0) ((rd_T34 t240 x14_5).f1) false _ A61.out).mono ?_
                                              rintro e w66 ⟨rfl, hb⟩
                                              have HS0_ := (hb.cell (World.block_lt_of_cell? _ _ (hHeld.1))).trans (hHeld.1)
                                              have HS1_ := (hb.cell (World.block_lt_of_cell? _ _ (hHeld.2.1))).trans (hHeld.2.1)
                                              have HS2_ := (hb.cell (World.block_lt_of_cell? _ _ (hHeld.2.2.1))).trans (hHeld.2.2.1)
                                              have HS3_ := (hb.cell (World.block_lt_of_cell? _ _ (hHeld.2.2.2))).trans (hHeld.2.2.2)
                                              refine ⟨_, rfl, ?_⟩
                                              have n0_ := Aside0.mk (Kd.R_below (by (with_reducible repeat (first | apply Kd.R_alloc | apply Kd.R_drewN | apply Kd.R_drew)); exact HO_6.out) hb)
                                              have n1_ := Aside0.mk (Kd.R_below (by (with_reducible repeat (first | apply Kd.R_alloc | apply Kd.R_drewN | apply Kd.R_drew)); exact HO_8.out) hb)
                                              have n2_ := Aside0.mk (Kd.R_below (by (with_reducible repeat (first | apply Kd.R_alloc | apply Kd.R_drewN | apply Kd.R_drew)); exact HO_10.out) hb)
                                              have n3_ := Aside0.mk (blk_below (by (with_reducible repeat (first | apply blk_drewN | apply blk_drew | apply blk_alloc)); exact BK221.out) hb)
                                              have n4_ := Aside0.mk (below_step (by repeat (first | (with_reducible first | exact HB.out | apply below_alloc | apply pw_below_drewN | apply below_drew1 | refine below_set ?_ GE221.out) | exact HB.out)) hb)
                                              clear HO_6 HO_8 HO_10 BK221 HB
                                              have HO_6 := n0_
                                              have HO_8 := n1_
                                              have HO_10 := n2_
                                              have BK221 := n3_
                                              have HB := n4_
                                              clear n0_ n1_ n2_ n3_ n4_
                                              (try clear hb)
                                              (try clear hb2)
                                              (try clear hk)
                                              (try clear hi)
                                              refine hK.out _ _ ⟨HS0_, HS1_, HS2_, HS3_⟩ (fun hHeld => ?_)
                                              clear hK K
                                              refine norm_ (a' := ?_) ?_ ?_
                                              rotate_left
                                              · show Act.put _ (some 138) _ = _
                                                simp only [Act.put, List.setIfInBounds_toArray, List.set_cons_zero, List.set_cons_succ, i64_w, i32_w]
                                                rfl
                                              refine done_ (done_of HT_.out (by kernel_rfl)) ?_
                                              try go_wp2
                                              go_roundg k5
                                              case measure => have := HJ3.out; have := HJ23.out; have := HJ42.out; have := HK4.out; have := HK5.out; omega
                                              case rel => exact ⟨(x12_5), (wrap64 (x14_5 + 1)), (by first | rfl | (simp; done) | (simp [*]; done)), (by first | rfl | (simp; done) | (simp [*]; done)), H', ⟨by have := HJ3.out; have := HJ23.out; have := HJ42.out; have := HK4.out; have := HK5.out; omega⟩, ⟨by (with_reducible repeat (first | apply Kd.R_alloc | apply Kd.R_drewN | apply Kd.R_drew)); exact HO_6.out⟩, ⟨by (with_reducible repeat (first | apply Kd.R_alloc | apply Kd.R_drewN | apply Kd.R_drew)); exact HO_8.out⟩, ⟨by (with_reducible repeat (first | apply Kd.R_alloc | apply Kd.R_drewN | apply Kd.R_drew)); exact HO_10.out⟩, ⟨by (with_reducible repeat (first | refine blk_drewN ?_ _ | refine blk_drew ?_ | refine blk_alloc ?_ _)); exact BK221.out⟩, ⟨by repeat (first | (with_reducible first | exact HB.out | apply below_alloc | apply pw_below_drewN | apply below_drew1 | refine below_set ?_ GE221.out) | exact HB.out)⟩⟩
                                        · rw [if_neg c56] at H
                                          exact absurd H (by simp)
                                      · rw [if_neg c55] at H
                                        exact absurd H (by simp)
                                    · rw [if_neg c54] at H
                                      exact absurd H (by simp)
                                  · rw [if_neg c53] at H
                                    have c53b0 : decide (x14_5 < (t240.length : Int)) = false := decide_eq_false c53
                                    clear c53
                                    have H' := Aside0.mk H
                                    clear H
                                    obtain ⟨Ao67, co67, eo67⟩ := Kd.R_slice HO_10.out
                                    subst eo67
                                    go_wp2
                                    go_roundg k5
                                    case measure => have := HJ3.out; have := HJ23.out; have := HJ42.out; have := HK4.out; have := HK5.out; omega
                                    case rel => exact ⟨(x12_5), (wrap64 (x13_4 + 1)), (by first | rfl | (simp; done) | (simp [*]; done)), (by first | rfl | (simp; done) | (simp [*]; done)), H', ⟨by have := HJ3.out; have := HJ23.out; have := HJ42.out; have := HK4.out; have := HK5.out; omega⟩, ⟨by (with_reducible repeat (first | apply Kd.R_alloc | apply Kd.R_drewN | apply Kd.R_drew)); exact HO_6.out⟩, ⟨by (with_reducible repeat (first | apply Kd.R_alloc | apply Kd.R_drewN | apply Kd.R_drew)); exact HO_8.out⟩, ⟨by (with_reducible repeat (first | apply Kd.R_alloc | apply Kd.R_drewN | apply Kd.R_drew)); exact HO_10.out⟩, ⟨by (with_reducible repeat (first | refine blk_drewN ?_ _ | refine blk_drew ?_ | refine blk_alloc ?_ _)); exact BK221.out⟩, ⟨by repeat (first | (with_reducible first | exact HB.out | apply below_alloc | apply pw_below_drewN | apply below_drew1 | refine below_set ?_ GE221.out) | exact HB.out)⟩⟩
                            · rw [if_neg c51] at H
                              have c51b0 : decide (x13_4 < (t235.length : Int)) = false := decide_eq_false c51
                              clear c51
                              by_cases c68 : t222 = true
                              · subst c68
                                have H1 : (if 0 < (t226.length : Int) then (if 1 < (t226.length : Int) then (some (x12_4 == (wrap64 (((rd_T34 t226 0).f1) - ((rd_T34 t226 1).f0))))) else (none)) else (none)) = some r := by rw [if_pos rfl] at H; exact H
                                clear H
                                have H := H1
                                clear H1
                                by_cases c69 : 0 < (t226.length : Int)
                                · rw [if_pos c69] at H
                                  have c69b0 : decide (0 < (t226.length : Int)) = true := decide_eq_true c69
                                  have c69b1 : decide (0 < t226.length) = true := decide_eq_true (by omega)
                                  clear c69
                                  by_cases c70 : 1 < (t226.length : Int)
                                  · rw [if_pos c70] at H
                                    have c70b0 : decide (1 < (t226.length : Int)) = true := decide_eq_true c70
                                    have c70b1 : decide (1 < t226.length) = true := decide_eq_true (by omega)
                                    clear c70
                                    obtain rfl := Option.some.inj H
                                    obtain ⟨Ao71, co71, eo71⟩ := Kd.R_slice HO_8.out
                                    subst eo71
                                    try go_wp2
                                    have n0_ := Aside0.mk (Kd.R_drew HO_6.out)
                                    have n1_ := Aside0.mk (Kd.R_drew HO_8.out)
                                    have n2_ := Aside0.mk (Kd.R_drew HO_10.out)
                                    have n3_ := Aside0.mk (blk_drew BK221.out)
                                    have n4_ := Aside0.mk (below_drew1 HB.out)
                                    clear HO_6 HO_8 HO_10 BK221 HB
                                    have HO_6 := n0_
                                    have HO_8 := n1_
                                    have HO_10 := n2_
                                    have BK221 := n3_
                                    have HB := n4_
                                    clear n0_ n1_ n2_ n3_ n4_
                                    have p244 : 0 ≤ (0 : Int) := (by omega)
                                    have q244 : 0 < (t226.length : Int) := of_decide_eq_true (by first | (with_reducible assumption) | assumption)
                                    obtain ⟨ad244, e244, hx244_0, hx244_1⟩ := at_T34 (Kd.R_reads' HO_6.out).2.2 0 p244 q244
                                    obtain rfl : ad234 = ad244 := (by injection e244)
                                    have qi244 : (0 < t226.length) = True := eq_true (by omega)
                                    (try rw [show ((0 : Int)).toNat = 0 from rfl] at hx244_0)
                                    (try rw [show 0 * 2 = 0 from rfl] at hx244_0)
                                    (try rw [Addr.add_zero'] at hx244_0)
                                    (try rw [show ((0 : Int)).toNat = 0 from rfl] at hx244_1)
                                    (try rw [show 0 * 2 = 0 from rfl] at hx244_1)
                                    (try rw [Addr.add_zero'] at hx244_1)
                                    replace p244 := eq_true p244
                                    replace q244 := eq_true q244
                                    have p245 : 0 ≤ (1 : Int) := (by omega)
                                    have q245 : 1 < (t226.length : Int) := of_decide_eq_true (by first | (with_reducible assumption) | assumption)
                                    obtain ⟨ad245, e245, hx245_0, hx245_1⟩ := at_T34 (Kd.R_reads' HO_6.out).2.2 1 p245 q245
                                    obtain rfl : ad234 = ad245 := (by injection e245)
                                    (try simp only [show (1 : Int).toNat = 1 from rfl, Nat.reduceMul, Nat.reduceEqDiff, Go.Addr.add, ↓reduceIte] at hx245_0)
                                    (try simp only [show (1 : Int).toNat = 1 from rfl, Nat.reduceMul, Nat.reduceEqDiff, Go.Addr.add, ↓reduceIte] at hx245_1)
                                    have qi245 : (1 < t226.length) = True := eq_true (by omega)
                                    (try rw [show ((1 : Int)).toNat = 1 from rfl] at hx245_0)
                                    (try rw [show 1 * 2 = 2 from rfl] at hx245_0)
                                    (try rw [show ((1 : Int)).toNat = 1 from rfl] at hx245_1)
                                    (try rw [show 1 * 2 = 2 from rfl] at hx245_1)
                                    replace p245 := eq_true p245
                                    replace q245 := eq_true q245
                                    refine start_ (n := 15) (S := fun w' => w'.cell? ad234 = some (.int .i64 ((rd_T34 t226 0).f0)) ∧ w'.cell? ⟨ad234.block, ad234.off + 1, none⟩ = some (.int .i64 ((rd_T34 t226 0).f1)) ∧ w'.cell? ⟨ad234.block, ad234.off + 2, none⟩ = some (.int .i64 ((rd_T34 t226 1).f0)) ∧ w'.cell? ⟨ad234.block, ad234.off + 2 + 1, none⟩ = some (.int .i64 ((rd_T34 t226 1).f1))) (ds := []) (pfx_ 15 0) (by kernel_rfl) rfl rfl ⟨hx244_0, hx244_1, hx245_0, hx245_1⟩ (fun hHeld => ?_); refine with_tabW tailwaterlaw19_PanesCommon.tab22 tailwaterlaw19_PanesCommon.bits22 (fun HT_ HW_ => ?_)
                                    generalize wr.drew = w72 at HO_6 HO_8 HO_10 BK221 HB hx244_0 hx244_1 hx245_0 hx245_1 hHeld ⊢
                                    iterate 6 (refine pv_ (v := ?_) (a' := ?_) HT_.out rfl rfl (by kernel_rfl) (fun _ _ _ h => h) (Or.inl ⟨by rfl, ?_⟩) ?_ ?_; rotate_left; (focus (intro w'; go_simp; with_reducible rfl)); rotate_left; (focus (show Act.put _ (some _) _ = _; simp only [Act.put, List.setIfInBounds_toArray, List.set_cons_zero, List.set_cons_succ, i64_w, i32_w]; rfl)))
                                    refine pure_ (i := 7) (N := some 146) (v := ?_) (a' := ?_) (bm_ 15 191) rfl rfl (any_of HT_.out (by kernel_rfl)) (fun _ _ _ h => h) (Or.inl ⟨by rfl, ?_⟩) ?_ ?_
                                    rotate_left
                                    · intro w'
                                      go_simp
                                      with_reducible rfl
                                    rotate_left
                                    · simp only [Act.put, List.setIfInBounds_toArray, List.set_cons_zero, List.set_cons_succ, i64_w, i32_w]
                                      rfl
                                    refine pure_ (i := 8) (N := some 147) (v := ?_) (a' := ?_) (bm_ 15 447) rfl rfl (any_of HT_.out (by kernel_rfl)) (fun _ _ _ h => h) (Or.inl ⟨by rfl, ?_⟩) ?_ ?_
                                    rotate_left
                                    · intro w'
                                      go_simp
                                      with_reducible rfl
                                    rotate_left
                                    · simp only [Act.put, List.setIfInBounds_toArray, List.set_cons_zero, List.set_cons_succ, i64_w, i32_w]
                                      rfl
                                    refine pure_ (i := 9) (N := some 148) (v := ?_) (a' := ?_) (bm_ 15 959) rfl rfl (any_of HT_.out (by kernel_rfl)) (fun _ _ _ h => h) (Or.inl ⟨by rfl, ?_⟩) ?_ ?_
                                    rotate_left
                                    · intro w'
                                      go_simp
                                      with_reducible rfl
                                    rotate_left
                                    · simp only [Act.put, List.setIfInBounds_toArray, List.set_cons_zero, List.set_cons_succ, i64_w, i32_w]
                                      rfl
                                    refine take_ (i := 6) (N := some 145) (v := ?_) (a' := ?_) (pfx_ 15 10) rfl rfl (take_ofW HT_.out HW_.out (by kernel_rfl)) (fun _ _ _ h => h) (Or.inl ⟨by rfl, ?_⟩) hHeld ?_ ?_
                                    rotate_left
                                    · rintro w' ⟨s0, s1, s2, s3⟩
                                      go_simp
                                      with_reducible rfl
                                    rotate_left
                                    · simp only [Act.put, List.setIfInBounds_toArray, List.set_cons_zero, List.set_cons_succ, i64_w, i32_w]
                                      rfl
                                    refine take_ (i := 10) (N := some 149) (v := ?_) (a' := ?_) (pfx_ 15 11) rfl rfl (take_ofW HT_.out HW_.out (by kernel_rfl)) (fun _ _ _ h => h) (Or.inl ⟨by rfl, ?_⟩) hHeld ?_ ?_
                                    rotate_left
                                    · rintro w' ⟨s0, s1, s2, s3⟩
                                      go_simp
                                      with_reducible rfl
                                    rotate_left
                                    · simp only [Act.put, List.setIfInBounds_toArray, List.set_cons_zero, List.set_cons_succ, i64_w, i32_w]
                                      rfl
                                    iterate 4 (refine pv_ (v := ?_) (a' := ?_) HT_.out rfl rfl (by kernel_rfl) (fun _ _ _ h => h) (Or.inl ⟨by rfl, ?_⟩) ?_ ?_; rotate_left; (focus (intro w'; go_simp; with_reducible rfl)); rotate_left; (focus (show Act.put _ (some _) _ = _; simp only [Act.put, List.setIfInBounds_toArray, List.set_cons_zero, List.set_cons_succ, i64_w, i32_w]; rfl)))
                                    refine done_ (done_of HT_.out (by kernel_rfl)) ?_
                                    try go_wp2
                                    go_ret
                                    exact ⟨by first | rfl | (simp [errW_none, errW_some] <;> rfl) | (simp [*, errW_none, errW_some] <;> rfl), by repeat (first | (with_reducible first | exact HB.out | apply below_alloc | apply pw_below_drewN | apply below_drew1 | refine below_set ?_ GE221.out) | exact HB.out)⟩
                                  · rw [if_neg c70] at H
                                    exact absurd H (by simp)
                                · rw [if_neg c69] at H
                                  exact absurd H (by simp)
                              · replace c68 := Bool.eq_false_iff.mpr c68
                                subst c68
                                have H1 : (some false) = some r := by rw [if_neg (show ¬ (false = true) by decide)] at H; exact H
                                clear H
                                have H := H1
                                clear H1
                                exact absurd ((Option.some.inj H).trans hR_) (by decide)
                · rw [if_neg c41] at H
                  exact absurd H (by simp)
              · rw [if_neg c39] at H
                exact absurd H (by simp)

end Go.Proofs.Ytepgpbbeeiebkaa.St
