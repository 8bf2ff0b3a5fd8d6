/- Contracts of functions of the program, each over a plain Lean function of the same answers: written by pdrive.py, a program of this session that drives the kit's printer with some functions given by hand; conditions: as each theorem says. -/
import Derived.Test.YtepgpbbeeiebkaaStx0
import Derived.Test.YtepgpbbeeiebkaaStx1
import Derived.Test.YtepgpbbeeiebkaaStx10
import Derived.Test.YtepgpbbeeiebkaaStx12
import Derived.Test.YtepgpbbeeiebkaaStx13
import Derived.Test.YtepgpbbeeiebkaaStx14
import Derived.Test.YtepgpbbeeiebkaaStx17
import Derived.Test.YtepgpbbeeiebkaaCpt
namespace Go.Proofs.Ytepgpbbeeiebkaa.St
open Go.RowKit Go.Proofs.YtepgpbbeeiebkaaFar Go.Proofs.YtepgpbbeeiebkaaW.PrintWords Go.Proofs.YtepgpbbeeiebkaaW.PrintLast Go.Proofs.YtepgpbbeeiebkaaW.PrintMore
attribute [local go_sem] max2_int min2_int max_two min_two max_three min_three max_four min_four   -- for this text's walks alone
set_option linter.unusedVariables false
set_option linter.unusedSimpArgs false

attribute [local go_sem high] eqA34
/-! ### tailwaterlaw19_PanesParts: function 12 -/
mutual
def tailwaterlaw19_PanesParts.j0 : Nat → Int → Bool → Bool → Int → Int → Int → Option (Bool)
  | 0, _, _, _, _, _, _ => none
  | k + 1, x1, x5, x27, x200000, x200001, x200002 => if x27 = true then (some x5) else ((panes_Size.f k x200001 x200002).bind fun bt203 => ((slide_Of.f k x200000 x200001 x200002 x1).bind fun bt205 => (if bt203.2 = 0 then (if bt205.2 = 0 then (tailwaterlaw19_PanesParts.j1 k x5 bt203.1 bt205.1 (decide (bt203.1 < 1)) x200000 x200001 x200002) else (tailwaterlaw19_PanesParts.j1 k x5 bt203.1 bt205.1 true x200000 x200001 x200002)) else (tailwaterlaw19_PanesParts.j1 k x5 bt203.1 bt205.1 true x200000 x200001 x200002))))
def tailwaterlaw19_PanesParts.j1 : Nat → Bool → Int → List (S34) → Bool → Int → Int → Int → Option (Bool)
  | 0, _, _, _, _, _, _, _ => none
  | k + 1, x5, x6, x8, x52, x200000, x200001, x200002 => if x52 = true then (some false) else (tailwaterlaw19_PanesParts.l0 k x5 x6 x8 0 x200000 x200001 x200002)
def tailwaterlaw19_PanesParts.l0 : Nat → Bool → Int → List (S34) → Int → Int → Int → Int → Option (Bool)
  | 0, _, _, _, _, _, _, _ => none
  | k + 1, x5, x6, x8, x10, x200000, x200001, x200002 => if x10 < (x8.length : Int) then (if 0 ≤ x10 then ((panes_Parts.f k x200000 x200001 x200002 ((rd_T34 x8 x10).f0) ((rd_T34 x8 x10).f1)).bind fun bt210 => ((tailwaterref13_Check.f k ((rd_T34 x8 x10).f0) 1).bind fun t215 => (if t215 = 0 then (if x6 = 0 then (none) else (if (wrap64 (Int.tdiv x200001 x6)) > 4000 then (if bt210.2 = 4 then (tailwaterlaw19_PanesParts.l0 k x5 x6 x8 (wrap64 (x10 + 1)) x200000 x200001 x200002) else (some false)) else (if bt210.2 = 0 then (tailwaterlaw19_PanesParts.j3 k x5 x6 x8 x10 bt210.1 ((bt210.1.length : Int) != (wrap64 (Int.tdiv x200001 x6))) x200000 x200001 x200002) else (tailwaterlaw19_PanesParts.j3 k x5 x6 x8 x10 bt210.1 true x200000 x200001 x200002)))) else (if bt210.2 = 2 then (tailwaterlaw19_PanesParts.l0 k x5 x6 x8 (wrap64 (x10 + 1)) x200000 x200001 x200002) else (some false))))) else (none)) else (some x5)
def tailwaterlaw19_PanesParts.j3 : Nat → Bool → Int → List (S34) → Int → List (S34) → Bool → Int → Int → Int → Option (Bool)
  | 0, _, _, _, _, _, _, _, _, _ => none
  | k + 1, x5, x6, x8, x10, x11, x94, x200000, x200001, x200002 => if x94 = true then (some false) else (if 0 ≤ x10 then (if x10 < (x8.length : Int) then (tailwaterlaw19_PanesParts.l1 k x5 x6 x8 x10 x11 ((rd_T34 x8 x10).f0) 0 x200000 x200001 x200002) else (none)) else (none))
def tailwaterlaw19_PanesParts.l1 : Nat → Bool → Int → List (S34) → Int → List (S34) → Int → Int → Int → Int → Int → Option (Bool)
  | 0, _, _, _, _, _, _, _, _, _, _ => none
  | k + 1, x5, x6, x8, x10, x11, x13, x14, x200000, x200001, x200002 => if x14 < (x11.length : Int) then (if 0 ≤ x14 then (if (!(((rd_T34 x11 x14).f0) == x13) || (!(((rd_T34 x11 x14).f1) == (wrap64 (x13 + x6))))) = true then (some false) else (tailwaterlaw19_PanesParts.l1 k x5 x6 x8 x10 x11 (wrap64 (x13 + x6)) (wrap64 (x14 + 1)) x200000 x200001 x200002)) else (none)) else (if 0 ≤ x10 then (if x10 < (x8.length : Int) then (if x13 = ((rd_T34 x8 x10).f1) then (tailwaterlaw19_PanesParts.l0 k x5 x6 x8 (wrap64 (x10 + 1)) x200000 x200001 x200002) else (some false)) else (none)) else (none))
end
def tailwaterlaw19_PanesParts.f (k : Nat) (a0_0 : Int) (a0_1 : Int) (a0_2 : Int) (a1 : Int) : Option (Bool) := (tailwaterlaw19_alive.f k).bind fun t200 => ((tailwaterref19_Asked.f k a0_0 a0_1 a0_2).bind fun t201 => (if t201 = 0 then ((tailwaterref13_Check.f k a1 1).bind fun t202 => (if t202 = 0 then (tailwaterlaw19_PanesParts.j0 k a1 t200 (!t200) a0_0 a0_1 a0_2) else (tailwaterlaw19_PanesParts.j0 k a1 t200 true a0_0 a0_1 a0_2))) else (tailwaterlaw19_PanesParts.j0 k a1 t200 true a0_0 a0_1 a0_2)))
theorem tailwaterlaw19_PanesParts.mono_l : ∀ k, (∀ y0 y1 y2 y3 y4 y5, LeO (tailwaterlaw19_PanesParts.j0 k y0 y1 y2 y3 y4 y5) (tailwaterlaw19_PanesParts.j0 (k + 1) y0 y1 y2 y3 y4 y5)) ∧ (∀ y0 y1 y2 y3 y4 y5 y6, LeO (tailwaterlaw19_PanesParts.j1 k y0 y1 y2 y3 y4 y5 y6) (tailwaterlaw19_PanesParts.j1 (k + 1) y0 y1 y2 y3 y4 y5 y6)) ∧ (∀ y0 y1 y2 y3 y4 y5 y6, LeO (tailwaterlaw19_PanesParts.l0 k y0 y1 y2 y3 y4 y5 y6) (tailwaterlaw19_PanesParts.l0 (k + 1) y0 y1 y2 y3 y4 y5 y6)) ∧ (∀ y0 y1 y2 y3 y4 y5 y6 y7 y8, LeO (tailwaterlaw19_PanesParts.j3 k y0 y1 y2 y3 y4 y5 y6 y7 y8) (tailwaterlaw19_PanesParts.j3 (k + 1) y0 y1 y2 y3 y4 y5 y6 y7 y8)) ∧ (∀ y0 y1 y2 y3 y4 y5 y6 y7 y8 y9, LeO (tailwaterlaw19_PanesParts.l1 k y0 y1 y2 y3 y4 y5 y6 y7 y8 y9) (tailwaterlaw19_PanesParts.l1 (k + 1) y0 y1 y2 y3 y4 y5 y6 y7 y8 y9))
  | 0 => ⟨fun _ _ _ _ _ _ r h => by simp [tailwaterlaw19_PanesParts.j0] at h, fun _ _ _ _ _ _ _ r h => by simp [tailwaterlaw19_PanesParts.j1] at h, fun _ _ _ _ _ _ _ r h => by simp [tailwaterlaw19_PanesParts.l0] at h, fun _ _ _ _ _ _ _ _ _ r h => by simp [tailwaterlaw19_PanesParts.j3] at h, fun _ _ _ _ _ _ _ _ _ _ r h => by simp [tailwaterlaw19_PanesParts.l1] at h⟩
  | k + 1 => by
    obtain ⟨ih0, ih1, ih2, ih3, ih4⟩ := tailwaterlaw19_PanesParts.mono_l k
    refine ⟨?_, ?_, ?_, ?_, ?_⟩
    · intro y0 y1 y2 y3 y4 y5
      unfold tailwaterlaw19_PanesParts.j0
      repeat' first
      | (with_reducible exact ih0 _ _ _ _ _ _)
      | (with_reducible exact ih1 _ _ _ _ _ _ _)
      | (with_reducible exact ih2 _ _ _ _ _ _ _)
      | (with_reducible exact ih3 _ _ _ _ _ _ _ _ _)
      | (with_reducible exact ih4 _ _ _ _ _ _ _ _ _ _)
      | (with_reducible exact panes_Parts.mono _ _ _ _ _ _)
      | (with_reducible exact panes_Size.mono _ _ _)
      | (with_reducible exact slide_Of.mono _ _ _ _ _)
      | (with_reducible exact tailwaterlaw19_alive.mono _)
      | (with_reducible exact tailwaterref13_Check.mono _ _ _)
      | (with_reducible exact tailwaterref19_Asked.mono _ _ _ _)
      | (with_reducible exact LeO.refl _)
      | (with_reducible exact LeO.none _)
      | (with_reducible refine LeO.ite ?_ ?_)
      | (with_reducible refine LeO.bind ?_ (fun _ => ?_))
      | exact ih0 _ _ _ _ _ _
      | exact ih1 _ _ _ _ _ _ _
      | exact ih2 _ _ _ _ _ _ _
      | exact ih3 _ _ _ _ _ _ _ _ _
      | exact ih4 _ _ _ _ _ _ _ _ _ _
      | exact panes_Parts.mono _ _ _ _ _ _
      | exact panes_Size.mono _ _ _
      | exact slide_Of.mono _ _ _ _ _
      | exact tailwaterlaw19_alive.mono _
      | exact tailwaterref13_Check.mono _ _ _
      | exact tailwaterref19_Asked.mono _ _ _ _
      | exact LeO.none _
      | refine LeO.ite ?_ ?_
      | refine LeO.bind ?_ (fun _ => ?_)
    · intro y0 y1 y2 y3 y4 y5 y6
      unfold tailwaterlaw19_PanesParts.j1
      repeat' first
      | (with_reducible exact ih0 _ _ _ _ _ _)
      | (with_reducible exact ih1 _ _ _ _ _ _ _)
      | (with_reducible exact ih2 _ _ _ _ _ _ _)
      | (with_reducible exact ih3 _ _ _ _ _ _ _ _ _)
      | (with_reducible exact ih4 _ _ _ _ _ _ _ _ _ _)
      | (with_reducible exact panes_Parts.mono _ _ _ _ _ _)
      | (with_reducible exact panes_Size.mono _ _ _)
      | (with_reducible exact slide_Of.mono _ _ _ _ _)
      | (with_reducible exact tailwaterlaw19_alive.mono _)
      | (with_reducible exact tailwaterref13_Check.mono _ _ _)
      | (with_reducible exact tailwaterref19_Asked.mono _ _ _ _)
      | (with_reducible exact LeO.refl _)
      | (with_reducible exact LeO.none _)
      | (with_reducible refine LeO.ite ?_ ?_)
      | (with_reducible refine LeO.bind ?_ (fun _ => ?_))
      | exact ih0 _ _ _ _ _ _
      | exact ih1 _ _ _ _ _ _ _
      | exact ih2 _ _ _ _ _ _ _
      | exact ih3 _ _ _ _ _ _ _ _ _
      | exact ih4 _ _ _ _ _ _ _ _ _ _
      | exact panes_Parts.mono _ _ _ _ _ _
      | exact panes_Size.mono _ _ _
      | exact slide_Of.mono _ _ _ _ _
      | exact tailwaterlaw19_alive.mono _
      | exact tailwaterref13_Check.mono _ _ _
      | exact tailwaterref19_Asked.mono _ _ _ _
      | exact LeO.none _
      | refine LeO.ite ?_ ?_
      | refine LeO.bind ?_ (fun _ => ?_)
    · intro y0 y1 y2 y3 y4 y5 y6
      unfold tailwaterlaw19_PanesParts.l0
      repeat' first
      | (with_reducible exact ih0 _ _ _ _ _ _)
      | (with_reducible exact ih1 _ _ _ _ _ _ _)
      | (with_reducible exact ih2 _ _ _ _ _ _ _)
      | (with_reducible exact ih3 _ _ _ _ _ _ _ _ _)
      | (with_reducible exact ih4 _ _ _ _ _ _ _ _ _ _)
      | (with_reducible exact panes_Parts.mono _ _ _ _ _ _)
      | (with_reducible exact panes_Size.mono _ _ _)
      | (with_reducible exact slide_Of.mono _ _ _ _ _)
      | (with_reducible exact tailwaterlaw19_alive.mono _)
      | (with_reducible exact tailwaterref13_Check.mono _ _ _)
      | (with_reducible exact tailwaterref19_Asked.mono _ _ _ _)
      | (with_reducible exact LeO.refl _)
      | (with_reducible exact LeO.none _)
      | (with_reducible refine LeO.ite ?_ ?_)
      | (with_reducible refine LeO.bind ?_ (fun _ => ?_))
      | exact ih0 _ _ _ _ _ _
      | exact ih1 _ _ _ _ _ _ _
      | exact ih2 _ _ _ _ _ _ _
      | exact ih3 _ _ _ _ _ _ _ _ _
      | exact ih4 _ _ _ _ _ _ _ _ _ _
      | exact panes_Parts.mono _ _ _ _ _ _
      | exact panes_Size.mono _ _ _
      | exact slide_Of.mono _ _ _ _ _
      | exact tailwaterlaw19_alive.mono _
      | exact tailwaterref13_Check.mono _ _ _
      | exact tailwaterref19_Asked.mono _ _ _ _
      | exact LeO.none _
      | refine LeO.ite ?_ ?_
      | refine LeO.bind ?_ (fun _ => ?_)
    · intro y0 y1 y2 y3 y4 y5 y6 y7 y8
      unfold tailwaterlaw19_PanesParts.j3
      repeat' first
      | (with_reducible exact ih0 _ _ _ _ _ _)
      | (with_reducible exact ih1 _ _ _ _ _ _ _)
      | (with_reducible exact ih2 _ _ _ _ _ _ _)
      | (with_reducible exact ih3 _ _ _ _ _ _ _ _ _)
      | (with_reducible exact ih4 _ _ _ _ _ _ _ _ _ _)
      | (with_reducible exact panes_Parts.mono _ _ _ _ _ _)
      | (with_reducible exact panes_Size.mono _ _ _)
      | (with_reducible exact slide_Of.mono _ _ _ _ _)
      | (with_reducible exact tailwaterlaw19_alive.mono _)
      | (with_reducible exact tailwaterref13_Check.mono _ _ _)
      | (with_reducible exact tailwaterref19_Asked.mono _ _ _ _)
      | (with_reducible exact LeO.refl _)
      | (with_reducible exact LeO.none _)
      | (with_reducible refine LeO.ite ?_ ?_)
      | (with_reducible refine LeO.bind ?_ (fun _ => ?_))
      | exact ih0 _ _ _ _ _ _
      | exact ih1 _ _ _ _ _ _ _
      | exact ih2 _ _ _ _ _ _ _
      | exact ih3 _ _ _ _ _ _ _ _ _
      | exact ih4 _ _ _ _ _ _ _ _ _ _
      | exact panes_Parts.mono _ _ _ _ _ _
      | exact panes_Size.mono _ _ _
      | exact slide_Of.mono _ _ _ _ _
      | exact tailwaterlaw19_alive.mono _
      | exact tailwaterref13_Check.mono _ _ _
      | exact tailwaterref19_Asked.mono _ _ _ _
      | exact LeO.none _
      | refine LeO.ite ?_ ?_
      | refine LeO.bind ?_ (fun _ => ?_)
    · intro y0 y1 y2 y3 y4 y5 y6 y7 y8 y9
      unfold tailwaterlaw19_PanesParts.l1
      repeat' first
      | (with_reducible exact ih0 _ _ _ _ _ _)
      | (with_reducible exact ih1 _ _ _ _ _ _ _)
      | (with_reducible exact ih2 _ _ _ _ _ _ _)
      | (with_reducible exact ih3 _ _ _ _ _ _ _ _ _)
      | (with_reducible exact ih4 _ _ _ _ _ _ _ _ _ _)
      | (with_reducible exact panes_Parts.mono _ _ _ _ _ _)
      | (with_reducible exact panes_Size.mono _ _ _)
      | (with_reducible exact slide_Of.mono _ _ _ _ _)
      | (with_reducible exact tailwaterlaw19_alive.mono _)
      | (with_reducible exact tailwaterref13_Check.mono _ _ _)
      | (with_reducible exact tailwaterref19_Asked.mono _ _ _ _)
      | (with_reducible exact LeO.refl _)
      | (with_reducible exact LeO.none _)
      | (with_reducible refine LeO.ite ?_ ?_)
      | (with_reducible refine LeO.bind ?_ (fun _ => ?_))
      | exact ih0 _ _ _ _ _ _
      | exact ih1 _ _ _ _ _ _ _
      | exact ih2 _ _ _ _ _ _ _
      | exact ih3 _ _ _ _ _ _ _ _ _
      | exact ih4 _ _ _ _ _ _ _ _ _ _
      | exact panes_Parts.mono _ _ _ _ _ _
      | exact panes_Size.mono _ _ _
      | exact slide_Of.mono _ _ _ _ _
      | exact tailwaterlaw19_alive.mono _
      | exact tailwaterref13_Check.mono _ _ _
      | exact tailwaterref19_Asked.mono _ _ _ _
      | exact LeO.none _
      | refine LeO.ite ?_ ?_
      | refine LeO.bind ?_ (fun _ => ?_)
theorem tailwaterlaw19_PanesParts.mono : ∀ a0 a1 a2 a3 k, LeO (tailwaterlaw19_PanesParts.f k a0 a1 a2 a3) (tailwaterlaw19_PanesParts.f (k + 1) a0 a1 a2 a3) := by
  intro a0 a1 a2 a3 k
  obtain ⟨ih0, ih1, ih2, ih3, ih4⟩ := tailwaterlaw19_PanesParts.mono_l k
  unfold tailwaterlaw19_PanesParts.f
  repeat' first
      | (with_reducible exact ih0 _ _ _ _ _ _)
      | (with_reducible exact ih1 _ _ _ _ _ _ _)
      | (with_reducible exact ih2 _ _ _ _ _ _ _)
      | (with_reducible exact ih3 _ _ _ _ _ _ _ _ _)
      | (with_reducible exact ih4 _ _ _ _ _ _ _ _ _ _)
      | (with_reducible exact panes_Parts.mono _ _ _ _ _ _)
      | (with_reducible exact panes_Size.mono _ _ _)
      | (with_reducible exact slide_Of.mono _ _ _ _ _)
      | (with_reducible exact tailwaterlaw19_alive.mono _)
      | (with_reducible exact tailwaterref13_Check.mono _ _ _)
      | (with_reducible exact tailwaterref19_Asked.mono _ _ _ _)
      | (with_reducible exact LeO.refl _)
      | (with_reducible exact LeO.none _)
      | (with_reducible refine LeO.ite ?_ ?_)
      | (with_reducible refine LeO.bind ?_ (fun _ => ?_))
      | exact ih0 _ _ _ _ _ _
      | exact ih1 _ _ _ _ _ _ _
      | exact ih2 _ _ _ _ _ _ _
      | exact ih3 _ _ _ _ _ _ _ _ _
      | exact ih4 _ _ _ _ _ _ _ _ _ _
      | exact panes_Parts.mono _ _ _ _ _ _
      | exact panes_Size.mono _ _ _
      | exact slide_Of.mono _ _ _ _ _
      | exact tailwaterlaw19_alive.mono _
      | exact tailwaterref13_Check.mono _ _ _
      | exact tailwaterref19_Asked.mono _ _ _ _
      | exact LeO.none _
      | refine LeO.ite ?_ ?_
      | refine LeO.bind ?_ (fun _ => ?_)
def tailwaterlaw19_PanesParts.T11 : Bool × List (List Nat × List Nat) := (true, [([], []), ([], []), ([], []), ([1, 2], [1, 2]), ([3], [3]), ([0, 4], [0, 4]), ([5], [5]), ([6], [6]), ([6], [6]), ([7, 5, 0, 1, 2, 3, 4, 5, 6, 7], [7]), ([8, 9, 0, 1, 2, 3, 4, 5, 6, 7, 8, 9], [8])])
def tailwaterlaw19_PanesParts.B11 : List Nat := [0, 0, 0, 6, 14, 31, 63, 127, 127, 255, 1023]
theorem tailwaterlaw19_PanesParts.tab11 : rtab .any (opsOf Try.f12 11) = tailwaterlaw19_PanesParts.T11 := by kernel_rfl
theorem tailwaterlaw19_PanesParts.bits11 : waitsOk tailwaterlaw19_PanesParts.T11.2 tailwaterlaw19_PanesParts.B11 = true := by kernel_rfl
set_option maxHeartbeats 8000000 in
set_option maxRecDepth 100000 in
theorem tailwaterlaw19_PanesParts.calls (k : Nat) (a0_0 : Int) (a0_1 : Int) (a0_2 : Int) (a1 : Int) (r : Bool) (w : World) (h : tailwaterlaw19_PanesParts.f k a0_0 a0_1 a0_2 a1 = some r) (hR_ : r = true) :
    Calls Try.prog 12 #[.agg #[.int .u8 a0_0, .int .i64 a0_1, .int .i64 a0_2], .int .i64 a1] w fun e w' => e = .returned (.bool r) ∧ Below w.heap.size w w' := by
  have hu24 := Try.underlying24
  have hu34 := Try.underlying34
  have HB := Aside0.mk (Below.refl w.heap.size w)
  have H : ((tailwaterlaw19_alive.f k).bind fun t200 => ((tailwaterref19_Asked.f k a0_0 a0_1 a0_2).bind fun t201 => (if t201 = 0 then ((tailwaterref13_Check.f k a1 1).bind fun t202 => (if t202 = 0 then (tailwaterlaw19_PanesParts.j0 k a1 t200 (!t200) a0_0 a0_1 a0_2) else (tailwaterlaw19_PanesParts.j0 k a1 t200 true a0_0 a0_1 a0_2))) else (tailwaterlaw19_PanesParts.j0 k a1 t200 true a0_0 a0_1 a0_2)))) = some r := h
  clear h
  replace H := Option.bind_eq_some_iff.mp H
  obtain ⟨t200, A30, H⟩ := H
  replace H : ((tailwaterref19_Asked.f k a0_0 a0_1 a0_2).bind fun t201 => (if t201 = 0 then ((tailwaterref13_Check.f k a1 1).bind fun t202 => (if t202 = 0 then (tailwaterlaw19_PanesParts.j0 k a1 t200 (!t200) a0_0 a0_1 a0_2) else (tailwaterlaw19_PanesParts.j0 k a1 t200 true a0_0 a0_1 a0_2))) else (tailwaterlaw19_PanesParts.j0 k a1 t200 true a0_0 a0_1 a0_2))) = some r := H
  have A3 := Aside0.mk A30
  clear A30
  have HC4 := Aside0.mk H
  clear H
  go_enter Try.func12, Try.ntmps12
  go_upto_region 2 with (first | ((with_reducible refine gate_dst (N := 2) rfl ?_); (try (refine gate_guard (by rfl) ?_; dsimp only)); refine box_event ?hg (N := 2) ?hd (cs := #[.int .u8 a0_0, .int .i64 a0_1, .int .i64 a0_2]) (t := 24) ?hr ?_; (case hd => rfl); (case hg => rfl); (case hr => first | (go_simp; done) | (go_simp; rfl)); intro gb199 hg w5 hbox hb; have n0_ := Aside0.mk (below_step (by repeat (first | (with_reducible first | exact HB.out | apply below_alloc | apply pw_below_drewN | apply below_drew1) | exact HB.out)) hb); have n1_ := Aside0.mk (hbox); have n2_ := Aside0.mk ((by rw [hg]; exact (below_size (by repeat (first | (with_reducible first | exact HB.out | apply below_alloc | apply pw_below_drewN | apply below_drew1) | exact HB.out))) : w.heap.size ≤ gb199)); clear HB; have HB := n0_; have BK199 := n1_; have GE199 := n2_; clear n0_ n1_ n2_; clear hb hbox hg) | ((with_reducible refine gate_callee (f := 30) rfl ?_); refine goesL_ (some 15) rfl rfl Try.func30 (by kernel_rfl) rfl #[] rfl (by (try simp only [List.map_toArray, List.map_cons, List.map_nil]); first | done | rfl | (simp only [List.length_drop, List.length_take]; rfl)) ?_; (with_reducible refine (tailwaterlaw19_alive.calls k  t200 _ A3.out).mono ?_); rintro e w6 ⟨rfl, hb⟩; refine ⟨_, rfl, ?_⟩; have n0_ := Aside0.mk (blk_below (by (with_reducible repeat (first | apply blk_drewN | apply blk_drew | apply blk_alloc)); exact BK199.out) hb); have n1_ := Aside0.mk (below_step (by repeat (first | (with_reducible first | exact HB.out | apply below_alloc | apply pw_below_drewN | apply below_drew1 | refine below_set ?_ GE199.out) | exact HB.out)) hb); clear BK199 HB; have BK199 := n0_; have HB := n1_; clear n0_ n1_; (try clear hb); (try clear hb2); (try clear hk); (try clear hi)))
  (try simp only [Act.put, List.setIfInBounds_toArray, List.set_cons_zero, List.set_cons_succ])
  go_cut [27] (fun v27 wc => ∃ (kq : Nat) (x27_3 : Bool), v27 = .bool x27_3 ∧ Aside0 (tailwaterlaw19_PanesParts.j0 kq a1 t200 x27_3 a0_0 a0_1 a0_2 = some r) ∧ Aside0 (kq ≤ k) ∧ Aside0 (wc.heap[gb199]? = some (.cells #[.int .u8 a0_0, .int .i64 a0_1, .int .i64 a0_2] 24 (0, 0))) ∧ Aside0 (Below w.heap.size w wc))
  case first =>
    have H := HC4.out
    clear HC4
    replace H := Option.bind_eq_some_iff.mp H
    obtain ⟨t201, A70, H⟩ := H
    replace H : (if t201 = 0 then ((tailwaterref13_Check.f k a1 1).bind fun t202 => (if t202 = 0 then (tailwaterlaw19_PanesParts.j0 k a1 t200 (!t200) a0_0 a0_1 a0_2) else (tailwaterlaw19_PanesParts.j0 k a1 t200 true a0_0 a0_1 a0_2))) else (tailwaterlaw19_PanesParts.j0 k a1 t200 true a0_0 a0_1 a0_2)) = some r := H
    have A7 := Aside0.mk A70
    clear A70
    by_cases c8 : t201 = 0
    · rw [if_pos c8] at H
      have c8b0 : (t201 == 0) = true := beq_iff_eq.mpr c8
      have c8b1 : (t201 != 0) = false := bne_eq_false_iff_eq.mpr c8
      clear c8
      (first | rw [c8b0] | (simp only [i64_w, i32_w]; rw [c8b0]) | skip)
      replace H := Option.bind_eq_some_iff.mp H
      obtain ⟨t202, A90, H⟩ := H
      replace H : (if t202 = 0 then (tailwaterlaw19_PanesParts.j0 k a1 t200 (!t200) a0_0 a0_1 a0_2) else (tailwaterlaw19_PanesParts.j0 k a1 t200 true a0_0 a0_1 a0_2)) = some r := H
      have A9 := Aside0.mk A90
      clear A90
      by_cases c10 : t202 = 0
      · rw [if_pos c10] at H
        have c10b0 : (t202 == 0) = true := beq_iff_eq.mpr c10
        have c10b1 : (t202 != 0) = false := bne_eq_false_iff_eq.mpr c10
        clear c10
        have H' := Aside0.mk H
        clear H
        obtain ⟨hcz11_0, hcz11_1, hcz11_2⟩ := blkc3 BK199.out
        obtain ⟨hfz11_0, hfz11_1, hfz11_2⟩ := blkf3 BK199.out
        go_wp2_with (first | ((with_reducible refine gate_callee (f := 31) rfl ?_); refine goesL_ (some 17) rfl rfl Try.func31 (by kernel_rfl) rfl #[.agg #[.int .u8 a0_0, .int .i64 a0_1, .int .i64 a0_2]] rfl (by (try simp only [List.map_toArray, List.map_cons, List.map_nil]); first | done | rfl | (simp only [List.length_drop, List.length_take]; rfl)) ?_; (with_reducible refine (tailwaterref19_Asked.calls k a0_0 a0_1 a0_2 t201 _ A7.out).mono ?_); rintro e w12 ⟨rfl, hb⟩; refine ⟨_, rfl, ?_⟩; have n0_ := Aside0.mk (blk_below (by (with_reducible repeat (first | apply blk_drewN | apply blk_drew | apply blk_alloc)); exact BK199.out) hb); have n1_ := Aside0.mk (below_step (by repeat (first | (with_reducible first | exact HB.out | apply below_alloc | apply pw_below_drewN | apply below_drew1 | refine below_set ?_ GE199.out) | exact HB.out)) hb); clear BK199 HB; have BK199 := n0_; have HB := n1_; clear n0_ n1_; (try clear hb); (try clear hb2); (try clear hk); (try clear hi)) | (go_at_call 32; (with_reducible refine (tailwaterref13_Check.calls k a1 1 t202 _ A9.out).mono ?_); rintro e w' ⟨rfl, ⟨nd, rfl⟩⟩))
        go_meet
        case rel => exact ⟨_, (!t200), (by first | rfl | (simp; done) | (simp [*]; done)), H', ⟨by first | omega | exact Nat.le_refl _⟩, ⟨by (with_reducible repeat (first | refine blk_drewN ?_ _ | refine blk_drew ?_ | refine blk_alloc ?_ _)); exact BK199.out⟩, ⟨by repeat (first | (with_reducible first | exact HB.out | apply below_alloc | apply pw_below_drewN | apply below_drew1 | refine below_set ?_ GE199.out) | exact HB.out)⟩⟩
      · rw [if_neg c10] at H
        have c10b0 : (t202 == 0) = false := beq_eq_false_iff_ne.mpr c10
        have c10b1 : (t202 != 0) = true := bne_iff_ne.mpr c10
        have H' := Aside0.mk H
        clear H
        obtain ⟨hcz13_0, hcz13_1, hcz13_2⟩ := blkc3 BK199.out
        obtain ⟨hfz13_0, hfz13_1, hfz13_2⟩ := blkf3 BK199.out
        go_wp2_with (first | ((with_reducible refine gate_callee (f := 31) rfl ?_); refine goesL_ (some 17) rfl rfl Try.func31 (by kernel_rfl) rfl #[.agg #[.int .u8 a0_0, .int .i64 a0_1, .int .i64 a0_2]] rfl (by (try simp only [List.map_toArray, List.map_cons, List.map_nil]); first | done | rfl | (simp only [List.length_drop, List.length_take]; rfl)) ?_; (with_reducible refine (tailwaterref19_Asked.calls k a0_0 a0_1 a0_2 t201 _ A7.out).mono ?_); rintro e w14 ⟨rfl, hb⟩; refine ⟨_, rfl, ?_⟩; have n0_ := Aside0.mk (blk_below (by (with_reducible repeat (first | apply blk_drewN | apply blk_drew | apply blk_alloc)); exact BK199.out) hb); have n1_ := Aside0.mk (below_step (by repeat (first | (with_reducible first | exact HB.out | apply below_alloc | apply pw_below_drewN | apply below_drew1 | refine below_set ?_ GE199.out) | exact HB.out)) hb); clear BK199 HB; have BK199 := n0_; have HB := n1_; clear n0_ n1_; (try clear hb); (try clear hb2); (try clear hk); (try clear hi)) | (go_at_call 32; (with_reducible refine (tailwaterref13_Check.calls k a1 1 t202 _ A9.out).mono ?_); rintro e w' ⟨rfl, ⟨nd, rfl⟩⟩))
        go_meet
        case rel => exact ⟨_, (true), (by first | rfl | (simp; done) | (simp [*]; done)), H', ⟨by first | omega | exact Nat.le_refl _⟩, ⟨by (with_reducible repeat (first | refine blk_drewN ?_ _ | refine blk_drew ?_ | refine blk_alloc ?_ _)); exact BK199.out⟩, ⟨by repeat (first | (with_reducible first | exact HB.out | apply below_alloc | apply pw_below_drewN | apply below_drew1 | refine below_set ?_ GE199.out) | exact HB.out)⟩⟩
    · rw [if_neg c8] at H
      have c8b0 : (t201 == 0) = false := beq_eq_false_iff_ne.mpr c8
      have c8b1 : (t201 != 0) = true := bne_iff_ne.mpr c8
      (first | rw [c8b0] | (simp only [i64_w, i32_w]; rw [c8b0]) | skip)
      have H' := Aside0.mk H
      clear H
      obtain ⟨hcz15_0, hcz15_1, hcz15_2⟩ := blkc3 BK199.out
      obtain ⟨hfz15_0, hfz15_1, hfz15_2⟩ := blkf3 BK199.out
      go_wp2_with (first | ((with_reducible refine gate_callee (f := 31) rfl ?_); refine goesL_ (some 17) rfl rfl Try.func31 (by kernel_rfl) rfl #[.agg #[.int .u8 a0_0, .int .i64 a0_1, .int .i64 a0_2]] rfl (by (try simp only [List.map_toArray, List.map_cons, List.map_nil]); first | done | rfl | (simp only [List.length_drop, List.length_take]; rfl)) ?_; (with_reducible refine (tailwaterref19_Asked.calls k a0_0 a0_1 a0_2 t201 _ A7.out).mono ?_); rintro e w16 ⟨rfl, hb⟩; refine ⟨_, rfl, ?_⟩; have n0_ := Aside0.mk (blk_below (by (with_reducible repeat (first | apply blk_drewN | apply blk_drew | apply blk_alloc)); exact BK199.out) hb); have n1_ := Aside0.mk (below_step (by repeat (first | (with_reducible first | exact HB.out | apply below_alloc | apply pw_below_drewN | apply below_drew1 | refine below_set ?_ GE199.out) | exact HB.out)) hb); clear BK199 HB; have BK199 := n0_; have HB := n1_; clear n0_ n1_; (try clear hb); (try clear hb2); (try clear hk); (try clear hi)))
      go_meet
      case rel => exact ⟨_, (true), (by first | rfl | (simp; done) | (simp [*]; done)), H', ⟨by first | omega | exact Nat.le_refl _⟩, ⟨by (with_reducible repeat (first | refine blk_drewN ?_ _ | refine blk_drew ?_ | refine blk_alloc ?_ _)); exact BK199.out⟩, ⟨by repeat (first | (with_reducible first | exact HB.out | apply below_alloc | apply pw_below_drewN | apply below_drew1 | refine below_set ?_ GE199.out) | exact HB.out)⟩⟩
  case rest =>
    clear HC4
    obtain ⟨kq, x27_3, rfl, HA, HJ3, BK199, HB⟩ := hcut
    cases kq with
    | zero => exact absurd HA.out (by simp [tailwaterlaw19_PanesParts.j0])
    | succ kj3 =>
      have H := HA.out
      clear HA
      simp only [tailwaterlaw19_PanesParts.j0] at H
      by_cases c17 : x27_3 = true
      · subst c17
        have H1 : (some t200) = some r := by rw [if_pos rfl] at H; exact H
        clear H
        have H := H1
        clear H1
        obtain rfl := Option.some.inj H
        go_wp2
        go_ret
        exact ⟨by first | rfl | (simp [errW_none, errW_some] <;> rfl) | (simp [*, errW_none, errW_some] <;> rfl), by repeat (first | (with_reducible first | exact HB.out | apply below_alloc | apply pw_below_drewN | apply below_drew1 | refine below_set ?_ GE199.out) | exact HB.out)⟩
      · replace c17 := Bool.eq_false_iff.mpr c17
        subst c17
        have H1 : ((panes_Size.f kj3 a0_1 a0_2).bind fun bt203 => ((slide_Of.f kj3 a0_0 a0_1 a0_2 a1).bind fun bt205 => (if bt203.2 = 0 then (if bt205.2 = 0 then (tailwaterlaw19_PanesParts.j1 kj3 t200 bt203.1 bt205.1 (decide (bt203.1 < 1)) a0_0 a0_1 a0_2) else (tailwaterlaw19_PanesParts.j1 kj3 t200 bt203.1 bt205.1 true a0_0 a0_1 a0_2)) else (tailwaterlaw19_PanesParts.j1 kj3 t200 bt203.1 bt205.1 true a0_0 a0_1 a0_2)))) = some r := by rw [if_neg (show ¬ (false = true) by decide)] at H; exact H
        clear H
        have H := H1
        clear H1
        replace H := Option.bind_eq_some_iff.mp H
        obtain ⟨⟨t203, t204⟩, A180, H⟩ := H
        replace H : ((slide_Of.f kj3 a0_0 a0_1 a0_2 a1).bind fun bt205 => (if t204 = 0 then (if bt205.2 = 0 then (tailwaterlaw19_PanesParts.j1 kj3 t200 t203 bt205.1 (decide (t203 < 1)) a0_0 a0_1 a0_2) else (tailwaterlaw19_PanesParts.j1 kj3 t200 t203 bt205.1 true a0_0 a0_1 a0_2)) else (tailwaterlaw19_PanesParts.j1 kj3 t200 t203 bt205.1 true a0_0 a0_1 a0_2))) = some r := H
        have A18 := Aside0.mk A180
        clear A180
        replace H := Option.bind_eq_some_iff.mp H
        obtain ⟨⟨t205, t208⟩, A190, H⟩ := H
        replace H : (if t204 = 0 then (if t208 = 0 then (tailwaterlaw19_PanesParts.j1 kj3 t200 t203 t205 (decide (t203 < 1)) a0_0 a0_1 a0_2) else (tailwaterlaw19_PanesParts.j1 kj3 t200 t203 t205 true a0_0 a0_1 a0_2)) else (tailwaterlaw19_PanesParts.j1 kj3 t200 t203 t205 true a0_0 a0_1 a0_2)) = some r := H
        have A19 := Aside0.mk A190
        clear A190
        have HC20 := Aside0.mk H
        clear H
        obtain ⟨hcz21_0, hcz21_1, hcz21_2⟩ := blkc3 BK199.out
        obtain ⟨hfz21_0, hfz21_1, hfz21_2⟩ := blkf3 BK199.out
        go_upto_region 6 with (first | ((with_reducible refine gate_callee (f := 34) rfl ?_); refine goesL_ (some 34) rfl rfl Try.func34 (by kernel_rfl) rfl #[.int .i64 a0_1, .int .i64 a0_2] rfl (by (try simp only [List.map_toArray, List.map_cons, List.map_nil]); first | done | rfl | (simp only [List.length_drop, List.length_take]; rfl)) ?_; (with_reducible refine (panes_Size.calls kj3 a0_1 a0_2 t203 t204 _ A18.out).mono ?_); rintro e w22 ⟨rfl, hb⟩; refine ⟨_, rfl, ?_⟩; have n0_ := Aside0.mk (blk_below (by (with_reducible repeat (first | apply blk_drewN | apply blk_drew | apply blk_alloc)); exact BK199.out) hb); have n1_ := Aside0.mk (below_step (by repeat (first | (with_reducible first | exact HB.out | apply below_alloc | apply pw_below_drewN | apply below_drew1 | refine below_set ?_ GE199.out) | exact HB.out)) hb); clear BK199 HB; have BK199 := n0_; have HB := n1_; clear n0_ n1_; (try clear hb); (try clear hb2); (try clear hk); (try clear hi); obtain ⟨hcz23_0, hcz23_1, hcz23_2⟩ := blkc3 BK199.out; obtain ⟨hfz23_0, hfz23_1, hfz23_2⟩ := blkf3 BK199.out) | ((with_reducible refine gate_callee (f := 29) rfl ?_); refine goesL_ (some 40) rfl rfl Try.func29 (by kernel_rfl) rfl #[.agg #[.int .u8 a0_0, .int .i64 a0_1, .int .i64 a0_2], .int .i64 a1] rfl (by (try simp only [List.map_toArray, List.map_cons, List.map_nil]); first | done | rfl | (simp only [List.length_drop, List.length_take]; rfl)) ?_; (with_reducible refine (slide_Of.calls kj3 a0_0 a0_1 a0_2 a1 t205 t208 _ A19.out).mono ?_); rintro e w24 ⟨v206, rfl, ho0, hb⟩; refine ⟨_, rfl, ?_⟩; have n0_ := Aside0.mk (Kd.R_lower ho0 (below_size (by repeat (first | (with_reducible first | exact HB.out | apply below_alloc | apply pw_below_drewN | apply below_drew1 | refine below_set ?_ GE199.out) | exact HB.out)))); have n1_ := Aside0.mk (blk_below (by (with_reducible repeat (first | apply blk_drewN | apply blk_drew | apply blk_alloc)); exact BK199.out) hb); have n2_ := Aside0.mk (below_step (by repeat (first | (with_reducible first | exact HB.out | apply below_alloc | apply pw_below_drewN | apply below_drew1 | refine below_set ?_ GE199.out) | exact HB.out)) hb); clear BK199 HB; have HO207 := n0_; have BK199 := n1_; have HB := n2_; clear n0_ n1_ n2_; (try clear hb); (try clear hb2); (try clear hk); (try clear hi); (try clear ho0)))
        (try simp only [Act.put, List.setIfInBounds_toArray, List.set_cons_zero, List.set_cons_succ])
        go_cut [52] (fun v52 wc => ∃ (kq : Nat) (x52_19 : Bool), v52 = .bool x52_19 ∧ Aside0 (tailwaterlaw19_PanesParts.j1 kq t200 t203 t205 x52_19 a0_0 a0_1 a0_2 = some r) ∧ Aside0 (kq ≤ kj3) ∧ Aside0 (Kd.R k34 34 wc w.heap.size (fun _ => True) v206 t205) ∧ Aside0 (wc.heap[gb199]? = some (.cells #[.int .u8 a0_0, .int .i64 a0_1, .int .i64 a0_2] 24 (0, 0))) ∧ Aside0 (Below w.heap.size w wc))
        case first =>
          have H := HC20.out
          clear HC20
          by_cases c25 : t204 = 0
          · rw [if_pos c25] at H
            have c25b0 : (t204 == 0) = true := beq_iff_eq.mpr c25
            have c25b1 : (t204 != 0) = false := bne_eq_false_iff_eq.mpr c25
            clear c25
            (first | rw [c25b0] | (simp only [i64_w, i32_w]; rw [c25b0]) | skip)
            by_cases c26 : t208 = 0
            · rw [if_pos c26] at H
              have c26b0 : (t208 == 0) = true := beq_iff_eq.mpr c26
              have c26b1 : (t208 != 0) = false := bne_eq_false_iff_eq.mpr c26
              clear c26
              have H' := Aside0.mk H
              clear H
              go_wp2
              go_meet
              case rel => exact ⟨_, (decide (t203 < 1)), (by first | rfl | (simp; done) | (simp [*]; done)), H', ⟨by have := HJ3.out; first | omega | exact Nat.le_refl _⟩, ⟨by (with_reducible repeat (first | apply Kd.R_alloc | apply Kd.R_drewN | apply Kd.R_drew)); exact HO207.out⟩, ⟨by (with_reducible repeat (first | refine blk_drewN ?_ _ | refine blk_drew ?_ | refine blk_alloc ?_ _)); exact BK199.out⟩, ⟨by repeat (first | (with_reducible first | exact HB.out | apply below_alloc | apply pw_below_drewN | apply below_drew1 | refine below_set ?_ GE199.out) | exact HB.out)⟩⟩
            · rw [if_neg c26] at H
              have c26b0 : (t208 == 0) = false := beq_eq_false_iff_ne.mpr c26
              have c26b1 : (t208 != 0) = true := bne_iff_ne.mpr c26
              have H' := Aside0.mk H
              clear H
              go_wp2
              go_meet
              case rel => exact ⟨_, (true), (by first | rfl | (simp; done) | (simp [*]; done)), H', ⟨by have := HJ3.out; first | omega | exact Nat.le_refl _⟩, ⟨by (with_reducible repeat (first | apply Kd.R_alloc | apply Kd.R_drewN | apply Kd.R_drew)); exact HO207.out⟩, ⟨by (with_reducible repeat (first | refine blk_drewN ?_ _ | refine blk_drew ?_ | refine blk_alloc ?_ _)); exact BK199.out⟩, ⟨by repeat (first | (with_reducible first | exact HB.out | apply below_alloc | apply pw_below_drewN | apply below_drew1 | refine below_set ?_ GE199.out) | exact HB.out)⟩⟩
          · rw [if_neg c25] at H
            have c25b0 : (t204 == 0) = false := beq_eq_false_iff_ne.mpr c25
            have c25b1 : (t204 != 0) = true := bne_iff_ne.mpr c25
            (first | rw [c25b0] | (simp only [i64_w, i32_w]; rw [c25b0]) | skip)
            have H' := Aside0.mk H
            clear H
            go_wp2
            go_meet
            case rel => exact ⟨_, (true), (by first | rfl | (simp; done) | (simp [*]; done)), H', ⟨by have := HJ3.out; first | omega | exact Nat.le_refl _⟩, ⟨by (with_reducible repeat (first | apply Kd.R_alloc | apply Kd.R_drewN | apply Kd.R_drew)); exact HO207.out⟩, ⟨by (with_reducible repeat (first | refine blk_drewN ?_ _ | refine blk_drew ?_ | refine blk_alloc ?_ _)); exact BK199.out⟩, ⟨by repeat (first | (with_reducible first | exact HB.out | apply below_alloc | apply pw_below_drewN | apply below_drew1 | refine below_set ?_ GE199.out) | exact HB.out)⟩⟩
        case rest =>
          clear HC20
          try clear c17
          try clear hcz21_0
          try clear hcz21_1
          try clear hcz21_2
          try clear hcz23_0
          try clear hcz23_1
          try clear hcz23_2
          try clear hfz21_0
          try clear hfz21_1
          try clear hfz21_2
          try clear hfz23_0
          try clear hfz23_1
          try clear hfz23_2
          obtain ⟨kq, x52_19, rfl, HA, HJ19, HO_8, BK199, HB⟩ := hcut
          cases kq with
          | zero => exact absurd HA.out (by simp [tailwaterlaw19_PanesParts.j1])
          | succ kj19 =>
            have H := HA.out
            clear HA
            simp only [tailwaterlaw19_PanesParts.j1] at H
            by_cases c27 : x52_19 = true
            · subst c27
              have H1 : (some false) = some r := by rw [if_pos rfl] at H; exact H
              clear H
              have H := H1
              clear H1
              exact absurd ((Option.some.inj H).trans hR_) (by decide)
            · replace c27 := Bool.eq_false_iff.mpr c27
              subst c27
              have H1 : (tailwaterlaw19_PanesParts.l0 kj19 t200 t203 t205 0 a0_0 a0_1 a0_2) = some r := by rw [if_neg (show ¬ (false = true) by decide)] at H; exact H
              clear H
              have H := H1
              clear H1
              have H' := Aside0.mk H
              clear H
              go_wp2
              go_loopg [10] kj19 (fun kq v10 w' => ∃ (x10_3 : Int), v10 = .int .i64 x10_3 ∧ Aside0 (tailwaterlaw19_PanesParts.l0 kq t200 t203 t205 x10_3 a0_0 a0_1 a0_2 = some r) ∧ Aside0 (kq ≤ kj19) ∧ Aside0 (Kd.R k34 34 w' w.heap.size (fun _ => True) v206 t205) ∧ Aside0 (w'.heap[gb199]? = some (.cells #[.int .u8 a0_0, .int .i64 a0_1, .int .i64 a0_2] 24 (0, 0))) ∧ Aside0 (Below w.heap.size w w'))
              case atStart => exact ⟨(0), (by first | rfl | (simp; done) | (simp [*]; done)), H', ⟨Nat.le_refl _⟩, ⟨by (with_reducible repeat (first | apply Kd.R_alloc | apply Kd.R_drewN | apply Kd.R_drew)); exact HO_8.out⟩, ⟨by (with_reducible repeat (first | refine blk_drewN ?_ _ | refine blk_drew ?_ | refine blk_alloc ?_ _)); exact BK199.out⟩, ⟨by repeat (first | (with_reducible first | exact HB.out | apply below_alloc | apply pw_below_drewN | apply below_drew1 | refine below_set ?_ GE199.out) | exact HB.out)⟩⟩
              case round =>
                clear H'
                try clear c17
                try clear c27
                try clear hcz21_0
                try clear hcz21_1
                try clear hcz21_2
                try clear hcz23_0
                try clear hcz23_1
                try clear hcz23_2
                try clear hfz21_0
                try clear hfz21_1
                try clear hfz21_2
                try clear hfz23_0
                try clear hfz23_1
                try clear hfz23_2
                obtain ⟨x10_3, rfl, HA, HK3, HO_8, BK199, HB⟩ := hrel
                cases gk with
                | zero => exact absurd HA.out (by simp [tailwaterlaw19_PanesParts.l0])
                | succ k3 =>
                  have H := HA.out
                  clear HA
                  simp only [tailwaterlaw19_PanesParts.l0] at H
                  by_cases c28 : x10_3 < (t205.length : Int)
                  · rw [if_pos c28] at H
                    have c28b0 : decide (x10_3 < (t205.length : Int)) = true := decide_eq_true c28
                    clear c28
                    by_cases c29 : 0 ≤ x10_3
                    · rw [if_pos c29] at H
                      have c29b0 : decide (0 ≤ x10_3) = true := decide_eq_true c29
                      clear c29
                      replace H := Option.bind_eq_some_iff.mp H
                      obtain ⟨⟨t210, t213⟩, A300, H⟩ := H
                      replace H : ((tailwaterref13_Check.f k3 ((rd_T34 t205 x10_3).f0) 1).bind fun t215 => (if t215 = 0 then (if t203 = 0 then (none) else (if (wrap64 (Int.tdiv a0_1 t203)) > 4000 then (if t213 = 4 then (tailwaterlaw19_PanesParts.l0 k3 t200 t203 t205 (wrap64 (x10_3 + 1)) a0_0 a0_1 a0_2) else (some false)) else (if t213 = 0 then (tailwaterlaw19_PanesParts.j3 k3 t200 t203 t205 x10_3 t210 ((t210.length : Int) != (wrap64 (Int.tdiv a0_1 t203))) a0_0 a0_1 a0_2) else (tailwaterlaw19_PanesParts.j3 k3 t200 t203 t205 x10_3 t210 true a0_0 a0_1 a0_2)))) else (if t213 = 2 then (tailwaterlaw19_PanesParts.l0 k3 t200 t203 t205 (wrap64 (x10_3 + 1)) a0_0 a0_1 a0_2) else (some false)))) = some r := H
                      have A30 := Aside0.mk A300
                      clear A300
                      replace H := Option.bind_eq_some_iff.mp H
                      obtain ⟨t215, A310, H⟩ := H
                      replace H : (if t215 = 0 then (if t203 = 0 then (none) else (if (wrap64 (Int.tdiv a0_1 t203)) > 4000 then (if t213 = 4 then (tailwaterlaw19_PanesParts.l0 k3 t200 t203 t205 (wrap64 (x10_3 + 1)) a0_0 a0_1 a0_2) else (some false)) else (if t213 = 0 then (tailwaterlaw19_PanesParts.j3 k3 t200 t203 t205 x10_3 t210 ((t210.length : Int) != (wrap64 (Int.tdiv a0_1 t203))) a0_0 a0_1 a0_2) else (tailwaterlaw19_PanesParts.j3 k3 t200 t203 t205 x10_3 t210 true a0_0 a0_1 a0_2)))) else (if t213 = 2 then (tailwaterlaw19_PanesParts.l0 k3 t200 t203 t205 (wrap64 (x10_3 + 1)) a0_0 a0_1 a0_2) else (some false))) = some r := H
                      have A31 := Aside0.mk A310
                      clear A310
                      by_cases c32 : t215 = 0
                      · rw [if_pos c32] at H
                        have c32b0 : (t215 == 0) = true := beq_iff_eq.mpr c32
                        have c32b1 : (t215 != 0) = false := bne_eq_false_iff_eq.mpr c32
                        clear c32
                        by_cases c33 : t203 = 0
                        · rw [if_pos c33] at H
                          exact absurd H (by simp)
                        · rw [if_neg c33] at H
                          have c33b0 : (t203 == 0) = false := beq_eq_false_iff_ne.mpr c33
                          have c33b1 : (t203 != 0) = true := bne_iff_ne.mpr c33
                          by_cases c34 : (wrap64 (Int.tdiv a0_1 t203)) > 4000
                          · rw [if_pos c34] at H
                            have c34b0 : decide (4000 < (wrap64 (Int.tdiv a0_1 t203))) = true := decide_eq_true c34
                            clear c34
                            by_cases c35 : t213 = 4
                            · rw [if_pos c35] at H
                              have c35b0 : (t213 == 4) = true := beq_iff_eq.mpr c35
                              have c35b1 : (t213 != 4) = false := bne_eq_false_iff_eq.mpr c35
                              clear c35
                              have H' := Aside0.mk H
                              clear H
                              obtain ⟨Ao36, co36, eo36⟩ := Kd.R_slice HO_8.out
                              subst eo36
                              try go_wp2
                              have n0_ := Aside0.mk (Kd.R_drew HO_8.out)
                              have n1_ := Aside0.mk (blk_drew BK199.out)
                              have n2_ := Aside0.mk (below_drew1 HB.out)
                              clear HO_8 BK199 HB
                              have HO_8 := n0_
                              have BK199 := n1_
                              have HB := n2_
                              clear n0_ n1_ n2_
                              have p209 : 0 ≤ (x10_3 : Int) := of_decide_eq_true (by first | (with_reducible assumption) | assumption)
                              have q209 : x10_3 < (t205.length : Int) := of_decide_eq_true (by first | (with_reducible assumption) | assumption)
                              obtain ⟨ad209, e209, hx209_0, hx209_1⟩ := at_T34 (Kd.R_reads' HO_8.out).2.2 x10_3 p209 q209
                              cases e209
                              replace p209 := eq_true p209
                              replace q209 := eq_true q209
                              refine start_ (n := 11) (S := fun w' => w'.cell? ⟨gb199, 0, none⟩ = some (.int .u8 a0_0) ∧ w'.cell? ⟨gb199, 1, none⟩ = some (.int .i64 a0_1) ∧ w'.cell? ⟨gb199, 2, none⟩ = some (.int .i64 a0_2) ∧ w'.cell? (ad209.add ((x10_3).toNat * 2)) = some (.int .i64 ((rd_T34 t205 x10_3).f0)) ∧ w'.cell? ⟨(ad209.add ((x10_3).toNat * 2)).block, (ad209.add ((x10_3).toNat * 2)).off + 1, none⟩ = some (.int .i64 ((rd_T34 t205 x10_3).f1))) (ds := []) (pfx_ 11 0) (by kernel_rfl) rfl rfl ⟨(blk_cell BK199.out 0).trans rfl, (blk_cell BK199.out 1).trans rfl, (blk_cell BK199.out 2).trans rfl, hx209_0, hx209_1⟩ (fun hHeld => ?_); refine with_tabW tailwaterlaw19_PanesParts.tab11 tailwaterlaw19_PanesParts.bits11 (fun HT_ HW_ => ?_)
                              generalize wr.drew = w37 at HO_8 BK199 HB hx209_0 hx209_1 hHeld ⊢
                              refine pure_ (i := 1) (N := some 61) (v := ?_) (a' := ?_) (bm_ 11 2) rfl rfl (any_of HT_.out (by kernel_rfl)) (fun _ _ _ h => h) (Or.inl ⟨by rfl, ?_⟩) ?_ ?_
                              rotate_left
                              · intro w'
                                go_simp
                                with_reducible rfl
                              rotate_left
                              · simp only [Act.put, List.setIfInBounds_toArray, List.set_cons_zero, List.set_cons_succ, i64_w, i32_w]
                                rfl
                              refine pure_ (i := 2) (N := some 62) (v := ?_) (a' := ?_) (bm_ 11 6) rfl rfl (any_of HT_.out (by kernel_rfl)) (fun _ _ _ h => h) (Or.inl ⟨by rfl, ?_⟩) ?_ ?_
                              rotate_left
                              · intro w'
                                go_simp
                                with_reducible rfl
                              rotate_left
                              · simp only [Act.put, List.setIfInBounds_toArray, List.set_cons_zero, List.set_cons_succ, i64_w, i32_w]
                                rfl
                              refine pure_ (i := 3) (N := some 63) (v := ?_) (a' := ?_) (bm_ 11 14) rfl rfl (any_of HT_.out (by kernel_rfl)) (fun _ _ _ h => h) (Or.inl ⟨by rfl, ?_⟩) ?_ ?_
                              rotate_left
                              · intro w'
                                go_simp
                                with_reducible rfl
                              rotate_left
                              · simp only [Act.put, List.setIfInBounds_toArray, List.set_cons_zero, List.set_cons_succ, i64_w, i32_w]
                                rfl
                              refine take_ (i := 0) (N := some 60) (v := ?_) (a' := ?_) (pfx_ 11 4) rfl rfl (take_ofW HT_.out HW_.out (by kernel_rfl)) (fun _ _ _ h => h) (Or.inl ⟨by rfl, ?_⟩) hHeld ?_ ?_
                              rotate_left
                              · rintro w' ⟨s0, s1, s2, s3, s4⟩
                                go_simp
                                with_reducible rfl
                              rotate_left
                              · simp only [Act.put, List.setIfInBounds_toArray, List.set_cons_zero, List.set_cons_succ, i64_w, i32_w]
                                rfl
                              refine take_ (i := 4) (N := some 64) (v := ?_) (a' := ?_) (pfx_ 11 5) rfl rfl (take_ofW HT_.out HW_.out (by kernel_rfl)) (fun _ _ _ h => h) (Or.inl ⟨by rfl, ?_⟩) hHeld ?_ ?_
                              rotate_left
                              · rintro w' ⟨s0, s1, s2, s3, s4⟩
                                go_simp
                                with_reducible rfl
                              rotate_left
                              · simp only [Act.put, List.setIfInBounds_toArray, List.set_cons_zero, List.set_cons_succ, i64_w, i32_w]
                                rfl
                              refine one_ (i := 5) (N := some 65) (pfx_ 11 6) rfl rfl (one_of HT_.out (by kernel_rfl)) (by decide) (fun K hK => ?_)
                              refine goes_ Try.func36 (by kernel_rfl) rfl #[.agg #[.int .u8 a0_0, .int .i64 a0_1, .int .i64 a0_2], .agg #[.int .i64 ((rd_T34 t205 x10_3).f0), .int .i64 ((rd_T34 t205 x10_3).f1)]] (by rfl) rfl rfl (by (try simp only [List.map_toArray, List.map_cons, List.map_nil]); first | done | rfl | (simp only [List.length_drop, List.length_take]; rfl)) ?_
                              with_reducible refine (panes_Parts.calls k3 a0_0 a0_1 a0_2 ((rd_T34 t205 x10_3).f0) ((rd_T34 t205 x10_3).f1) t210 t213 _ A30.out).mono ?_
                              rintro e w38 ⟨v211, rfl, ho0, hb⟩
                              have HS3_ := (hb.cell (World.block_lt_of_cell? _ _ (hHeld.2.2.2.1))).trans (hHeld.2.2.2.1)
                              have HS4_ := (hb.cell (World.block_lt_of_cell? _ _ (hHeld.2.2.2.2))).trans (hHeld.2.2.2.2)
                              refine ⟨_, rfl, ?_⟩
                              have n0_ := Aside0.mk (Kd.R_elder' (by (with_reducible repeat (first | apply Kd.R_alloc | apply Kd.R_drewN | apply Kd.R_drew)); exact HO_8.out) (Kd.R_base ho0) hb)
                              have n1_ := Aside0.mk (Kd.R_lower (Kd.R_new' ho0 (Kd.R_lt (by (with_reducible repeat (first | apply Kd.R_alloc | apply Kd.R_drewN | apply Kd.R_drew)); exact HO_8.out))) (below_size (by repeat (first | (with_reducible first | exact HB.out | apply below_alloc | apply pw_below_drewN | apply below_drew1 | refine below_set ?_ GE199.out) | exact HB.out))))
                              have n2_ := Aside0.mk (blk_below (by (with_reducible repeat (first | apply blk_drewN | apply blk_drew | apply blk_alloc)); exact BK199.out) hb)
                              have n3_ := Aside0.mk (below_step (by repeat (first | (with_reducible first | exact HB.out | apply below_alloc | apply pw_below_drewN | apply below_drew1 | refine below_set ?_ GE199.out) | exact HB.out)) hb)
                              clear HO_8 BK199 HB
                              have HO_8 := n0_
                              have HO212 := n1_
                              have BK199 := n2_
                              have HB := n3_
                              clear n0_ n1_ n2_ n3_
                              (try clear hb)
                              (try clear hb2)
                              (try clear hk)
                              (try clear hi)
                              (try clear ho0)
                              refine hK.out _ _ ⟨(blk_cell BK199.out 0).trans rfl, (blk_cell BK199.out 1).trans rfl, (blk_cell BK199.out 2).trans rfl, HS3_, HS4_⟩ (fun hHeld => ?_)
                              clear hK K
                              refine norm_ (a' := ?_) ?_ ?_
                              rotate_left
                              · show Act.put _ (some 65) _ = _
                                simp only [Act.put, List.setIfInBounds_toArray, List.set_cons_zero, List.set_cons_succ, i64_w, i32_w]
                                rfl
                              iterate 5 (refine pv_ (v := ?_) (a' := ?_) HT_.out rfl rfl (by kernel_rfl) (fun _ _ _ h => h) (Or.inl ⟨by rfl, ?_⟩) ?_ ?_; rotate_left; (focus (intro w'; go_simp; with_reducible rfl)); rotate_left; (focus (show Act.put _ (some _) _ = _; simp only [Act.put, List.setIfInBounds_toArray, List.set_cons_zero, List.set_cons_succ, i64_w, i32_w]; rfl)))
                              refine done_ (done_of HT_.out (by kernel_rfl)) ?_
                              have p214 : 0 ≤ (x10_3 : Int) := of_decide_eq_true (by first | (with_reducible assumption) | assumption)
                              have q214 : x10_3 < (t205.length : Int) := of_decide_eq_true (by first | (with_reducible assumption) | assumption)
                              obtain ⟨ad214, e214, hx214_0, hx214_1⟩ := at_T34 (Kd.R_reads' HO_8.out).2.2 x10_3 p214 q214
                              obtain rfl : ad209 = ad214 := (by injection e214)
                              replace p214 := eq_true p214
                              replace q214 := eq_true q214
                              try go_wp2_with (first | ((with_reducible refine gate_callee (f := 32) rfl ?_); refine goesL_ (some 73) rfl rfl Try.func32 (by kernel_rfl) rfl #[.int .i64 ((rd_T34 t205 x10_3).f0), .int .i64 1] rfl (by (try simp only [List.map_toArray, List.map_cons, List.map_nil]); first | done | rfl | (simp only [List.length_drop, List.length_take]; rfl)) ?_; (with_reducible refine (tailwaterref13_Check.calls k3 ((rd_T34 t205 x10_3).f0) 1 t215 _ A31.out).mono ?_); rintro e w' ⟨rfl, ⟨nd, rfl⟩⟩; refine ⟨_, rfl, ?_⟩; obtain ⟨hcz39_0, hcz39_1, hcz39_2⟩ := blkc3 BK199.out; obtain ⟨hfz39_0, hfz39_1, hfz39_2⟩ := blkf3 BK199.out))
                              go_roundg k3
                              case measure => have := HJ3.out; have := HJ19.out; have := HK3.out; omega
                              case rel => exact ⟨(wrap64 (x10_3 + 1)), (by first | rfl | (simp; done) | (simp [*]; done)), H', ⟨by have := HJ3.out; have := HJ19.out; have := HK3.out; omega⟩, ⟨by (with_reducible repeat (first | apply Kd.R_alloc | apply Kd.R_drewN | apply Kd.R_drew)); exact Kd.R_mono HO_8.out (fun _ hk => trivial)⟩, ⟨by (with_reducible repeat (first | refine blk_drewN ?_ _ | refine blk_drew ?_ | refine blk_alloc ?_ _)); exact BK199.out⟩, ⟨by repeat (first | (with_reducible first | exact HB.out | apply below_alloc | apply pw_below_drewN | apply below_drew1 | refine below_set ?_ GE199.out) | exact HB.out)⟩⟩
                            · rw [if_neg c35] at H
                              have c35b0 : (t213 == 4) = false := beq_eq_false_iff_ne.mpr c35
                              have c35b1 : (t213 != 4) = true := bne_iff_ne.mpr c35
                              exact absurd ((Option.some.inj H).trans hR_) (by decide)
                          · rw [if_neg c34] at H
                            have c34b0 : decide (4000 < (wrap64 (Int.tdiv a0_1 t203))) = false := decide_eq_false c34
                            clear c34
                            have HC40 := Aside0.mk H
                            clear H
                            obtain ⟨Ao41, co41, eo41⟩ := Kd.R_slice HO_8.out
                            subst eo41
                            try go_wp2
                            have n0_ := Aside0.mk (Kd.R_drew HO_8.out)
                            have n1_ := Aside0.mk (blk_drew BK199.out)
                            have n2_ := Aside0.mk (below_drew1 HB.out)
                            clear HO_8 BK199 HB
                            have HO_8 := n0_
                            have BK199 := n1_
                            have HB := n2_
                            clear n0_ n1_ n2_
                            have p209 : 0 ≤ (x10_3 : Int) := of_decide_eq_true (by first | (with_reducible assumption) | assumption)
                            have q209 : x10_3 < (t205.length : Int) := of_decide_eq_true (by first | (with_reducible assumption) | assumption)
                            obtain ⟨ad209, e209, hx209_0, hx209_1⟩ := at_T34 (Kd.R_reads' HO_8.out).2.2 x10_3 p209 q209
                            cases e209
                            replace p209 := eq_true p209
                            replace q209 := eq_true q209
                            refine start_ (n := 11) (S := fun w' => w'.cell? ⟨gb199, 0, none⟩ = some (.int .u8 a0_0) ∧ w'.cell? ⟨gb199, 1, none⟩ = some (.int .i64 a0_1) ∧ w'.cell? ⟨gb199, 2, none⟩ = some (.int .i64 a0_2) ∧ w'.cell? (ad209.add ((x10_3).toNat * 2)) = some (.int .i64 ((rd_T34 t205 x10_3).f0)) ∧ w'.cell? ⟨(ad209.add ((x10_3).toNat * 2)).block, (ad209.add ((x10_3).toNat * 2)).off + 1, none⟩ = some (.int .i64 ((rd_T34 t205 x10_3).f1))) (ds := []) (pfx_ 11 0) (by kernel_rfl) rfl rfl ⟨(blk_cell BK199.out 0).trans rfl, (blk_cell BK199.out 1).trans rfl, (blk_cell BK199.out 2).trans rfl, hx209_0, hx209_1⟩ (fun hHeld => ?_); refine with_tabW tailwaterlaw19_PanesParts.tab11 tailwaterlaw19_PanesParts.bits11 (fun HT_ HW_ => ?_)
                            generalize wr.drew = w42 at HO_8 BK199 HB hx209_0 hx209_1 hHeld ⊢
                            refine pure_ (i := 1) (N := some 61) (v := ?_) (a' := ?_) (bm_ 11 2) rfl rfl (any_of HT_.out (by kernel_rfl)) (fun _ _ _ h => h) (Or.inl ⟨by rfl, ?_⟩) ?_ ?_
                            rotate_left
                            · intro w'
                              go_simp
                              with_reducible rfl
                            rotate_left
                            · simp only [Act.put, List.setIfInBounds_toArray, List.set_cons_zero, List.set_cons_succ, i64_w, i32_w]
                              rfl
                            refine pure_ (i := 2) (N := some 62) (v := ?_) (a' := ?_) (bm_ 11 6) rfl rfl (any_of HT_.out (by kernel_rfl)) (fun _ _ _ h => h) (Or.inl ⟨by rfl, ?_⟩) ?_ ?_
                            rotate_left
                            · intro w'
                              go_simp
                              with_reducible rfl
                            rotate_left
                            · simp only [Act.put, List.setIfInBounds_toArray, List.set_cons_zero, List.set_cons_succ, i64_w, i32_w]
                              rfl
                            refine pure_ (i := 3) (N := some 63) (v := ?_) (a' := ?_) (bm_ 11 14) rfl rfl (any_of HT_.out (by kernel_rfl)) (fun _ _ _ h => h) (Or.inl ⟨by rfl, ?_⟩) ?_ ?_
                            rotate_left
                            · intro w'
                              go_simp
                              with_reducible rfl
                            rotate_left
                            · simp only [Act.put, List.setIfInBounds_toArray, List.set_cons_zero, List.set_cons_succ, i64_w, i32_w]
                              rfl
                            refine take_ (i := 0) (N := some 60) (v := ?_) (a' := ?_) (pfx_ 11 4) rfl rfl (take_ofW HT_.out HW_.out (by kernel_rfl)) (fun _ _ _ h => h) (Or.inl ⟨by rfl, ?_⟩) hHeld ?_ ?_
                            rotate_left
                            · rintro w' ⟨s0, s1, s2, s3, s4⟩
                              go_simp
                              with_reducible rfl
                            rotate_left
                            · simp only [Act.put, List.setIfInBounds_toArray, List.set_cons_zero, List.set_cons_succ, i64_w, i32_w]
                              rfl
                            refine take_ (i := 4) (N := some 64) (v := ?_) (a' := ?_) (pfx_ 11 5) rfl rfl (take_ofW HT_.out HW_.out (by kernel_rfl)) (fun _ _ _ h => h) (Or.inl ⟨by rfl, ?_⟩) hHeld ?_ ?_
                            rotate_left
                            · rintro w' ⟨s0, s1, s2, s3, s4⟩
                              go_simp
                              with_reducible rfl
                            rotate_left
                            · simp only [Act.put, List.setIfInBounds_toArray, List.set_cons_zero, List.set_cons_succ, i64_w, i32_w]
                              rfl
                            refine one_ (i := 5) (N := some 65) (pfx_ 11 6) rfl rfl (one_of HT_.out (by kernel_rfl)) (by decide) (fun K hK => ?_)
                            refine goes_ Try.func36 (by kernel_rfl) rfl #[.agg #[.int .u8 a0_0, .int .i64 a0_1, .int .i64 a0_2], .agg #[.int .i64 ((rd_T34 t205 x10_3).f0), .int .i64 ((rd_T34 t205 x10_3).f1)]] (by rfl) rfl rfl (by (try simp only [List.map_toArray, List.map_cons, List.map_nil]); first | done | rfl | (simp only [List.length_drop, List.length_take]; rfl)) ?_
                            with_reducible refine (panes_Parts.calls k3 a0_0 a0_1 a0_2 ((rd_T34 t205 x10_3).f0) ((rd_T34 t205 x10_3).f1) t210 t213 _ A30.out).mono ?_
                            rintro e w43 ⟨v211, rfl, ho0, hb⟩
                            have HS3_ := (hb.cell (World.block_lt_of_cell? _ _ (hHeld.2.2.2.1))).trans (hHeld.2.2.2.1)
                            have HS4_ := (hb.cell (World.block_lt_of_cell? _ _ (hHeld.2.2.2.2))).trans (hHeld.2.2.2.2)
                            refine ⟨_, rfl, ?_⟩
                            have n0_ := Aside0.mk (Kd.R_elder' (by (with_reducible repeat (first | apply Kd.R_alloc | apply Kd.R_drewN | apply Kd.R_drew)); exact HO_8.out) (Kd.R_base ho0) hb)
                            have n1_ := Aside0.mk (Kd.R_lower (Kd.R_new' ho0 (Kd.R_lt (by (with_reducible repeat (first | apply Kd.R_alloc | apply Kd.R_drewN | apply Kd.R_drew)); exact HO_8.out))) (below_size (by repeat (first | (with_reducible first | exact HB.out | apply below_alloc | apply pw_below_drewN | apply below_drew1 | refine below_set ?_ GE199.out) | exact HB.out))))
                            have n2_ := Aside0.mk (blk_below (by (with_reducible repeat (first | apply blk_drewN | apply blk_drew | apply blk_alloc)); exact BK199.out) hb)
                            have n3_ := Aside0.mk (below_step (by repeat (first | (with_reducible first | exact HB.out | apply below_alloc | apply pw_below_drewN | apply below_drew1 | refine below_set ?_ GE199.out) | exact HB.out)) hb)
                            clear HO_8 BK199 HB
                            have HO_8 := n0_
                            have HO212 := n1_
                            have BK199 := n2_
                            have HB := n3_
                            clear n0_ n1_ n2_ n3_
                            (try clear hb)
                            (try clear hb2)
                            (try clear hk)
                            (try clear hi)
                            (try clear ho0)
                            refine hK.out _ _ ⟨(blk_cell BK199.out 0).trans rfl, (blk_cell BK199.out 1).trans rfl, (blk_cell BK199.out 2).trans rfl, HS3_, HS4_⟩ (fun hHeld => ?_)
                            clear hK K
                            refine norm_ (a' := ?_) ?_ ?_
                            rotate_left
                            · show Act.put _ (some 65) _ = _
                              simp only [Act.put, List.setIfInBounds_toArray, List.set_cons_zero, List.set_cons_succ, i64_w, i32_w]
                              rfl
                            iterate 5 (refine pv_ (v := ?_) (a' := ?_) HT_.out rfl rfl (by kernel_rfl) (fun _ _ _ h => h) (Or.inl ⟨by rfl, ?_⟩) ?_ ?_; rotate_left; (focus (intro w'; go_simp; with_reducible rfl)); rotate_left; (focus (show Act.put _ (some _) _ = _; simp only [Act.put, List.setIfInBounds_toArray, List.set_cons_zero, List.set_cons_succ, i64_w, i32_w]; rfl)))
                            refine done_ (done_of HT_.out (by kernel_rfl)) ?_
                            have p214 : 0 ≤ (x10_3 : Int) := of_decide_eq_true (by first | (with_reducible assumption) | assumption)
                            have q214 : x10_3 < (t205.length : Int) := of_decide_eq_true (by first | (with_reducible assumption) | assumption)
                            obtain ⟨ad214, e214, hx214_0, hx214_1⟩ := at_T34 (Kd.R_reads' HO_8.out).2.2 x10_3 p214 q214
                            obtain rfl : ad209 = ad214 := (by injection e214)
                            replace p214 := eq_true p214
                            replace q214 := eq_true q214
                            go_upto_region 18 with (first | ((with_reducible refine gate_callee (f := 32) rfl ?_); refine goesL_ (some 73) rfl rfl Try.func32 (by kernel_rfl) rfl #[.int .i64 ((rd_T34 t205 x10_3).f0), .int .i64 1] rfl (by (try simp only [List.map_toArray, List.map_cons, List.map_nil]); first | done | rfl | (simp only [List.length_drop, List.length_take]; rfl)) ?_; (with_reducible refine (tailwaterref13_Check.calls k3 ((rd_T34 t205 x10_3).f0) 1 t215 _ A31.out).mono ?_); rintro e w' ⟨rfl, ⟨nd, rfl⟩⟩; refine ⟨_, rfl, ?_⟩; obtain ⟨hcz44_0, hcz44_1, hcz44_2⟩ := blkc3 BK199.out; obtain ⟨hfz44_0, hfz44_1, hfz44_2⟩ := blkf3 BK199.out))
                            (try simp only [Act.put, List.setIfInBounds_toArray, List.set_cons_zero, List.set_cons_succ])
                            go_cut [94] (fun v94 wc => ∃ (kq : Nat) (x94_39 : Bool), v94 = .bool x94_39 ∧ Aside0 (tailwaterlaw19_PanesParts.j3 kq t200 t203 t205 x10_3 t210 x94_39 a0_0 a0_1 a0_2 = some r) ∧ Aside0 (kq ≤ k3) ∧ Aside0 (Kd.R k34 34 wc w.heap.size (fun k_ => some k_ ≠ (v211 : Value).ownBlock) (.slice (some ad209) t205.length co41) t205) ∧ Aside0 (Kd.R k34 34 wc w.heap.size (fun k_ => some k_ ≠ ((.slice (some ad209) t205.length co41) : Value).ownBlock) v211 t210) ∧ Aside0 (wc.heap[gb199]? = some (.cells #[.int .u8 a0_0, .int .i64 a0_1, .int .i64 a0_2] 24 (0, 0))) ∧ Aside0 (Below w.heap.size w wc))
                            case first =>
                              have H := HC40.out
                              clear HC40
                              by_cases c45 : t213 = 0
                              · rw [if_pos c45] at H
                                have c45b0 : (t213 == 0) = true := beq_iff_eq.mpr c45
                                have c45b1 : (t213 != 0) = false := bne_eq_false_iff_eq.mpr c45
                                clear c45
                                (first | rw [c45b0] | (simp only [i64_w, i32_w]; rw [c45b0]) | skip)
                                have H' := Aside0.mk H
                                clear H
                                obtain ⟨Ao46, co46, eo46⟩ := Kd.R_slice HO212.out
                                subst eo46
                                obtain ⟨hcz47_0, hcz47_1, hcz47_2⟩ := blkc3 BK199.out
                                obtain ⟨hfz47_0, hfz47_1, hfz47_2⟩ := blkf3 BK199.out
                                go_wp2
                                go_meet
                                case rel => exact ⟨_, (((t210.length : Int) != (wrap64 (Int.tdiv a0_1 t203)))), (by first | rfl | (simp; done) | (simp [*]; done)), H', ⟨by have := HJ3.out; have := HJ19.out; have := HK3.out; first | omega | exact Nat.le_refl _⟩, ⟨by (with_reducible repeat (first | apply Kd.R_alloc | apply Kd.R_drewN | apply Kd.R_drew)); exact Kd.R_mono HO_8.out (fun _ hk => hk.2)⟩, ⟨by (with_reducible repeat (first | apply Kd.R_alloc | apply Kd.R_drewN | apply Kd.R_drew)); exact Kd.R_mono HO212.out (fun _ hk => hk.2)⟩, ⟨by (with_reducible repeat (first | refine blk_drewN ?_ _ | refine blk_drew ?_ | refine blk_alloc ?_ _)); exact BK199.out⟩, ⟨by repeat (first | (with_reducible first | exact HB.out | apply below_alloc | apply pw_below_drewN | apply below_drew1 | refine below_set ?_ GE199.out) | exact HB.out)⟩⟩
                              · rw [if_neg c45] at H
                                have c45b0 : (t213 == 0) = false := beq_eq_false_iff_ne.mpr c45
                                have c45b1 : (t213 != 0) = true := bne_iff_ne.mpr c45
                                (first | rw [c45b0] | (simp only [i64_w, i32_w]; rw [c45b0]) | skip)
                                have H' := Aside0.mk H
                                clear H
                                go_wp2
                                go_meet
                                case rel => exact ⟨_, (true), (by first | rfl | (simp; done) | (simp [*]; done)), H', ⟨by have := HJ3.out; have := HJ19.out; have := HK3.out; first | omega | exact Nat.le_refl _⟩, ⟨by (with_reducible repeat (first | apply Kd.R_alloc | apply Kd.R_drewN | apply Kd.R_drew)); exact Kd.R_mono HO_8.out (fun _ hk => hk.2)⟩, ⟨by (with_reducible repeat (first | apply Kd.R_alloc | apply Kd.R_drewN | apply Kd.R_drew)); exact Kd.R_mono HO212.out (fun _ hk => hk.2)⟩, ⟨by (with_reducible repeat (first | refine blk_drewN ?_ _ | refine blk_drew ?_ | refine blk_alloc ?_ _)); exact BK199.out⟩, ⟨by repeat (first | (with_reducible first | exact HB.out | apply below_alloc | apply pw_below_drewN | apply below_drew1 | refine below_set ?_ GE199.out) | exact HB.out)⟩⟩
                            case rest =>
                              clear HC40
                              try clear c17
                              try clear c27
                              try clear c28
                              try clear c28b0
                              try clear c29
                              try clear c29b0
                              try clear c32
                              try clear c32b0
                              try clear c32b1
                              try clear c33
                              try clear c33b0
                              try clear c33b1
                              try clear c34
                              try clear c34b0
                              try clear hcz21_0
                              try clear hcz21_1
                              try clear hcz21_2
                              try clear hcz23_0
                              try clear hcz23_1
                              try clear hcz23_2
                              try clear hcz44_0
                              try clear hcz44_1
                              try clear hcz44_2
                              try clear hfz21_0
                              try clear hfz21_1
                              try clear hfz21_2
                              try clear hfz23_0
                              try clear hfz23_1
                              try clear hfz23_2
                              try clear hfz44_0
                              try clear hfz44_1
                              try clear hfz44_2
                              try clear hx209_0
                              try clear hx209_1
                              try clear hx214_0
                              try clear hx214_1
                              try clear p209
                              try clear p214
                              try clear q209
                              try clear q214
                              obtain ⟨kq, x94_39, rfl, HA, HJ39, HO_8, HO_11, BK199, HB⟩ := hcut
                              cases kq with
                              | zero => exact absurd HA.out (by simp [tailwaterlaw19_PanesParts.j3])
                              | succ kj39 =>
                                have H := HA.out
                                clear HA
                                simp only [tailwaterlaw19_PanesParts.j3] at H
                                by_cases c48 : x94_39 = true
                                · subst c48
                                  have H1 : (some false) = some r := by rw [if_pos rfl] at H; exact H
                                  clear H
                                  have H := H1
                                  clear H1
                                  exact absurd ((Option.some.inj H).trans hR_) (by decide)
                                · replace c48 := Bool.eq_false_iff.mpr c48
                                  subst c48
                                  have H1 : (if 0 ≤ x10_3 then (if x10_3 < (t205.length : Int) then (tailwaterlaw19_PanesParts.l1 kj39 t200 t203 t205 x10_3 t210 ((rd_T34 t205 x10_3).f0) 0 a0_0 a0_1 a0_2) else (none)) else (none)) = some r := by rw [if_neg (show ¬ (false = true) by decide)] at H; exact H
                                  clear H
                                  have H := H1
                                  clear H1
                                  by_cases c49 : 0 ≤ x10_3
                                  · rw [if_pos c49] at H
                                    have c49b0 : decide (0 ≤ x10_3) = true := decide_eq_true c49
                                    clear c49
                                    by_cases c50 : x10_3 < (t205.length : Int)
                                    · rw [if_pos c50] at H
                                      have c50b0 : decide (x10_3 < (t205.length : Int)) = true := decide_eq_true c50
                                      clear c50
                                      have H' := Aside0.mk H
                                      clear H
                                      have p216 : 0 ≤ (x10_3 : Int) := of_decide_eq_true (by first | (with_reducible assumption) | assumption)
                                      have q216 : x10_3 < (t205.length : Int) := of_decide_eq_true (by first | (with_reducible assumption) | assumption)
                                      obtain ⟨ad216, e216, hx216_0, hx216_1⟩ := at_T34 (Kd.R_reads' HO_8.out).2.2 x10_3 p216 q216
                                      obtain rfl : ad209 = ad216 := (by injection e216)
                                      replace p216 := eq_true p216
                                      replace q216 := eq_true q216
                                      go_wp2
                                      go_loopg [13, 14] kj39 (fun kq v13 v14 w' => ∃ (x13_5 : Int) (x14_5 : Int), v13 = .int .i64 x13_5 ∧ v14 = .int .i64 x14_5 ∧ Aside0 (tailwaterlaw19_PanesParts.l1 kq t200 t203 t205 x10_3 t210 x13_5 x14_5 a0_0 a0_1 a0_2 = some r) ∧ Aside0 (kq ≤ kj39) ∧ Aside0 (Kd.R k34 34 w' w.heap.size (fun k_ => some k_ ≠ (v211 : Value).ownBlock) (.slice (some ad209) t205.length co41) t205) ∧ Aside0 (Kd.R k34 34 w' w.heap.size (fun k_ => some k_ ≠ ((.slice (some ad209) t205.length co41) : Value).ownBlock) v211 t210) ∧ Aside0 (w'.heap[gb199]? = some (.cells #[.int .u8 a0_0, .int .i64 a0_1, .int .i64 a0_2] 24 (0, 0))) ∧ Aside0 (Below w.heap.size w w'))
                                      case atStart => exact ⟨((rd_T34 t205 x10_3).f0), (0), (by first | rfl | (simp; done) | (simp [*]; done)), (by first | rfl | (simp; done) | (simp [*]; done)), H', ⟨Nat.le_refl _⟩, ⟨by (with_reducible repeat (first | apply Kd.R_alloc | apply Kd.R_drewN | apply Kd.R_drew)); exact HO_8.out⟩, ⟨by (with_reducible repeat (first | apply Kd.R_alloc | apply Kd.R_drewN | apply Kd.R_drew)); exact HO_11.out⟩, ⟨by (with_reducible repeat (first | refine blk_drewN ?_ _ | refine blk_drew ?_ | refine blk_alloc ?_ _)); exact BK199.out⟩, ⟨by repeat (first | (with_reducible first | exact HB.out | apply below_alloc | apply pw_below_drewN | apply below_drew1 | refine below_set ?_ GE199.out) | exact HB.out)⟩⟩
                                      case round =>
                                        clear H'
                                        try clear c17
                                        try clear c27
                                        try clear c28
                                        try clear c28b0
                                        try clear c29
                                        try clear c29b0
                                        try clear c32
                                        try clear c32b0
                                        try clear c32b1
                                        try clear c33
                                        try clear c33b0
                                        try clear c33b1
                                        try clear c34
                                        try clear c34b0
                                        try clear c48
                                        try clear c49
                                        try clear c49b0
                                        try clear c50
                                        try clear c50b0
                                        try clear hcz21_0
                                        try clear hcz21_1
                                        try clear hcz21_2
                                        try clear hcz23_0
                                        try clear hcz23_1
                                        try clear hcz23_2
                                        try clear hcz44_0
                                        try clear hcz44_1
                                        try clear hcz44_2
                                        try clear hfz21_0
                                        try clear hfz21_1
                                        try clear hfz21_2
                                        try clear hfz23_0
                                        try clear hfz23_1
                                        try clear hfz23_2
                                        try clear hfz44_0
                                        try clear hfz44_1
                                        try clear hfz44_2
                                        try clear hx209_0
                                        try clear hx209_1
                                        try clear hx214_0
                                        try clear hx214_1
                                        try clear hx216_0
                                        try clear hx216_1
                                        try clear p209
                                        try clear p214
                                        try clear p216
                                        try clear q209
                                        try clear q214
                                        try clear q216
                                        obtain ⟨x13_5, x14_5, rfl, rfl, HA, HK5, HO_8, HO_11, BK199, HB⟩ := hrel
                                        cases gk with
                                        | zero => exact absurd HA.out (by simp [tailwaterlaw19_PanesParts.l1])
                                        | succ k5 =>
                                          have H := HA.out
                                          clear HA
                                          simp only [tailwaterlaw19_PanesParts.l1] at H
                                          by_cases c51 : x14_5 < (t210.length : Int)
                                          · rw [if_pos c51] at H
                                            have c51b0 : decide (x14_5 < (t210.length : Int)) = true := decide_eq_true c51
                                            clear c51
                                            by_cases c52 : 0 ≤ x14_5
                                            · rw [if_pos c52] at H
                                              have c52b0 : decide (0 ≤ x14_5) = true := decide_eq_true c52
                                              clear c52
                                              by_cases c53 : (!(((rd_T34 t210 x14_5).f0) == x13_5) || (!(((rd_T34 t210 x14_5).f1) == (wrap64 (x13_5 + t203))))) = true
                                              · rw [if_pos c53] at H
                                                have c53b0 : (!(((rd_T34 t210 x14_5).f0) == x13_5) || (!(((rd_T34 t210 x14_5).f1) == (wrap64 (x13_5 + t203))))) = true := c53
                                                clear c53
                                                exact absurd ((Option.some.inj H).trans hR_) (by decide)
                                              · rw [if_neg c53] at H
                                                have c53b0 : (!(((rd_T34 t210 x14_5).f0) == x13_5) || (!(((rd_T34 t210 x14_5).f1) == (wrap64 (x13_5 + t203))))) = false := by simpa using c53
                                                clear c53
                                                have H' := Aside0.mk H
                                                clear H
                                                obtain ⟨Ao54, co54, eo54⟩ := Kd.R_slice HO_11.out
                                                subst eo54
                                                have p217 : 0 ≤ (x14_5 : Int) := of_decide_eq_true (by first | (with_reducible assumption) | assumption)
                                                have q217 : x14_5 < (t210.length : Int) := of_decide_eq_true (by first | (with_reducible assumption) | assumption)
                                                obtain ⟨ad217, e217, hx217_0, hx217_1⟩ := at_T34 (Kd.R_reads' HO_11.out).2.2 x14_5 p217 q217
                                                cases e217
                                                replace p217 := eq_true p217
                                                replace q217 := eq_true q217
                                                go_wp2
                                                go_roundg k5
                                                case measure => have := HJ3.out; have := HJ19.out; have := HK3.out; have := HJ39.out; have := HK5.out; omega
                                                case rel => exact ⟨(wrap64 (x13_5 + t203)), (wrap64 (x14_5 + 1)), (by first | rfl | (simp; done) | (simp [*]; done)), (by first | rfl | (simp; done) | (simp [*]; done)), H', ⟨by have := HJ3.out; have := HJ19.out; have := HK3.out; have := HJ39.out; have := HK5.out; omega⟩, ⟨by (with_reducible repeat (first | apply Kd.R_alloc | apply Kd.R_drewN | apply Kd.R_drew)); exact HO_8.out⟩, ⟨by (with_reducible repeat (first | apply Kd.R_alloc | apply Kd.R_drewN | apply Kd.R_drew)); exact HO_11.out⟩, ⟨by (with_reducible repeat (first | refine blk_drewN ?_ _ | refine blk_drew ?_ | refine blk_alloc ?_ _)); exact BK199.out⟩, ⟨by repeat (first | (with_reducible first | exact HB.out | apply below_alloc | apply pw_below_drewN | apply below_drew1 | refine below_set ?_ GE199.out) | exact HB.out)⟩⟩
                                            · rw [if_neg c52] at H
                                              exact absurd H (by simp)
                                          · rw [if_neg c51] at H
                                            have c51b0 : decide (x14_5 < (t210.length : Int)) = false := decide_eq_false c51
                                            clear c51
                                            by_cases c55 : 0 ≤ x10_3
                                            · rw [if_pos c55] at H
                                              have c55b0 : decide (0 ≤ x10_3) = true := decide_eq_true c55
                                              clear c55
                                              by_cases c56 : x10_3 < (t205.length : Int)
                                              · rw [if_pos c56] at H
                                                have c56b0 : decide (x10_3 < (t205.length : Int)) = true := decide_eq_true c56
                                                clear c56
                                                by_cases c57 : x13_5 = ((rd_T34 t205 x10_3).f1)
                                                · rw [if_pos c57] at H
                                                  have c57b0 : (x13_5 == ((rd_T34 t205 x10_3).f1)) = true := beq_iff_eq.mpr c57
                                                  have c57b1 : (x13_5 != ((rd_T34 t205 x10_3).f1)) = false := bne_eq_false_iff_eq.mpr c57
                                                  clear c57
                                                  have H' := Aside0.mk H
                                                  clear H
                                                  obtain ⟨Ao58, co58, eo58⟩ := Kd.R_slice HO_11.out
                                                  subst eo58
                                                  have p218 : 0 ≤ (x10_3 : Int) := of_decide_eq_true (by first | (with_reducible assumption) | assumption)
                                                  have q218 : x10_3 < (t205.length : Int) := of_decide_eq_true (by first | (with_reducible assumption) | assumption)
                                                  obtain ⟨ad218, e218, hx218_0, hx218_1⟩ := at_T34 (Kd.R_reads' HO_8.out).2.2 x10_3 p218 q218
                                                  obtain rfl : ad209 = ad218 := (by injection e218)
                                                  replace p218 := eq_true p218
                                                  replace q218 := eq_true q218
                                                  go_wp2
                                                  go_roundg k5
                                                  case measure => have := HJ3.out; have := HJ19.out; have := HK3.out; have := HJ39.out; have := HK5.out; omega
                                                  case rel => exact ⟨(wrap64 (x10_3 + 1)), (by first | rfl | (simp; done) | (simp [*]; done)), H', ⟨by have := HJ3.out; have := HJ19.out; have := HK3.out; have := HJ39.out; have := HK5.out; omega⟩, ⟨by (with_reducible repeat (first | apply Kd.R_alloc | apply Kd.R_drewN | apply Kd.R_drew)); exact Kd.R_mono HO_8.out (fun _ hk => trivial)⟩, ⟨by (with_reducible repeat (first | refine blk_drewN ?_ _ | refine blk_drew ?_ | refine blk_alloc ?_ _)); exact BK199.out⟩, ⟨by repeat (first | (with_reducible first | exact HB.out | apply below_alloc | apply pw_below_drewN | apply below_drew1 | refine below_set ?_ GE199.out) | exact HB.out)⟩⟩
                                                · rw [if_neg c57] at H
                                                  have c57b0 : (x13_5 == ((rd_T34 t205 x10_3).f1)) = false := beq_eq_false_iff_ne.mpr c57
                                                  have c57b1 : (x13_5 != ((rd_T34 t205 x10_3).f1)) = true := bne_iff_ne.mpr c57
                                                  exact absurd ((Option.some.inj H).trans hR_) (by decide)
                                              · rw [if_neg c56] at H
                                                exact absurd H (by simp)
                                            · rw [if_neg c55] at H
                                              exact absurd H (by simp)
                                    · rw [if_neg c50] at H
                                      exact absurd H (by simp)
                                  · rw [if_neg c49] at H
                                    exact absurd H (by simp)
                      · rw [if_neg c32] at H
                        have c32b0 : (t215 == 0) = false := beq_eq_false_iff_ne.mpr c32
                        have c32b1 : (t215 != 0) = true := bne_iff_ne.mpr c32
                        by_cases c59 : t213 = 2
                        · rw [if_pos c59] at H
                          have c59b0 : (t213 == 2) = true := beq_iff_eq.mpr c59
                          have c59b1 : (t213 != 2) = false := bne_eq_false_iff_eq.mpr c59
                          clear c59
                          have H' := Aside0.mk H
                          clear H
                          obtain ⟨Ao60, co60, eo60⟩ := Kd.R_slice HO_8.out
                          subst eo60
                          try go_wp2
                          have n0_ := Aside0.mk (Kd.R_drew HO_8.out)
                          have n1_ := Aside0.mk (blk_drew BK199.out)
                          have n2_ := Aside0.mk (below_drew1 HB.out)
                          clear HO_8 BK199 HB
                          have HO_8 := n0_
                          have BK199 := n1_
                          have HB := n2_
                          clear n0_ n1_ n2_
                          have p209 : 0 ≤ (x10_3 : Int) := of_decide_eq_true (by first | (with_reducible assumption) | assumption)
                          have q209 : x10_3 < (t205.length : Int) := of_decide_eq_true (by first | (with_reducible assumption) | assumption)
                          obtain ⟨ad209, e209, hx209_0, hx209_1⟩ := at_T34 (Kd.R_reads' HO_8.out).2.2 x10_3 p209 q209
                          cases e209
                          replace p209 := eq_true p209
                          replace q209 := eq_true q209
                          refine start_ (n := 11) (S := fun w' => w'.cell? ⟨gb199, 0, none⟩ = some (.int .u8 a0_0) ∧ w'.cell? ⟨gb199, 1, none⟩ = some (.int .i64 a0_1) ∧ w'.cell? ⟨gb199, 2, none⟩ = some (.int .i64 a0_2) ∧ w'.cell? (ad209.add ((x10_3).toNat * 2)) = some (.int .i64 ((rd_T34 t205 x10_3).f0)) ∧ w'.cell? ⟨(ad209.add ((x10_3).toNat * 2)).block, (ad209.add ((x10_3).toNat * 2)).off + 1, none⟩ = some (.int .i64 ((rd_T34 t205 x10_3).f1))) (ds := []) (pfx_ 11 0) (by kernel_rfl) rfl rfl ⟨(blk_cell BK199.out 0).trans rfl, (blk_cell BK199.out 1).trans rfl, (blk_cell BK199.out 2).trans rfl, hx209_0, hx209_1⟩ (fun hHeld => ?_); refine with_tabW tailwaterlaw19_PanesParts.tab11 tailwaterlaw19_PanesParts.bits11 (fun HT_ HW_ => ?_)
                          generalize wr.drew = w61 at HO_8 BK199 HB hx209_0 hx209_1 hHeld ⊢
                          refine pure_ (i := 1) (N := some 61) (v := ?_) (a' := ?_) (bm_ 11 2) rfl rfl (any_of HT_.out (by kernel_rfl)) (fun _ _ _ h => h) (Or.inl ⟨by rfl, ?_⟩) ?_ ?_
                          rotate_left
                          · intro w'
                            go_simp
                            with_reducible rfl
                          rotate_left
                          · simp only [Act.put, List.setIfInBounds_toArray, List.set_cons_zero, List.set_cons_succ, i64_w, i32_w]
                            rfl
                          refine pure_ (i := 2) (N := some 62) (v := ?_) (a' := ?_) (bm_ 11 6) rfl rfl (any_of HT_.out (by kernel_rfl)) (fun _ _ _ h => h) (Or.inl ⟨by rfl, ?_⟩) ?_ ?_
                          rotate_left
                          · intro w'
                            go_simp
                            with_reducible rfl
                          rotate_left
                          · simp only [Act.put, List.setIfInBounds_toArray, List.set_cons_zero, List.set_cons_succ, i64_w, i32_w]
                            rfl
                          refine pure_ (i := 3) (N := some 63) (v := ?_) (a' := ?_) (bm_ 11 14) rfl rfl (any_of HT_.out (by kernel_rfl)) (fun _ _ _ h => h) (Or.inl ⟨by rfl, ?_⟩) ?_ ?_
                          rotate_left
                          · intro w'
                            go_simp
                            with_reducible rfl
                          rotate_left
                          · simp only [Act.put, List.setIfInBounds_toArray, List.set_cons_zero, List.set_cons_succ, i64_w, i32_w]
                            rfl
                          refine take_ (i := 0) (N := some 60) (v := ?_) (a' := ?_) (pfx_ 11 4) rfl rfl (take_ofW HT_.out HW_.out (by kernel_rfl)) (fun _ _ _ h => h) (Or.inl ⟨by rfl, ?_⟩) hHeld ?_ ?_
                          rotate_left
                          · rintro w' ⟨s0, s1, s2, s3, s4⟩
                            go_simp
                            with_reducible rfl
                          rotate_left
                          · simp only [Act.put, List.setIfInBounds_toArray, List.set_cons_zero, List.set_cons_succ, i64_w, i32_w]
                            rfl
                          refine take_ (i := 4) (N := some 64) (v := ?_) (a' := ?_) (pfx_ 11 5) rfl rfl (take_ofW HT_.out HW_.out (by kernel_rfl)) (fun _ _ _ h => h) (Or.inl ⟨by rfl, ?_⟩) hHeld ?_ ?_
                          rotate_left
                          · rintro w' ⟨s0, s1, s2, s3, s4⟩
                            go_simp
                            with_reducible rfl
                          rotate_left
                          · simp only [Act.put, List.setIfInBounds_toArray, List.set_cons_zero, List.set_cons_succ, i64_w, i32_w]
                            rfl
                          refine one_ (i := 5) (N := some 65) (pfx_ 11 6) rfl rfl (one_of HT_.out (by kernel_rfl)) (by decide) (fun K hK => ?_)
                          refine goes_ Try.func36 (by kernel_rfl) rfl #[.agg #[.int .u8 a0_0, .int .i64 a0_1, .int .i64 a0_2], .agg #[.int .i64 ((rd_T34 t205 x10_3).f0), .int .i64 ((rd_T34 t205 x10_3).f1)]] (by rfl) rfl rfl (by (try simp only [List.map_toArray, List.map_cons, List.map_nil]); first | done | rfl | (simp only [List.length_drop, List.length_take]; rfl)) ?_
                          with_reducible refine (panes_Parts.calls k3 a0_0 a0_1 a0_2 ((rd_T34 t205 x10_3).f0) ((rd_T34 t205 x10_3).f1) t210 t213 _ A30.out).mono ?_
                          rintro e w62 ⟨v211, rfl, ho0, hb⟩
                          have HS3_ := (hb.cell (World.block_lt_of_cell? _ _ (hHeld.2.2.2.1))).trans (hHeld.2.2.2.1)
                          have HS4_ := (hb.cell (World.block_lt_of_cell? _ _ (hHeld.2.2.2.2))).trans (hHeld.2.2.2.2)
                          refine ⟨_, rfl, ?_⟩
                          have n0_ := Aside0.mk (Kd.R_elder' (by (with_reducible repeat (first | apply Kd.R_alloc | apply Kd.R_drewN | apply Kd.R_drew)); exact HO_8.out) (Kd.R_base ho0) hb)
                          have n1_ := Aside0.mk (blk_below (by (with_reducible repeat (first | apply blk_drewN | apply blk_drew | apply blk_alloc)); exact BK199.out) hb)
                          have n2_ := Aside0.mk (below_step (by repeat (first | (with_reducible first | exact HB.out | apply below_alloc | apply pw_below_drewN | apply below_drew1 | refine below_set ?_ GE199.out) | exact HB.out)) hb)
                          clear HO_8 BK199 HB
                          have HO_8 := n0_
                          have BK199 := n1_
                          have HB := n2_
                          clear n0_ n1_ n2_
                          (try clear hb)
                          (try clear hb2)
                          (try clear hk)
                          (try clear hi)
                          (try clear ho0)
                          refine hK.out _ _ ⟨(blk_cell BK199.out 0).trans rfl, (blk_cell BK199.out 1).trans rfl, (blk_cell BK199.out 2).trans rfl, HS3_, HS4_⟩ (fun hHeld => ?_)
                          clear hK K
                          refine norm_ (a' := ?_) ?_ ?_
                          rotate_left
                          · show Act.put _ (some 65) _ = _
                            simp only [Act.put, List.setIfInBounds_toArray, List.set_cons_zero, List.set_cons_succ, i64_w, i32_w]
                            rfl
                          iterate 5 (refine pv_ (v := ?_) (a' := ?_) HT_.out rfl rfl (by kernel_rfl) (fun _ _ _ h => h) (Or.inl ⟨by rfl, ?_⟩) ?_ ?_; rotate_left; (focus (intro w'; go_simp; with_reducible rfl)); rotate_left; (focus (show Act.put _ (some _) _ = _; simp only [Act.put, List.setIfInBounds_toArray, List.set_cons_zero, List.set_cons_succ, i64_w, i32_w]; rfl)))
                          refine done_ (done_of HT_.out (by kernel_rfl)) ?_
                          have p214 : 0 ≤ (x10_3 : Int) := of_decide_eq_true (by first | (with_reducible assumption) | assumption)
                          have q214 : x10_3 < (t205.length : Int) := of_decide_eq_true (by first | (with_reducible assumption) | assumption)
                          obtain ⟨ad214, e214, hx214_0, hx214_1⟩ := at_T34 (Kd.R_reads' HO_8.out).2.2 x10_3 p214 q214
                          obtain rfl : ad209 = ad214 := (by injection e214)
                          replace p214 := eq_true p214
                          replace q214 := eq_true q214
                          try go_wp2_with (first | ((with_reducible refine gate_callee (f := 32) rfl ?_); refine goesL_ (some 73) rfl rfl Try.func32 (by kernel_rfl) rfl #[.int .i64 ((rd_T34 t205 x10_3).f0), .int .i64 1] rfl (by (try simp only [List.map_toArray, List.map_cons, List.map_nil]); first | done | rfl | (simp only [List.length_drop, List.length_take]; rfl)) ?_; (with_reducible refine (tailwaterref13_Check.calls k3 ((rd_T34 t205 x10_3).f0) 1 t215 _ A31.out).mono ?_); rintro e w' ⟨rfl, ⟨nd, rfl⟩⟩; refine ⟨_, rfl, ?_⟩))
                          go_roundg k3
                          case measure => have := HJ3.out; have := HJ19.out; have := HK3.out; omega
                          case rel => exact ⟨(wrap64 (x10_3 + 1)), (by first | rfl | (simp; done) | (simp [*]; done)), H', ⟨by have := HJ3.out; have := HJ19.out; have := HK3.out; omega⟩, ⟨by (with_reducible repeat (first | apply Kd.R_alloc | apply Kd.R_drewN | apply Kd.R_drew)); exact Kd.R_mono HO_8.out (fun _ hk => trivial)⟩, ⟨by (with_reducible repeat (first | refine blk_drewN ?_ _ | refine blk_drew ?_ | refine blk_alloc ?_ _)); exact BK199.out⟩, ⟨by repeat (first | (with_reducible first | exact HB.out | apply below_alloc | apply pw_below_drewN | apply below_drew1 | refine below_set ?_ GE199.out) | exact HB.out)⟩⟩
                        · rw [if_neg c59] at H
                          have c59b0 : (t213 == 2) = false := beq_eq_false_iff_ne.mpr c59
                          have c59b1 : (t213 != 2) = true := bne_iff_ne.mpr c59
                          exact absurd ((Option.some.inj H).trans hR_) (by decide)
                    · rw [if_neg c29] at H
                      exact absurd H (by simp)
                  · rw [if_neg c28] at H
                    have c28b0 : decide (x10_3 < (t205.length : Int)) = false := decide_eq_false c28
                    clear c28
                    obtain rfl := Option.some.inj H
                    obtain ⟨Ao63, co63, eo63⟩ := Kd.R_slice HO_8.out
                    subst eo63
                    go_wp2
                    go_ret
                    exact ⟨by first | rfl | (simp [errW_none, errW_some] <;> rfl) | (simp [*, errW_none, errW_some] <;> rfl), by repeat (first | (with_reducible first | exact HB.out | apply below_alloc | apply pw_below_drewN | apply below_drew1 | refine below_set ?_ GE199.out) | exact HB.out)⟩

end Go.Proofs.Ytepgpbbeeiebkaa.St
