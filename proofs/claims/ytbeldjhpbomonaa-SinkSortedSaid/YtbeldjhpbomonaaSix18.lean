/- Contracts of functions of the program, each over a plain Lean function of the same answers: written by pdrive.py, a program of this session that drives the kit's printer with some functions given by hand; conditions: as each theorem says. -/
import Derived.Test.YtbeldjhpbomonaaSix0
import Derived.Test.YtbeldjhpbomonaaSix11
import Derived.Test.YtbeldjhpbomonaaSix15
import Derived.Test.YtbeldjhpbomonaaSix17
import Derived.Test.YtbeldjhpbomonaaFar
namespace Go.Proofs.Ytbeldjhpbomonaa.Si
open Go.RowKit Go.Proofs.YtbeldjhpbomonaaFar Go.Proofs.YtbeldjhpbomonaaW.PrintWords Go.Proofs.YtbeldjhpbomonaaW.PrintLast Go.Proofs.YtbeldjhpbomonaaW.PrintMore
attribute [local go_sem] max2_int min2_int max_two min_two max_three min_three max_four min_four   -- for this text's walks alone
set_option linter.unusedVariables false
set_option linter.unusedSimpArgs false

/-! ### tailwaterlaw34_SinkSorted: function 5 -/
mutual
def tailwaterlaw34_SinkSorted.j0 : Nat → List (S38) → List (S38) → Bool → Bool → Option (Bool)
 | 0, _, _, _, _ => none
 | k + 1, x0, x1, x5, x29 => if x29 = true then (some x5) else ((sink_Rows.f x0).bind fun bt341 => ((sink_Rows.f bt341.1).bind fun bt345 => ((sink_Same.f k x0 x1).bind fun bt349 => (if bt341.2 = 0 then (if bt345.2 = 0 then (if bt349.2 = 0 then (if (bt341.1.length : Int) = (x0.length : Int) then ((tailwaterref34_SameRows.f k bt341.1 bt345.1).bind fun t351 => (tailwaterlaw34_SinkSorted.j1 k x0 x1 x5 bt341.1 bt349.1 (!t351))) else (tailwaterlaw34_SinkSorted.j1 k x0 x1 x5 bt341.1 bt349.1 true)) else (tailwaterlaw34_SinkSorted.j1 k x0 x1 x5 bt341.1 bt349.1 true)) else (tailwaterlaw34_SinkSorted.j1 k x0 x1 x5 bt341.1 bt349.1 true)) else (tailwaterlaw34_SinkSorted.j1 k x0 x1 x5 bt341.1 bt349.1 true)))))
def tailwaterlaw34_SinkSorted.j1 : Nat → List (S38) → List (S38) → Bool → List (S38) → Bool → Bool → Option (Bool)
 | 0, _, _, _, _, _, _ => none
 | k + 1, x0, x1, x5, x6, x10, x69 => if x69 = true then (some false) else (tailwaterlaw34_SinkSorted.l0 k x0 x1 x5 x6 x10 ((x0.length : Int) == (x1.length : Int)) 0)
def tailwaterlaw34_SinkSorted.l0 : Nat → List (S38) → List (S38) → Bool → List (S38) → Bool → Bool → Int → Option (Bool)
 | 0, _, _, _, _, _, _, _ => none
 | k + 1, x0, x1, x5, x6, x10, x12, x13 => if x13 < (x0.length : Int) then (if 0 ≤ x13 then ((tailwaterlaw34_often.f k x6 ((rd_T38 x0 x13).f0) ((rd_T38 x0 x13).f1.f0) ((rd_T38 x0 x13).f1.f1) ((rd_T38 x0 x13).f2.f0) ((rd_T38 x0 x13).f2.f1)).bind fun t353 => ((tailwaterlaw34_often.f k x0 ((rd_T38 x0 x13).f0) ((rd_T38 x0 x13).f1.f0) ((rd_T38 x0 x13).f1.f1) ((rd_T38 x0 x13).f2.f0) ((rd_T38 x0 x13).f2.f1)).bind fun t355 => (if t353 = t355 then (if x12 = true then ((tailwaterlaw34_often.f k x0 ((rd_T38 x0 x13).f0) ((rd_T38 x0 x13).f1.f0) ((rd_T38 x0 x13).f1.f1) ((rd_T38 x0 x13).f2.f0) ((rd_T38 x0 x13).f2.f1)).bind fun t357 => ((tailwaterlaw34_often.f k x1 ((rd_T38 x0 x13).f0) ((rd_T38 x0 x13).f1.f0) ((rd_T38 x0 x13).f1.f1) ((rd_T38 x0 x13).f2.f0) ((rd_T38 x0 x13).f2.f1)).bind fun t359 => (tailwaterlaw34_SinkSorted.l0 k x0 x1 x5 x6 x10 (t357 == t359) (wrap64 (x13 + 1))))) else (tailwaterlaw34_SinkSorted.l0 k x0 x1 x5 x6 x10 false (wrap64 (x13 + 1)))) else (some false)))) else (none)) else (tailwaterlaw34_SinkSorted.l1 k x5 x6 x10 x12 1)
def tailwaterlaw34_SinkSorted.l1 : Nat → Bool → List (S38) → Bool → Bool → Int → Option (Bool)
 | 0, _, _, _, _, _ => none
 | k + 1, x5, x6, x10, x12, x14 => if x14 < (x6.length : Int) then (if 0 ≤ (wrap64 (x14 - 1)) then (if (wrap64 (x14 - 1)) < (x6.length : Int) then (if 0 ≤ x14 then (if ((rd_T38 x6 (wrap64 (x14 - 1))).f1.f1) > ((rd_T38 x6 x14).f1.f1) then (some false) else (if ((rd_T38 x6 (wrap64 (x14 - 1))).f1.f1) = ((rd_T38 x6 x14).f1.f1) then (if ((rd_T38 x6 (wrap64 (x14 - 1))).f1.f0) > ((rd_T38 x6 x14).f1.f0) then (some false) else (if ((rd_T38 x6 (wrap64 (x14 - 1))).f1.f0) = ((rd_T38 x6 x14).f1.f0) then (if ((rd_T38 x6 (wrap64 (x14 - 1))).f0) > ((rd_T38 x6 x14).f0) then (some false) else (tailwaterlaw34_SinkSorted.l1 k x5 x6 x10 x12 (wrap64 (x14 + 1)))) else (tailwaterlaw34_SinkSorted.l1 k x5 x6 x10 x12 (wrap64 (x14 + 1))))) else (tailwaterlaw34_SinkSorted.l1 k x5 x6 x10 x12 (wrap64 (x14 + 1))))) else (none)) else (none)) else (none)) else (if x5 = true then (some (x10 == x12)) else (some false))
end
def tailwaterlaw34_SinkSorted.f (k : Nat) (l0 : List (S38)) (l1 : List (S38)) : Option (Bool) := (tailwaterlaw34_alive.f k).bind fun t340 => (if (l0.length : Int) > 60 then (tailwaterlaw34_SinkSorted.j0 k l0 l1 t340 true) else (if (l1.length : Int) > 60 then (tailwaterlaw34_SinkSorted.j0 k l0 l1 t340 true) else (tailwaterlaw34_SinkSorted.j0 k l0 l1 t340 (!t340))))
theorem tailwaterlaw34_SinkSorted.mono_l : ∀ k, (∀ y0 y1 y2 y3, LeO (tailwaterlaw34_SinkSorted.j0 k y0 y1 y2 y3) (tailwaterlaw34_SinkSorted.j0 (k + 1) y0 y1 y2 y3)) ∧ (∀ y0 y1 y2 y3 y4 y5, LeO (tailwaterlaw34_SinkSorted.j1 k y0 y1 y2 y3 y4 y5) (tailwaterlaw34_SinkSorted.j1 (k + 1) y0 y1 y2 y3 y4 y5)) ∧ (∀ y0 y1 y2 y3 y4 y5 y6, LeO (tailwaterlaw34_SinkSorted.l0 k y0 y1 y2 y3 y4 y5 y6) (tailwaterlaw34_SinkSorted.l0 (k + 1) y0 y1 y2 y3 y4 y5 y6)) ∧ (∀ y0 y1 y2 y3 y4, LeO (tailwaterlaw34_SinkSorted.l1 k y0 y1 y2 y3 y4) (tailwaterlaw34_SinkSorted.l1 (k + 1) y0 y1 y2 y3 y4))
 | 0 => ⟨fun _ _ _ _ r h => by simp [tailwaterlaw34_SinkSorted.j0] at h, fun _ _ _ _ _ _ r h => by simp [tailwaterlaw34_SinkSorted.j1] at h, fun _ _ _ _ _ _ _ r h => by simp [tailwaterlaw34_SinkSorted.l0] at h, fun _ _ _ _ _ r h => by simp [tailwaterlaw34_SinkSorted.l1] at h⟩
 | k + 1 => by
  obtain ⟨ih0, ih1, ih2, ih3⟩ := tailwaterlaw34_SinkSorted.mono_l k
  refine ⟨?_, ?_, ?_, ?_⟩
  ·
   intro y0 y1 y2 y3
   unfold tailwaterlaw34_SinkSorted.j0
   repeat' first
   | (with_reducible exact ih0 _ _ _ _)
   | (with_reducible exact ih1 _ _ _ _ _ _)
   | (with_reducible exact ih2 _ _ _ _ _ _ _)
   | (with_reducible exact ih3 _ _ _ _ _)
   | (with_reducible exact sink_Same.mono _ _ _)
   | (with_reducible exact tailwaterlaw34_alive.mono _)
   | (with_reducible exact tailwaterlaw34_often.mono _ _ _ _ _ _ _)
   | (with_reducible exact tailwaterref34_SameRows.mono _ _ _)
   | (with_reducible exact LeO.refl _)
   | (with_reducible exact LeO.none _)
   | (with_reducible refine LeO.ite ?_ ?_)
   | (with_reducible refine LeO.bind ?_ (fun _ => ?_))
   | exact ih0 _ _ _ _
   | exact ih1 _ _ _ _ _ _
   | exact ih2 _ _ _ _ _ _ _
   | exact ih3 _ _ _ _ _
   | exact sink_Same.mono _ _ _
   | exact tailwaterlaw34_alive.mono _
   | exact tailwaterlaw34_often.mono _ _ _ _ _ _ _
   | exact tailwaterref34_SameRows.mono _ _ _
   | exact LeO.none _
   | refine LeO.ite ?_ ?_
   | refine LeO.bind ?_ (fun _ => ?_)
  ·
   intro y0 y1 y2 y3 y4 y5
   unfold tailwaterlaw34_SinkSorted.j1
   repeat' first
   | (with_reducible exact ih0 _ _ _ _)
   | (with_reducible exact ih1 _ _ _ _ _ _)
   | (with_reducible exact ih2 _ _ _ _ _ _ _)
   | (with_reducible exact ih3 _ _ _ _ _)
   | (with_reducible exact sink_Same.mono _ _ _)
   | (with_reducible exact tailwaterlaw34_alive.mono _)
   | (with_reducible exact tailwaterlaw34_often.mono _ _ _ _ _ _ _)
   | (with_reducible exact tailwaterref34_SameRows.mono _ _ _)
   | (with_reducible exact LeO.refl _)
   | (with_reducible exact LeO.none _)
   | (with_reducible refine LeO.ite ?_ ?_)
   | (with_reducible refine LeO.bind ?_ (fun _ => ?_))
   | exact ih0 _ _ _ _
   | exact ih1 _ _ _ _ _ _
   | exact ih2 _ _ _ _ _ _ _
   | exact ih3 _ _ _ _ _
   | exact sink_Same.mono _ _ _
   | exact tailwaterlaw34_alive.mono _
   | exact tailwaterlaw34_often.mono _ _ _ _ _ _ _
   | exact tailwaterref34_SameRows.mono _ _ _
   | exact LeO.none _
   | refine LeO.ite ?_ ?_
   | refine LeO.bind ?_ (fun _ => ?_)
  ·
   intro y0 y1 y2 y3 y4 y5 y6
   unfold tailwaterlaw34_SinkSorted.l0
   repeat' first
   | (with_reducible exact ih0 _ _ _ _)
   | (with_reducible exact ih1 _ _ _ _ _ _)
   | (with_reducible exact ih2 _ _ _ _ _ _ _)
   | (with_reducible exact ih3 _ _ _ _ _)
   | (with_reducible exact sink_Same.mono _ _ _)
   | (with_reducible exact tailwaterlaw34_alive.mono _)
   | (with_reducible exact tailwaterlaw34_often.mono _ _ _ _ _ _ _)
   | (with_reducible exact tailwaterref34_SameRows.mono _ _ _)
   | (with_reducible exact LeO.refl _)
   | (with_reducible exact LeO.none _)
   | (with_reducible refine LeO.ite ?_ ?_)
   | (with_reducible refine LeO.bind ?_ (fun _ => ?_))
   | exact ih0 _ _ _ _
   | exact ih1 _ _ _ _ _ _
   | exact ih2 _ _ _ _ _ _ _
   | exact ih3 _ _ _ _ _
   | exact sink_Same.mono _ _ _
   | exact tailwaterlaw34_alive.mono _
   | exact tailwaterlaw34_often.mono _ _ _ _ _ _ _
   | exact tailwaterref34_SameRows.mono _ _ _
   | exact LeO.none _
   | refine LeO.ite ?_ ?_
   | refine LeO.bind ?_ (fun _ => ?_)
  ·
   intro y0 y1 y2 y3 y4
   unfold tailwaterlaw34_SinkSorted.l1
   repeat' first
   | (with_reducible exact ih0 _ _ _ _)
   | (with_reducible exact ih1 _ _ _ _ _ _)
   | (with_reducible exact ih2 _ _ _ _ _ _ _)
   | (with_reducible exact ih3 _ _ _ _ _)
   | (with_reducible exact sink_Same.mono _ _ _)
   | (with_reducible exact tailwaterlaw34_alive.mono _)
   | (with_reducible exact tailwaterlaw34_often.mono _ _ _ _ _ _ _)
   | (with_reducible exact tailwaterref34_SameRows.mono _ _ _)
   | (with_reducible exact LeO.refl _)
   | (with_reducible exact LeO.none _)
   | (with_reducible refine LeO.ite ?_ ?_)
   | (with_reducible refine LeO.bind ?_ (fun _ => ?_))
   | exact ih0 _ _ _ _
   | exact ih1 _ _ _ _ _ _
   | exact ih2 _ _ _ _ _ _ _
   | exact ih3 _ _ _ _ _
   | exact sink_Same.mono _ _ _
   | exact tailwaterlaw34_alive.mono _
   | exact tailwaterlaw34_often.mono _ _ _ _ _ _ _
   | exact tailwaterref34_SameRows.mono _ _ _
   | exact LeO.none _
   | refine LeO.ite ?_ ?_
   | refine LeO.bind ?_ (fun _ => ?_)
theorem tailwaterlaw34_SinkSorted.mono : ∀ a0 a1 k, LeO (tailwaterlaw34_SinkSorted.f k a0 a1) (tailwaterlaw34_SinkSorted.f (k + 1) a0 a1) := by
 intro a0 a1 k
 obtain ⟨ih0, ih1, ih2, ih3⟩ := tailwaterlaw34_SinkSorted.mono_l k
 unfold tailwaterlaw34_SinkSorted.f
 repeat' first
   | (with_reducible exact ih0 _ _ _ _)
   | (with_reducible exact ih1 _ _ _ _ _ _)
   | (with_reducible exact ih2 _ _ _ _ _ _ _)
   | (with_reducible exact ih3 _ _ _ _ _)
   | (with_reducible exact sink_Same.mono _ _ _)
   | (with_reducible exact tailwaterlaw34_alive.mono _)
   | (with_reducible exact tailwaterlaw34_often.mono _ _ _ _ _ _ _)
   | (with_reducible exact tailwaterref34_SameRows.mono _ _ _)
   | (with_reducible exact LeO.refl _)
   | (with_reducible exact LeO.none _)
   | (with_reducible refine LeO.ite ?_ ?_)
   | (with_reducible refine LeO.bind ?_ (fun _ => ?_))
   | exact ih0 _ _ _ _
   | exact ih1 _ _ _ _ _ _
   | exact ih2 _ _ _ _ _ _ _
   | exact ih3 _ _ _ _ _
   | exact sink_Same.mono _ _ _
   | exact tailwaterlaw34_alive.mono _
   | exact tailwaterlaw34_often.mono _ _ _ _ _ _ _
   | exact tailwaterref34_SameRows.mono _ _ _
   | exact LeO.none _
   | refine LeO.ite ?_ ?_
   | refine LeO.bind ?_ (fun _ => ?_)
def tailwaterlaw34_SinkSorted.T13 : Bool × List (List Nat × List Nat) := (true, [([], []), ([], []), ([], []), ([1, 2], [1, 2]), ([3], [3]), ([0, 4], [0, 4]), ([], []), ([], []), ([], []), ([7, 8], [7, 8]), ([9], [9]), ([6, 10, 5], [6, 10]), ([5, 11], [5, 11])])
def tailwaterlaw34_SinkSorted.B13 : List Nat := [0, 0, 0, 6, 14, 31, 0, 0, 0, 384, 896, 2047, 4095]
theorem tailwaterlaw34_SinkSorted.tab13 : rtab .any (opsOf Try.f5 13) = tailwaterlaw34_SinkSorted.T13 := by kernel_rfl
theorem tailwaterlaw34_SinkSorted.bits13 : waitsOk tailwaterlaw34_SinkSorted.T13.2 tailwaterlaw34_SinkSorted.B13 = true := by kernel_rfl
def tailwaterlaw34_SinkSorted.T15 : Bool × List (List Nat × List Nat) := (true, [([], []), ([0], [0]), ([1], [1]), ([1], [1]), ([1], [1]), ([3, 4, 1], [1, 3, 4]), ([5, 1], [1, 5]), ([2, 6, 1, 1], [1, 2, 6]), ([1], [1]), ([1], [1]), ([1], [1]), ([9, 10, 1], [1, 9, 10]), ([11, 1], [1, 11]), ([8, 12, 7, 1], [1, 8, 12]), ([7, 13, 1], [1, 7, 13]), ([1, 14], [1, 14]), ([15, 13, 0, 1, 2, 3, 4, 5, 6, 7, 8, 9, 10, 11, 12, 13, 14, 15], [0, 15])])
def tailwaterlaw34_SinkSorted.B15 : List Nat := [0, 1, 3, 3, 3, 27, 59, 127, 3, 3, 3, 1539, 3587, 8191, 16383, 32767, 65535]
theorem tailwaterlaw34_SinkSorted.tab15 : rtab .any (opsOf Try.f5 15) = tailwaterlaw34_SinkSorted.T15 := by kernel_rfl
theorem tailwaterlaw34_SinkSorted.bits15 : waitsOk tailwaterlaw34_SinkSorted.T15.2 tailwaterlaw34_SinkSorted.B15 = true := by kernel_rfl
def tailwaterlaw34_SinkSorted.T19 : Bool × List (List Nat × List Nat) := (true, [([], []), ([], []), ([1], [1]), ([0, 2], [0, 2]), ([3], [3]), ([], []), ([], []), ([5, 6], [5, 6]), ([7], [7]), ([], []), ([], []), ([9, 4, 0, 1, 2, 3, 4, 9, 10], [4, 9]), ([10, 8, 11, 0, 1, 2, 3, 4, 5, 6, 7, 8, 9, 10, 11], [8, 10])])
def tailwaterlaw34_SinkSorted.B19 : List Nat := [0, 0, 2, 7, 15, 0, 0, 96, 224, 0, 0, 1567, 4095]
theorem tailwaterlaw34_SinkSorted.tab19 : rtab .any (opsOf Try.f5 19) = tailwaterlaw34_SinkSorted.T19 := by kernel_rfl
theorem tailwaterlaw34_SinkSorted.bits19 : waitsOk tailwaterlaw34_SinkSorted.T19.2 tailwaterlaw34_SinkSorted.B19 = true := by kernel_rfl
set_option maxHeartbeats 8000000 in
set_option maxRecDepth 100000 in
theorem tailwaterlaw34_SinkSorted.calls (k : Nat) (A0 : Option Addr) (c0 : Nat) (l0 : List (S38)) (A1 : Option Addr) (c1 : Nat) (l1 : List (S38)) (r : Bool) (w : World) (hr0 : Kd.C k38 w A0 l0.length l0) (hc0 : l0.length ≤ c0) (hr1 : Kd.C k38 w A1 l1.length l1) (hc1 : l1.length ≤ c1) (h : tailwaterlaw34_SinkSorted.f k l0 l1 = some r) (hR_ : r = true) :
  Calls Try.prog 5 #[.slice A0 l0.length c0, .slice A1 l1.length c1] w fun e w' => e = .returned (.bool r) ∧ Below w.heap.size w w' := by
 have hu38 := Try.underlying38
 have HR0 := Aside0.mk hr0
 have HC0 := Aside0.mk hc0
 clear hr0 hc0
 have HR1 := Aside0.mk hr1
 have HC1 := Aside0.mk hc1
 clear hr1 hc1
 have HB := Aside0.mk (Below.refl w.heap.size w)
 have H : ((tailwaterlaw34_alive.f k).bind fun t340 => (if (l0.length : Int) > 60 then (tailwaterlaw34_SinkSorted.j0 k l0 l1 t340 true) else (if (l1.length : Int) > 60 then (tailwaterlaw34_SinkSorted.j0 k l0 l1 t340 true) else (tailwaterlaw34_SinkSorted.j0 k l0 l1 t340 (!t340))))) = some r := h
 clear h
 replace H := Option.bind_eq_some_iff.mp H
 obtain ⟨t340, A30, H⟩ := H
 replace H : (if (l0.length : Int) > 60 then (tailwaterlaw34_SinkSorted.j0 k l0 l1 t340 true) else (if (l1.length : Int) > 60 then (tailwaterlaw34_SinkSorted.j0 k l0 l1 t340 true) else (tailwaterlaw34_SinkSorted.j0 k l0 l1 t340 (!t340)))) = some r := H
 have A3 := Aside0.mk A30
 clear A30
 have HC4 := Aside0.mk H
 clear H
 go_enter Try.func5, Try.ntmps5
 go_upto_region 2 with (first | ((with_reducible refine gate_callee (f := 22) rfl ?_); refine goesL_ (some 17) rfl rfl Try.func22 (by kernel_rfl) rfl #[] rfl (by (try simp only [List.map_toArray, List.map_cons, List.map_nil]); first | done | rfl | (simp only [List.length_drop, List.length_take]; rfl)) ?_; (with_reducible refine (tailwaterlaw34_alive.calls k  t340 _ A3.out).mono ?_); rintro e w5 ⟨rfl, hb⟩; refine ⟨_, rfl, ?_⟩; have n0_ := Aside0.mk (below_step (by repeat (first | (with_reducible first | exact HB.out | apply below_alloc | apply pw_below_drewN | apply below_drew1) | exact HB.out)) hb); clear HB; have HB := n0_; clear n0_; (try clear hb); (try clear hb2); (try clear hk); (try clear hi)))
 (try simp only [Act.put, List.setIfInBounds_toArray, List.set_cons_zero, List.set_cons_succ])
 go_cut [29] (fun v29 wc => ∃ (kq : Nat) (x29_3 : Bool), v29 = .bool x29_3 ∧ Aside0 (tailwaterlaw34_SinkSorted.j0 kq l0 l1 t340 x29_3 = some r) ∧ Aside0 (kq ≤ k) ∧ Aside0 (Below w.heap.size w wc))
 case first =>
  have H := HC4.out
  clear HC4
  by_cases c6 : (l0.length : Int) > 60
  ·
   rw [if_pos c6] at H
   have c6b0 : decide (60 < (l0.length : Int)) = true := decide_eq_true c6
   have c6b1 : decide (60 < l0.length) = true := decide_eq_true (by omega)
   clear c6
   (first | rw [c6b0] | (simp only [i64_w, i32_w]; rw [c6b0]) | skip)
   have H' := Aside0.mk H
   clear H
   go_wp2
   go_meet
   case rel => exact ⟨_, (true), (by first | rfl | (simp; done) | (simp [*]; done)), H', ⟨by first | omega | exact Nat.le_refl _⟩, ⟨by repeat (first | (with_reducible first | exact HB.out | apply below_alloc | apply pw_below_drewN | apply below_drew1) | exact HB.out)⟩⟩
  ·
   rw [if_neg c6] at H
   have c6b0 : decide (60 < (l0.length : Int)) = false := decide_eq_false c6
   have c6b1 : decide (60 < l0.length) = false := decide_eq_false (by omega)
   clear c6
   (first | rw [c6b0] | (simp only [i64_w, i32_w]; rw [c6b0]) | skip)
   by_cases c7 : (l1.length : Int) > 60
   ·
    rw [if_pos c7] at H
    have c7b0 : decide (60 < (l1.length : Int)) = true := decide_eq_true c7
    have c7b1 : decide (60 < l1.length) = true := decide_eq_true (by omega)
    clear c7
    have H' := Aside0.mk H
    clear H
    go_wp2
    go_meet
    case rel => exact ⟨_, (true), (by first | rfl | (simp; done) | (simp [*]; done)), H', ⟨by first | omega | exact Nat.le_refl _⟩, ⟨by repeat (first | (with_reducible first | exact HB.out | apply below_alloc | apply pw_below_drewN | apply below_drew1) | exact HB.out)⟩⟩
   ·
    rw [if_neg c7] at H
    have c7b0 : decide (60 < (l1.length : Int)) = false := decide_eq_false c7
    have c7b1 : decide (60 < l1.length) = false := decide_eq_false (by omega)
    clear c7
    have H' := Aside0.mk H
    clear H
    go_wp2
    go_meet
    case rel => exact ⟨_, (!t340), (by first | rfl | (simp; done) | (simp [*]; done)), H', ⟨by first | omega | exact Nat.le_refl _⟩, ⟨by repeat (first | (with_reducible first | exact HB.out | apply below_alloc | apply pw_below_drewN | apply below_drew1) | exact HB.out)⟩⟩
 case rest =>
  clear HC4
  try clear c1
  try clear c2
  try clear p2
  try clear c5
  try clear c6
  try clear c6b0
  try clear c6b1
  try clear c7
  try clear c7b0
  try clear c7b1
  obtain ⟨kq, x29_3, rfl, HA, HJ3, HB⟩ := hcut
  cases kq with
  | zero => exact absurd HA.out (by simp [tailwaterlaw34_SinkSorted.j0])
  | succ kj3 =>
   have H := HA.out
   clear HA
   simp only [tailwaterlaw34_SinkSorted.j0] at H
   by_cases c8 : x29_3 = true
   ·
    subst c8
    have H1 : (some t340) = some r := by rw [if_pos rfl] at H; exact H
    clear H
    have H := H1
    clear H1
    obtain rfl := Option.some.inj H
    go_wp2
    go_ret
    exact ⟨by first | rfl | (simp [errW_none, errW_some] <;> rfl) | (simp [*, errW_none, errW_some] <;> rfl), by repeat (first | (with_reducible first | exact HB.out | apply below_alloc | apply pw_below_drewN | apply below_drew1) | exact HB.out)⟩
   ·
    replace c8 := Bool.eq_false_iff.mpr c8
    subst c8
    have H1 : ((sink_Rows.f l0).bind fun bt341 => ((sink_Rows.f bt341.1).bind fun bt345 => ((sink_Same.f kj3 l0 l1).bind fun bt349 => (if bt341.2 = 0 then (if bt345.2 = 0 then (if bt349.2 = 0 then (if (bt341.1.length : Int) = (l0.length : Int) then ((tailwaterref34_SameRows.f kj3 bt341.1 bt345.1).bind fun t351 => (tailwaterlaw34_SinkSorted.j1 kj3 l0 l1 t340 bt341.1 bt349.1 (!t351))) else (tailwaterlaw34_SinkSorted.j1 kj3 l0 l1 t340 bt341.1 bt349.1 true)) else (tailwaterlaw34_SinkSorted.j1 kj3 l0 l1 t340 bt341.1 bt349.1 true)) else (tailwaterlaw34_SinkSorted.j1 kj3 l0 l1 t340 bt341.1 bt349.1 true)) else (tailwaterlaw34_SinkSorted.j1 kj3 l0 l1 t340 bt341.1 bt349.1 true))))) = some r := by rw [if_neg (show ¬ (false = true) by decide)] at H; exact H
    clear H
    have H := H1
    clear H1
    replace H := Option.bind_eq_some_iff.mp H
    obtain ⟨⟨t341, t342⟩, A90, H⟩ := H
    replace H : ((sink_Rows.f t341).bind fun bt345 => ((sink_Same.f kj3 l0 l1).bind fun bt349 => (if t342 = 0 then (if bt345.2 = 0 then (if bt349.2 = 0 then (if (t341.length : Int) = (l0.length : Int) then ((tailwaterref34_SameRows.f kj3 t341 bt345.1).bind fun t351 => (tailwaterlaw34_SinkSorted.j1 kj3 l0 l1 t340 t341 bt349.1 (!t351))) else (tailwaterlaw34_SinkSorted.j1 kj3 l0 l1 t340 t341 bt349.1 true)) else (tailwaterlaw34_SinkSorted.j1 kj3 l0 l1 t340 t341 bt349.1 true)) else (tailwaterlaw34_SinkSorted.j1 kj3 l0 l1 t340 t341 bt349.1 true)) else (tailwaterlaw34_SinkSorted.j1 kj3 l0 l1 t340 t341 bt349.1 true)))) = some r := H
    have A9 := Aside0.mk A90
    clear A90
    replace H := Option.bind_eq_some_iff.mp H
    obtain ⟨⟨t345, t346⟩, A100, H⟩ := H
    replace H : ((sink_Same.f kj3 l0 l1).bind fun bt349 => (if t342 = 0 then (if t346 = 0 then (if bt349.2 = 0 then (if (t341.length : Int) = (l0.length : Int) then ((tailwaterref34_SameRows.f kj3 t341 t345).bind fun t351 => (tailwaterlaw34_SinkSorted.j1 kj3 l0 l1 t340 t341 bt349.1 (!t351))) else (tailwaterlaw34_SinkSorted.j1 kj3 l0 l1 t340 t341 bt349.1 true)) else (tailwaterlaw34_SinkSorted.j1 kj3 l0 l1 t340 t341 bt349.1 true)) else (tailwaterlaw34_SinkSorted.j1 kj3 l0 l1 t340 t341 bt349.1 true)) else (tailwaterlaw34_SinkSorted.j1 kj3 l0 l1 t340 t341 bt349.1 true))) = some r := H
    have A10 := Aside0.mk A100
    clear A100
    replace H := Option.bind_eq_some_iff.mp H
    obtain ⟨⟨t349, t350⟩, A110, H⟩ := H
    replace H : (if t342 = 0 then (if t346 = 0 then (if t350 = 0 then (if (t341.length : Int) = (l0.length : Int) then ((tailwaterref34_SameRows.f kj3 t341 t345).bind fun t351 => (tailwaterlaw34_SinkSorted.j1 kj3 l0 l1 t340 t341 t349 (!t351))) else (tailwaterlaw34_SinkSorted.j1 kj3 l0 l1 t340 t341 t349 true)) else (tailwaterlaw34_SinkSorted.j1 kj3 l0 l1 t340 t341 t349 true)) else (tailwaterlaw34_SinkSorted.j1 kj3 l0 l1 t340 t341 t349 true)) else (tailwaterlaw34_SinkSorted.j1 kj3 l0 l1 t340 t341 t349 true)) = some r := H
    have A11 := Aside0.mk A110
    clear A110
    have HC12 := Aside0.mk H
    clear H
    go_upto_region 7 with (first | ((with_reducible refine gate_callee (f := 24) rfl ?_); refine goesL_ (some 33) rfl rfl Try.func24 (by kernel_rfl) rfl #[.slice A0 l0.length c0] rfl (by (try simp only [List.map_toArray, List.map_cons, List.map_nil]); first | done | rfl | (simp only [List.length_drop, List.length_take]; rfl)) ?_; (with_reducible refine (sink_Rows.calls _ _ l0 t341 t342 _ ?side1 ?side2 A9.out).mono ?_); (case side1 => repeat (first | exact (Kd.C_below HR0.out HB.out) | (with_reducible refine Kd.C_alloc ?_ _) | (with_reducible refine Kd.C_drewN ?_ _) | (with_reducible refine Kd.C_drew ?_))); (case side2 => exact HC0.out); rintro e w13 ⟨v343, rfl, ho0, hb⟩; refine ⟨_, rfl, ?_⟩; have n0_ := Aside0.mk (Kd.R_lower ho0 (below_size (by repeat (first | (with_reducible first | exact HB.out | apply below_alloc | apply pw_below_drewN | apply below_drew1) | exact HB.out)))); have n1_ := Aside0.mk (below_step (by repeat (first | (with_reducible first | exact HB.out | apply below_alloc | apply pw_below_drewN | apply below_drew1) | exact HB.out)) hb); clear HB; have HO344 := n0_; have HB := n1_; clear n0_ n1_; (try clear hb); (try clear hb2); (try clear hk); (try clear hi); (try clear ho0); obtain ⟨Ao14, co14, eo14⟩ := Kd.R_slice HO344.out; subst eo14) | ((with_reducible refine gate_callee (f := 24) rfl ?_); refine goesL_ (some 38) rfl rfl Try.func24 (by kernel_rfl) rfl #[.slice Ao14 t341.length co14] rfl (by (try simp only [List.map_toArray, List.map_cons, List.map_nil]); first | done | rfl | (simp only [List.length_drop, List.length_take]; rfl)) ?_; (with_reducible refine (sink_Rows.calls _ _ t341 t345 t346 _ ?side1 ?side2 A10.out).mono ?_); (case side1 => repeat (first | exact (Kd.R_reads' HO344.out).2.2 | (with_reducible refine Kd.C_alloc ?_ _) | (with_reducible refine Kd.C_drewN ?_ _) | (with_reducible refine Kd.C_drew ?_))); (case side2 => exact (Kd.R_reads' HO344.out).2.1); rintro e w15 ⟨v347, rfl, ho0, hb⟩; refine ⟨_, rfl, ?_⟩; have n0_ := Aside0.mk (Kd.R_elder' (by (with_reducible repeat (first | apply Kd.R_alloc | apply Kd.R_drewN | apply Kd.R_drew)); exact HO344.out) (Kd.R_base ho0) hb); have n1_ := Aside0.mk (Kd.R_lower (Kd.R_new' ho0 (Kd.R_lt (by (with_reducible repeat (first | apply Kd.R_alloc | apply Kd.R_drewN | apply Kd.R_drew)); exact HO344.out))) (below_size (by repeat (first | (with_reducible first | exact HB.out | apply below_alloc | apply pw_below_drewN | apply below_drew1) | exact HB.out)))); have n2_ := Aside0.mk (below_step (by repeat (first | (with_reducible first | exact HB.out | apply below_alloc | apply pw_below_drewN | apply below_drew1) | exact HB.out)) hb); clear HO344 HB; have HO344 := n0_; have HO348 := n1_; have HB := n2_; clear n0_ n1_ n2_; (try clear hb); (try clear hb2); (try clear hk); (try clear hi); (try clear ho0)) | ((with_reducible refine gate_callee (f := 25) rfl ?_); refine goesL_ (some 44) rfl rfl Try.func25 (by kernel_rfl) rfl #[.slice A0 l0.length c0, .slice A1 l1.length c1] rfl (by (try simp only [List.map_toArray, List.map_cons, List.map_nil]); first | done | rfl | (simp only [List.length_drop, List.length_take]; rfl)) ?_; (with_reducible refine (sink_Same.calls kj3 _ _ l0 _ _ l1 t349 t350 _ ?side1 ?side2 ?side3 ?side4 A11.out).mono ?_); (case side1 => repeat (first | exact (Kd.C_below HR0.out HB.out) | (with_reducible refine Kd.C_alloc ?_ _) | (with_reducible refine Kd.C_drewN ?_ _) | (with_reducible refine Kd.C_drew ?_))); (case side2 => exact HC0.out); (case side3 => repeat (first | exact (Kd.C_below HR1.out HB.out) | (with_reducible refine Kd.C_alloc ?_ _) | (with_reducible refine Kd.C_drewN ?_ _) | (with_reducible refine Kd.C_drew ?_))); (case side4 => exact HC1.out); rintro e w16 ⟨rfl, hb⟩; refine ⟨_, rfl, ?_⟩; have n0_ := Aside0.mk (Kd.R_below (by (with_reducible repeat (first | apply Kd.R_alloc | apply Kd.R_drewN | apply Kd.R_drew)); exact HO344.out) hb); have n1_ := Aside0.mk (Kd.R_below (by (with_reducible repeat (first | apply Kd.R_alloc | apply Kd.R_drewN | apply Kd.R_drew)); exact HO348.out) hb); have n2_ := Aside0.mk (below_step (by repeat (first | (with_reducible first | exact HB.out | apply below_alloc | apply pw_below_drewN | apply below_drew1) | exact HB.out)) hb); clear HO344 HO348 HB; have HO344 := n0_; have HO348 := n1_; have HB := n2_; clear n0_ n1_ n2_; (try clear hb); (try clear hb2); (try clear hk); (try clear hi)))
    (try simp only [Act.put, List.setIfInBounds_toArray, List.set_cons_zero, List.set_cons_succ])
    go_cut [69] (fun v69 wc => ∃ (kq : Nat) (x69_11 : Bool), v69 = .bool x69_11 ∧ Aside0 (tailwaterlaw34_SinkSorted.j1 kq l0 l1 t340 t341 t349 x69_11 = some r) ∧ Aside0 (kq ≤ kj3) ∧ Aside0 (Kd.R k38 38 wc w.heap.size (fun _ => True) (.slice Ao14 t341.length co14) t341) ∧ Aside0 (Below w.heap.size w wc))
    case first =>
     have H := HC12.out
     clear HC12
     by_cases c17 : t342 = 0
     ·
      rw [if_pos c17] at H
      have c17b0 : (t342 == 0) = true := beq_iff_eq.mpr c17
      have c17b1 : (t342 != 0) = false := bne_eq_false_iff_eq.mpr c17
      clear c17
      (first | rw [c17b0] | (simp only [i64_w, i32_w]; rw [c17b0]) | skip)
      by_cases c18 : t346 = 0
      ·
       rw [if_pos c18] at H
       have c18b0 : (t346 == 0) = true := beq_iff_eq.mpr c18
       have c18b1 : (t346 != 0) = false := bne_eq_false_iff_eq.mpr c18
       clear c18
       by_cases c19 : t350 = 0
       ·
        rw [if_pos c19] at H
        have c19b0 : (t350 == 0) = true := beq_iff_eq.mpr c19
        have c19b1 : (t350 != 0) = false := bne_eq_false_iff_eq.mpr c19
        clear c19
        by_cases c20 : (t341.length : Int) = (l0.length : Int)
        ·
         rw [if_pos c20] at H
         have c20b0 : ((t341.length : Int) == (l0.length : Int)) = true := beq_iff_eq.mpr c20
         have c20b1 : ((t341.length : Int) != (l0.length : Int)) = false := bne_eq_false_iff_eq.mpr c20
         have c20b2 : (t341.length == l0.length) = true := by first | simpa using c20 | (simp at c20 ⊢; omega)
         clear c20
         replace H := Option.bind_eq_some_iff.mp H
         obtain ⟨t351, A210, H⟩ := H
         replace H : (tailwaterlaw34_SinkSorted.j1 kj3 l0 l1 t340 t341 t349 (!t351)) = some r := H
         have A21 := Aside0.mk A210
         clear A210
         have H' := Aside0.mk H
         clear H
         obtain ⟨Ao22, co22, eo22⟩ := Kd.R_slice HO348.out
         subst eo22
         go_wp2_with (first | (go_at_call 26; (with_reducible refine (tailwaterref34_SameRows.calls kj3 _ _ t341 _ _ t345 t351 _ ?side1 ?side2 ?side3 ?side4 A21.out).mono ?_); (case side1 => repeat (first | exact (Kd.R_reads' HO344.out).2.2 | (with_reducible refine Kd.C_alloc ?_ _) | (with_reducible refine Kd.C_drewN ?_ _) | (with_reducible refine Kd.C_drew ?_))); (case side2 => exact (Kd.R_reads' HO344.out).2.1); (case side3 => repeat (first | exact (Kd.R_reads' HO348.out).2.2 | (with_reducible refine Kd.C_alloc ?_ _) | (with_reducible refine Kd.C_drewN ?_ _) | (with_reducible refine Kd.C_drew ?_))); (case side4 => exact (Kd.R_reads' HO348.out).2.1); rintro e w' ⟨rfl, ⟨nd, rfl⟩⟩))
         go_meet
         case rel => exact ⟨_, (!t351), (by first | rfl | (simp; done) | (simp [*]; done)), H', ⟨by have := HJ3.out; first | omega | exact Nat.le_refl _⟩, ⟨by (with_reducible repeat (first | apply Kd.R_alloc | apply Kd.R_drewN | apply Kd.R_drew)); exact Kd.R_mono HO344.out (fun _ hk => trivial)⟩, ⟨by repeat (first | (with_reducible first | exact HB.out | apply below_alloc | apply pw_below_drewN | apply below_drew1) | exact HB.out)⟩⟩
        ·
         rw [if_neg c20] at H
         have c20b0 : ((t341.length : Int) == (l0.length : Int)) = false := beq_eq_false_iff_ne.mpr c20
         have c20b1 : ((t341.length : Int) != (l0.length : Int)) = true := bne_iff_ne.mpr c20
         have c20b2 : (t341.length == l0.length) = false := by first | simpa using c20 | (simp at c20 ⊢; omega)
         have H' := Aside0.mk H
         clear H
         go_wp2
         go_meet
         case rel => exact ⟨_, (true), (by first | rfl | (simp; done) | (simp [*]; done)), H', ⟨by have := HJ3.out; first | omega | exact Nat.le_refl _⟩, ⟨by (with_reducible repeat (first | apply Kd.R_alloc | apply Kd.R_drewN | apply Kd.R_drew)); exact Kd.R_mono HO344.out (fun _ hk => trivial)⟩, ⟨by repeat (first | (with_reducible first | exact HB.out | apply below_alloc | apply pw_below_drewN | apply below_drew1) | exact HB.out)⟩⟩
       ·
        rw [if_neg c19] at H
        have c19b0 : (t350 == 0) = false := beq_eq_false_iff_ne.mpr c19
        have c19b1 : (t350 != 0) = true := bne_iff_ne.mpr c19
        have H' := Aside0.mk H
        clear H
        go_wp2
        go_meet
        case rel => exact ⟨_, (true), (by first | rfl | (simp; done) | (simp [*]; done)), H', ⟨by have := HJ3.out; first | omega | exact Nat.le_refl _⟩, ⟨by (with_reducible repeat (first | apply Kd.R_alloc | apply Kd.R_drewN | apply Kd.R_drew)); exact Kd.R_mono HO344.out (fun _ hk => trivial)⟩, ⟨by repeat (first | (with_reducible first | exact HB.out | apply below_alloc | apply pw_below_drewN | apply below_drew1) | exact HB.out)⟩⟩
      ·
       rw [if_neg c18] at H
       have c18b0 : (t346 == 0) = false := beq_eq_false_iff_ne.mpr c18
       have c18b1 : (t346 != 0) = true := bne_iff_ne.mpr c18
       have H' := Aside0.mk H
       clear H
       go_wp2
       go_meet
       case rel => exact ⟨_, (true), (by first | rfl | (simp; done) | (simp [*]; done)), H', ⟨by have := HJ3.out; first | omega | exact Nat.le_refl _⟩, ⟨by (with_reducible repeat (first | apply Kd.R_alloc | apply Kd.R_drewN | apply Kd.R_drew)); exact Kd.R_mono HO344.out (fun _ hk => trivial)⟩, ⟨by repeat (first | (with_reducible first | exact HB.out | apply below_alloc | apply pw_below_drewN | apply below_drew1) | exact HB.out)⟩⟩
     ·
      rw [if_neg c17] at H
      have c17b0 : (t342 == 0) = false := beq_eq_false_iff_ne.mpr c17
      have c17b1 : (t342 != 0) = true := bne_iff_ne.mpr c17
      (first | rw [c17b0] | (simp only [i64_w, i32_w]; rw [c17b0]) | skip)
      have H' := Aside0.mk H
      clear H
      go_wp2
      go_meet
      case rel => exact ⟨_, (true), (by first | rfl | (simp; done) | (simp [*]; done)), H', ⟨by have := HJ3.out; first | omega | exact Nat.le_refl _⟩, ⟨by (with_reducible repeat (first | apply Kd.R_alloc | apply Kd.R_drewN | apply Kd.R_drew)); exact Kd.R_mono HO344.out (fun _ hk => trivial)⟩, ⟨by repeat (first | (with_reducible first | exact HB.out | apply below_alloc | apply pw_below_drewN | apply below_drew1) | exact HB.out)⟩⟩
    case rest =>
     clear HC12
     try clear c1
     try clear c2
     try clear p2
     try clear c5
     try clear c6
     try clear c6b0
     try clear c6b1
     try clear c7
     try clear c7b0
     try clear c7b1
     try clear c8
     try clear c17
     try clear c17b0
     try clear c17b1
     try clear c18
     try clear c18b0
     try clear c18b1
     try clear c19
     try clear c19b0
     try clear c19b1
     try clear c20
     try clear c20b0
     try clear c20b1
     try clear c20b2
     try clear c22
     try clear p2
     obtain ⟨kq, x69_11, rfl, HA, HJ11, HO_6, HB⟩ := hcut
     cases kq with
     | zero => exact absurd HA.out (by simp [tailwaterlaw34_SinkSorted.j1])
     | succ kj11 =>
      have H := HA.out
      clear HA
      simp only [tailwaterlaw34_SinkSorted.j1] at H
      by_cases c23 : x69_11 = true
      ·
       subst c23
       have H1 : (some false) = some r := by rw [if_pos rfl] at H; exact H
       clear H
       have H := H1
       clear H1
       exact absurd ((Option.some.inj H).trans hR_) (by decide)
      ·
       replace c23 := Bool.eq_false_iff.mpr c23
       subst c23
       have H1 : (tailwaterlaw34_SinkSorted.l0 kj11 l0 l1 t340 t341 t349 ((l0.length : Int) == (l1.length : Int)) 0) = some r := by rw [if_neg (show ¬ (false = true) by decide)] at H; exact H
       clear H
       have H := H1
       clear H1
       have H' := Aside0.mk H
       clear H
       go_wp2
       go_loopg [12, 13] kj11 (fun kq v12 v13 w' => ∃ (x12_3 : Bool) (x13_3 : Int), v12 = .bool x12_3 ∧ v13 = .int .i64 x13_3 ∧ Aside0 (tailwaterlaw34_SinkSorted.l0 kq l0 l1 t340 t341 t349 x12_3 x13_3 = some r) ∧ Aside0 (kq ≤ kj11) ∧ Aside0 (Kd.R k38 38 w' w.heap.size (fun _ => True) (.slice Ao14 t341.length co14) t341) ∧ Aside0 (Below w.heap.size w w'))
       case atStart => exact ⟨(((l0.length : Int) == (l1.length : Int))), (0), (by first | rfl | (simp; done) | (simp [*]; done)), (by first | rfl | (simp; done) | (simp [*]; done)), H', ⟨Nat.le_refl _⟩, ⟨by (with_reducible repeat (first | apply Kd.R_alloc | apply Kd.R_drewN | apply Kd.R_drew)); exact HO_6.out⟩, ⟨by repeat (first | (with_reducible first | exact HB.out | apply below_alloc | apply pw_below_drewN | apply below_drew1) | exact HB.out)⟩⟩
       case round =>
        clear H'
        try clear c1
        try clear c2
        try clear p2
        try clear c5
        try clear c6
        try clear c6b0
        try clear c6b1
        try clear c7
        try clear c7b0
        try clear c7b1
        try clear c8
        try clear c17
        try clear c17b0
        try clear c17b1
        try clear c18
        try clear c18b0
        try clear c18b1
        try clear c19
        try clear c19b0
        try clear c19b1
        try clear c20
        try clear c20b0
        try clear c20b1
        try clear c20b2
        try clear c22
        try clear c23
        try clear p2
        obtain ⟨x12_3, x13_3, rfl, rfl, HA, HK3, HO_6, HB⟩ := hrel
        cases gk with
        | zero => exact absurd HA.out (by simp [tailwaterlaw34_SinkSorted.l0])
        | succ k3 =>
         have H := HA.out
         clear HA
         simp only [tailwaterlaw34_SinkSorted.l0] at H
         by_cases c24 : x13_3 < (l0.length : Int)
         ·
          rw [if_pos c24] at H
          have c24b0 : decide (x13_3 < (l0.length : Int)) = true := decide_eq_true c24
          clear c24
          by_cases c25 : 0 ≤ x13_3
          ·
           rw [if_pos c25] at H
           have c25b0 : decide (0 ≤ x13_3) = true := decide_eq_true c25
           clear c25
           replace H := Option.bind_eq_some_iff.mp H
           obtain ⟨t353, A260, H⟩ := H
           replace H : ((tailwaterlaw34_often.f k3 l0 ((rd_T38 l0 x13_3).f0) ((rd_T38 l0 x13_3).f1.f0) ((rd_T38 l0 x13_3).f1.f1) ((rd_T38 l0 x13_3).f2.f0) ((rd_T38 l0 x13_3).f2.f1)).bind fun t355 => (if t353 = t355 then (if x12_3 = true then ((tailwaterlaw34_often.f k3 l0 ((rd_T38 l0 x13_3).f0) ((rd_T38 l0 x13_3).f1.f0) ((rd_T38 l0 x13_3).f1.f1) ((rd_T38 l0 x13_3).f2.f0) ((rd_T38 l0 x13_3).f2.f1)).bind fun t357 => ((tailwaterlaw34_often.f k3 l1 ((rd_T38 l0 x13_3).f0) ((rd_T38 l0 x13_3).f1.f0) ((rd_T38 l0 x13_3).f1.f1) ((rd_T38 l0 x13_3).f2.f0) ((rd_T38 l0 x13_3).f2.f1)).bind fun t359 => (tailwaterlaw34_SinkSorted.l0 k3 l0 l1 t340 t341 t349 (t357 == t359) (wrap64 (x13_3 + 1))))) else (tailwaterlaw34_SinkSorted.l0 k3 l0 l1 t340 t341 t349 false (wrap64 (x13_3 + 1)))) else (some false))) = some r := H
           have A26 := Aside0.mk A260
           clear A260
           replace H := Option.bind_eq_some_iff.mp H
           obtain ⟨t355, A270, H⟩ := H
           replace H : (if t353 = t355 then (if x12_3 = true then ((tailwaterlaw34_often.f k3 l0 ((rd_T38 l0 x13_3).f0) ((rd_T38 l0 x13_3).f1.f0) ((rd_T38 l0 x13_3).f1.f1) ((rd_T38 l0 x13_3).f2.f0) ((rd_T38 l0 x13_3).f2.f1)).bind fun t357 => ((tailwaterlaw34_often.f k3 l1 ((rd_T38 l0 x13_3).f0) ((rd_T38 l0 x13_3).f1.f0) ((rd_T38 l0 x13_3).f1.f1) ((rd_T38 l0 x13_3).f2.f0) ((rd_T38 l0 x13_3).f2.f1)).bind fun t359 => (tailwaterlaw34_SinkSorted.l0 k3 l0 l1 t340 t341 t349 (t357 == t359) (wrap64 (x13_3 + 1))))) else (tailwaterlaw34_SinkSorted.l0 k3 l0 l1 t340 t341 t349 false (wrap64 (x13_3 + 1)))) else (some false)) = some r := H
           have A27 := Aside0.mk A270
           clear A270
           by_cases c28 : t353 = t355
           ·
            rw [if_pos c28] at H
            have c28b0 : (t353 == t355) = true := beq_iff_eq.mpr c28
            have c28b1 : (t353 != t355) = false := bne_eq_false_iff_eq.mpr c28
            clear c28
            by_cases c29 : x12_3 = true
            ·
             subst c29
             have H1 : ((tailwaterlaw34_often.f k3 l0 ((rd_T38 l0 x13_3).f0) ((rd_T38 l0 x13_3).f1.f0) ((rd_T38 l0 x13_3).f1.f1) ((rd_T38 l0 x13_3).f2.f0) ((rd_T38 l0 x13_3).f2.f1)).bind fun t357 => ((tailwaterlaw34_often.f k3 l1 ((rd_T38 l0 x13_3).f0) ((rd_T38 l0 x13_3).f1.f0) ((rd_T38 l0 x13_3).f1.f1) ((rd_T38 l0 x13_3).f2.f0) ((rd_T38 l0 x13_3).f2.f1)).bind fun t359 => (tailwaterlaw34_SinkSorted.l0 k3 l0 l1 t340 t341 t349 (t357 == t359) (wrap64 (x13_3 + 1))))) = some r := by rw [if_pos rfl] at H; exact H
             clear H
             have H := H1
             clear H1
             replace H := Option.bind_eq_some_iff.mp H
             obtain ⟨t357, A300, H⟩ := H
             replace H : ((tailwaterlaw34_often.f k3 l1 ((rd_T38 l0 x13_3).f0) ((rd_T38 l0 x13_3).f1.f0) ((rd_T38 l0 x13_3).f1.f1) ((rd_T38 l0 x13_3).f2.f0) ((rd_T38 l0 x13_3).f2.f1)).bind fun t359 => (tailwaterlaw34_SinkSorted.l0 k3 l0 l1 t340 t341 t349 (t357 == t359) (wrap64 (x13_3 + 1)))) = some r := H
             have A30 := Aside0.mk A300
             clear A300
             replace H := Option.bind_eq_some_iff.mp H
             obtain ⟨t359, A310, H⟩ := H
             replace H : (tailwaterlaw34_SinkSorted.l0 k3 l0 l1 t340 t341 t349 (t357 == t359) (wrap64 (x13_3 + 1))) = some r := H
             have A31 := Aside0.mk A310
             clear A310
             have H' := Aside0.mk H
             clear H
             try go_wp2
             have n0_ := Aside0.mk (Kd.R_drew HO_6.out)
             have n1_ := Aside0.mk (below_drew1 HB.out)
             clear HO_6 HB
             have HO_6 := n0_
             have HB := n1_
             clear n0_ n1_
             have p352 : 0 ≤ (x13_3 : Int) := of_decide_eq_true (by first | (with_reducible assumption) | assumption)
             have q352 : x13_3 < (l0.length : Int) := of_decide_eq_true (by first | (with_reducible assumption) | assumption)
             obtain ⟨ad352, e352, hx352_0, hx352_1, hx352_2, hx352_3, hx352_4⟩ := at_T38 HR0.out x13_3 p352 q352
             have hw352_4 := hx352_4
             have hw352_3 := hx352_3
             have hw352_2 := hx352_2
             have hw352_1 := hx352_1
             have hw352_0 := hx352_0
             cases e352
             replace hx352_0 := (HB.out.cell (World.block_lt_of_cell? w _ hx352_0)).trans hx352_0
             replace hx352_1 := (HB.out.cell (World.block_lt_of_cell? w _ hx352_1)).trans hx352_1
             replace hx352_2 := (HB.out.cell (World.block_lt_of_cell? w _ hx352_2)).trans hx352_2
             replace hx352_3 := (HB.out.cell (World.block_lt_of_cell? w _ hx352_3)).trans hx352_3
             replace hx352_4 := (HB.out.cell (World.block_lt_of_cell? w _ hx352_4)).trans hx352_4
             replace p352 := eq_true p352
             replace q352 := eq_true q352
             have p354 : 0 ≤ (x13_3 : Int) := of_decide_eq_true (by first | (with_reducible assumption) | assumption)
             have q354 : x13_3 < (l0.length : Int) := of_decide_eq_true (by first | (with_reducible assumption) | assumption)
             obtain ⟨ad354, e354, hx354_0, hx354_1, hx354_2, hx354_3, hx354_4⟩ := at_T38 HR0.out x13_3 p354 q354
             have hw354_4 := hx354_4
             have hw354_3 := hx354_3
             have hw354_2 := hx354_2
             have hw354_1 := hx354_1
             have hw354_0 := hx354_0
             obtain rfl : ad352 = ad354 := (by injection e354)
             replace hx354_0 := (HB.out.cell (World.block_lt_of_cell? w _ hx354_0)).trans hx354_0
             replace hx354_1 := (HB.out.cell (World.block_lt_of_cell? w _ hx354_1)).trans hx354_1
             replace hx354_2 := (HB.out.cell (World.block_lt_of_cell? w _ hx354_2)).trans hx354_2
             replace hx354_3 := (HB.out.cell (World.block_lt_of_cell? w _ hx354_3)).trans hx354_3
             replace hx354_4 := (HB.out.cell (World.block_lt_of_cell? w _ hx354_4)).trans hx354_4
             replace p354 := eq_true p354
             replace q354 := eq_true q354
             refine start_ (n := 13) (S := fun w' => w'.cell? (ad352.add ((x13_3).toNat * 5)) = some (.int .i64 ((rd_T38 l0 x13_3).f0)) ∧ w'.cell? ⟨(ad352.add ((x13_3).toNat * 5)).block, (ad352.add ((x13_3).toNat * 5)).off + 1, none⟩ = some (.int .i64 ((rd_T38 l0 x13_3).f1.f0)) ∧ w'.cell? ⟨(ad352.add ((x13_3).toNat * 5)).block, (ad352.add ((x13_3).toNat * 5)).off + 2, none⟩ = some (.int .i64 ((rd_T38 l0 x13_3).f1.f1)) ∧ w'.cell? ⟨(ad352.add ((x13_3).toNat * 5)).block, (ad352.add ((x13_3).toNat * 5)).off + 3, none⟩ = some (.int .i64 ((rd_T38 l0 x13_3).f2.f0)) ∧ w'.cell? ⟨(ad352.add ((x13_3).toNat * 5)).block, (ad352.add ((x13_3).toNat * 5)).off + 4, none⟩ = some (.int .i64 ((rd_T38 l0 x13_3).f2.f1)) ∧ w'.cell? (ad352.add ((x13_3).toNat * 5)) = some (.int .i64 ((rd_T38 l0 x13_3).f0)) ∧ w'.cell? ⟨(ad352.add ((x13_3).toNat * 5)).block, (ad352.add ((x13_3).toNat * 5)).off + 1, none⟩ = some (.int .i64 ((rd_T38 l0 x13_3).f1.f0)) ∧ w'.cell? ⟨(ad352.add ((x13_3).toNat * 5)).block, (ad352.add ((x13_3).toNat * 5)).off + 2, none⟩ = some (.int .i64 ((rd_T38 l0 x13_3).f1.f1)) ∧ w'.cell? ⟨(ad352.add ((x13_3).toNat * 5)).block, (ad352.add ((x13_3).toNat * 5)).off + 3, none⟩ = some (.int .i64 ((rd_T38 l0 x13_3).f2.f0)) ∧ w'.cell? ⟨(ad352.add ((x13_3).toNat * 5)).block, (ad352.add ((x13_3).toNat * 5)).off + 4, none⟩ = some (.int .i64 ((rd_T38 l0 x13_3).f2.f1))) (ds := []) #[false, false, false, false, false, false, false, false, false, false, false, false, false] (by kernel_rfl) rfl rfl ⟨((HB.out.cell (World.block_lt_of_cell? w _ hw352_0)).trans hw352_0), ((HB.out.cell (World.block_lt_of_cell? w _ hw352_1)).trans hw352_1), ((HB.out.cell (World.block_lt_of_cell? w _ hw352_2)).trans hw352_2), ((HB.out.cell (World.block_lt_of_cell? w _ hw352_3)).trans hw352_3), ((HB.out.cell (World.block_lt_of_cell? w _ hw352_4)).trans hw352_4), ((HB.out.cell (World.block_lt_of_cell? w _ hw354_0)).trans hw354_0), ((HB.out.cell (World.block_lt_of_cell? w _ hw354_1)).trans hw354_1), ((HB.out.cell (World.block_lt_of_cell? w _ hw354_2)).trans hw354_2), ((HB.out.cell (World.block_lt_of_cell? w _ hw354_3)).trans hw354_3), ((HB.out.cell (World.block_lt_of_cell? w _ hw354_4)).trans hw354_4)⟩ (fun hHeld => ?_); refine with_tabW tailwaterlaw34_SinkSorted.tab13 tailwaterlaw34_SinkSorted.bits13 (fun HT_ HW_ => ?_)
             generalize wr.drew = w32 at HO_6 HB hx352_0 hx352_1 hx352_2 hx352_3 hx352_4 hx354_0 hx354_1 hx354_2 hx354_3 hx354_4 hHeld ⊢
             refine pure_ (i := 0) (N := some 81) (v := ?_) (a' := ?_) #[true, false, false, false, false, false, false, false, false, false, false, false, false] rfl rfl (any_of HT_.out (by kernel_rfl)) (fun _ _ _ h => h) (Or.inl ⟨by rfl, ?_⟩) ?_ ?_
             rotate_left
             ·
              intro w'
              go_simp
              with_reducible rfl
             rotate_left
             ·
              simp only [Act.put, List.setIfInBounds_toArray, List.set_cons_zero, List.set_cons_succ, i64_w, i32_w]
              rfl
             refine pure_ (i := 1) (N := some 82) (v := ?_) (a' := ?_) #[true, true, false, false, false, false, false, false, false, false, false, false, false] rfl rfl (any_of HT_.out (by kernel_rfl)) (fun _ _ _ h => h) (Or.inl ⟨by rfl, ?_⟩) ?_ ?_
             rotate_left
             ·
              intro w'
              go_simp
              with_reducible rfl
             rotate_left
             ·
              simp only [Act.put, List.setIfInBounds_toArray, List.set_cons_zero, List.set_cons_succ, i64_w, i32_w]
              rfl
             refine pure_ (i := 2) (N := some 83) (v := ?_) (a' := ?_) #[true, true, true, false, false, false, false, false, false, false, false, false, false] rfl rfl (any_of HT_.out (by kernel_rfl)) (fun _ _ _ h => h) (Or.inl ⟨by rfl, ?_⟩) ?_ ?_
             rotate_left
             ·
              intro w'
              go_simp
              with_reducible rfl
             rotate_left
             ·
              simp only [Act.put, List.setIfInBounds_toArray, List.set_cons_zero, List.set_cons_succ, i64_w, i32_w]
              rfl
             refine pure_ (i := 3) (N := some 84) (v := ?_) (a' := ?_) #[true, true, true, true, false, false, false, false, false, false, false, false, false] rfl rfl (any_of HT_.out (by kernel_rfl)) (fun _ _ _ h => h) (Or.inl ⟨by rfl, ?_⟩) ?_ ?_
             rotate_left
             ·
              intro w'
              go_simp
              with_reducible rfl
             rotate_left
             ·
              simp only [Act.put, List.setIfInBounds_toArray, List.set_cons_zero, List.set_cons_succ, i64_w, i32_w]
              rfl
             refine pure_ (i := 6) (N := some 87) (v := ?_) (a' := ?_) #[true, true, true, true, false, false, true, false, false, false, false, false, false] rfl rfl (any_of HT_.out (by kernel_rfl)) (fun _ _ _ h => h) (Or.inl ⟨by rfl, ?_⟩) ?_ ?_
             rotate_left
             ·
              intro w'
              go_simp
              with_reducible rfl
             rotate_left
             ·
              simp only [Act.put, List.setIfInBounds_toArray, List.set_cons_zero, List.set_cons_succ, i64_w, i32_w]
              rfl
             refine pure_ (i := 7) (N := some 88) (v := ?_) (a' := ?_) #[true, true, true, true, false, false, true, true, false, false, false, false, false] rfl rfl (any_of HT_.out (by kernel_rfl)) (fun _ _ _ h => h) (Or.inl ⟨by rfl, ?_⟩) ?_ ?_
             rotate_left
             ·
              intro w'
              go_simp
              with_reducible rfl
             rotate_left
             ·
              simp only [Act.put, List.setIfInBounds_toArray, List.set_cons_zero, List.set_cons_succ, i64_w, i32_w]
              rfl
             refine pure_ (i := 8) (N := some 89) (v := ?_) (a' := ?_) #[true, true, true, true, false, false, true, true, true, false, false, false, false] rfl rfl (any_of HT_.out (by kernel_rfl)) (fun _ _ _ h => h) (Or.inl ⟨by rfl, ?_⟩) ?_ ?_
             rotate_left
             ·
              intro w'
              go_simp
              with_reducible rfl
             rotate_left
             ·
              simp only [Act.put, List.setIfInBounds_toArray, List.set_cons_zero, List.set_cons_succ, i64_w, i32_w]
              rfl
             refine pure_ (i := 9) (N := some 90) (v := ?_) (a' := ?_) #[true, true, true, true, false, false, true, true, true, true, false, false, false] rfl rfl (any_of HT_.out (by kernel_rfl)) (fun _ _ _ h => h) (Or.inl ⟨by rfl, ?_⟩) ?_ ?_
             rotate_left
             ·
              intro w'
              go_simp
              with_reducible rfl
             rotate_left
             ·
              simp only [Act.put, List.setIfInBounds_toArray, List.set_cons_zero, List.set_cons_succ, i64_w, i32_w]
              rfl
             refine take_ (i := 4) (N := some 85) (v := ?_) (a' := ?_) #[true, true, true, true, true, false, true, true, true, true, false, false, false] rfl rfl (take_ofW HT_.out HW_.out (by kernel_rfl)) (fun _ _ _ h => h) (Or.inl ⟨by rfl, ?_⟩) hHeld ?_ ?_
             rotate_left
             ·
              rintro w' ⟨s0, s1, s2, s3, s4, s5, s6, s7, s8, s9⟩
              go_simp
              with_reducible rfl
             rotate_left
             ·
              simp only [Act.put, List.setIfInBounds_toArray, List.set_cons_zero, List.set_cons_succ, i64_w, i32_w]
              rfl
             refine take_ (i := 10) (N := some 91) (v := ?_) (a' := ?_) #[true, true, true, true, true, false, true, true, true, true, true, false, false] rfl rfl (take_ofW HT_.out HW_.out (by kernel_rfl)) (fun _ _ _ h => h) (Or.inl ⟨by rfl, ?_⟩) hHeld ?_ ?_
             rotate_left
             ·
              rintro w' ⟨s0, s1, s2, s3, s4, s5, s6, s7, s8, s9⟩
              go_simp
              with_reducible rfl
             rotate_left
             ·
              simp only [Act.put, List.setIfInBounds_toArray, List.set_cons_zero, List.set_cons_succ, i64_w, i32_w]
              rfl
             refine one_ (i := 5) (N := some 86) #[true, true, true, true, true, true, true, true, true, true, true, false, false] rfl rfl (one_of HT_.out (by kernel_rfl)) (by decide) (fun K hK => ?_)
             refine goes_ Try.func27 (by kernel_rfl) rfl #[.slice Ao14 t341.length co14, .agg #[.int .i64 ((rd_T38 l0 x13_3).f0), .int .i64 ((rd_T38 l0 x13_3).f1.f0), .int .i64 ((rd_T38 l0 x13_3).f1.f1), .int .i64 ((rd_T38 l0 x13_3).f2.f0), .int .i64 ((rd_T38 l0 x13_3).f2.f1)]] (by rfl) rfl rfl (by (try simp only [List.map_toArray, List.map_cons, List.map_nil]); first | done | rfl | (simp only [List.length_drop, List.length_take]; rfl)) ?_
             with_reducible refine (tailwaterlaw34_often.calls k3 _ _ t341 ((rd_T38 l0 x13_3).f0) ((rd_T38 l0 x13_3).f1.f0) ((rd_T38 l0 x13_3).f1.f1) ((rd_T38 l0 x13_3).f2.f0) ((rd_T38 l0 x13_3).f2.f1) t353 _ ?side1 ?side2 A26.out).mono ?_
             (case side1 => repeat (first | exact (Kd.R_reads' HO_6.out).2.2 | (with_reducible refine Kd.C_alloc ?_ _) | (with_reducible refine Kd.C_drewN ?_ _) | (with_reducible refine Kd.C_drew ?_)))
             (case side2 => exact (Kd.R_reads' HO_6.out).2.1)
             rintro e w33 ⟨rfl, hb⟩
             refine ⟨_, rfl, ?_⟩
             have n0_ := Aside0.mk (Kd.R_below (by (with_reducible repeat (first | apply Kd.R_alloc | apply Kd.R_drewN | apply Kd.R_drew)); exact HO_6.out) hb)
             have n1_ := Aside0.mk (below_step (by repeat (first | (with_reducible first | exact HB.out | apply below_alloc | apply pw_below_drewN | apply below_drew1) | exact HB.out)) hb)
             clear HO_6 HB
             have HO_6 := n0_
             have HB := n1_
             clear n0_ n1_
             (try clear hb)
             (try clear hb2)
             (try clear hk)
             (try clear hi)
             refine hK.out _ _ ⟨((HB.out.cell (World.block_lt_of_cell? w _ hw352_0)).trans hw352_0), ((HB.out.cell (World.block_lt_of_cell? w _ hw352_1)).trans hw352_1), ((HB.out.cell (World.block_lt_of_cell? w _ hw352_2)).trans hw352_2), ((HB.out.cell (World.block_lt_of_cell? w _ hw352_3)).trans hw352_3), ((HB.out.cell (World.block_lt_of_cell? w _ hw352_4)).trans hw352_4), ((HB.out.cell (World.block_lt_of_cell? w _ hw354_0)).trans hw354_0), ((HB.out.cell (World.block_lt_of_cell? w _ hw354_1)).trans hw354_1), ((HB.out.cell (World.block_lt_of_cell? w _ hw354_2)).trans hw354_2), ((HB.out.cell (World.block_lt_of_cell? w _ hw354_3)).trans hw354_3), ((HB.out.cell (World.block_lt_of_cell? w _ hw354_4)).trans hw354_4)⟩ (fun hHeld => ?_)
             clear hK K
             refine norm_ (a' := ?_) ?_ ?_
             rotate_left
             ·
              show Act.put _ (some 86) _ = _
              simp only [Act.put, List.setIfInBounds_toArray, List.set_cons_zero, List.set_cons_succ, i64_w, i32_w]
              rfl
             refine one_ (i := 11) (N := some 92) #[true, true, true, true, true, true, true, true, true, true, true, true, false] rfl rfl (one_of HT_.out (by kernel_rfl)) (by decide) (fun K hK => ?_)
             refine goes_ Try.func27 (by kernel_rfl) rfl #[.slice (some ad352) l0.length c0, .agg #[.int .i64 ((rd_T38 l0 x13_3).f0), .int .i64 ((rd_T38 l0 x13_3).f1.f0), .int .i64 ((rd_T38 l0 x13_3).f1.f1), .int .i64 ((rd_T38 l0 x13_3).f2.f0), .int .i64 ((rd_T38 l0 x13_3).f2.f1)]] (by rfl) rfl rfl (by (try simp only [List.map_toArray, List.map_cons, List.map_nil]); first | done | rfl | (simp only [List.length_drop, List.length_take]; rfl)) ?_
             with_reducible refine (tailwaterlaw34_often.calls k3 _ _ l0 ((rd_T38 l0 x13_3).f0) ((rd_T38 l0 x13_3).f1.f0) ((rd_T38 l0 x13_3).f1.f1) ((rd_T38 l0 x13_3).f2.f0) ((rd_T38 l0 x13_3).f2.f1) t355 _ ?side1 ?side2 A27.out).mono ?_
             (case side1 => repeat (first | exact (Kd.C_below HR0.out HB.out) | (with_reducible refine Kd.C_alloc ?_ _) | (with_reducible refine Kd.C_drewN ?_ _) | (with_reducible refine Kd.C_drew ?_)))
             (case side2 => exact HC0.out)
             rintro e w34 ⟨rfl, hb⟩
             refine ⟨_, rfl, ?_⟩
             have n0_ := Aside0.mk (Kd.R_below (by (with_reducible repeat (first | apply Kd.R_alloc | apply Kd.R_drewN | apply Kd.R_drew)); exact HO_6.out) hb)
             have n1_ := Aside0.mk (below_step (by repeat (first | (with_reducible first | exact HB.out | apply below_alloc | apply pw_below_drewN | apply below_drew1) | exact HB.out)) hb)
             clear HO_6 HB
             have HO_6 := n0_
             have HB := n1_
             clear n0_ n1_
             (try clear hb)
             (try clear hb2)
             (try clear hk)
             (try clear hi)
             refine hK.out _ _ ⟨((HB.out.cell (World.block_lt_of_cell? w _ hw352_0)).trans hw352_0), ((HB.out.cell (World.block_lt_of_cell? w _ hw352_1)).trans hw352_1), ((HB.out.cell (World.block_lt_of_cell? w _ hw352_2)).trans hw352_2), ((HB.out.cell (World.block_lt_of_cell? w _ hw352_3)).trans hw352_3), ((HB.out.cell (World.block_lt_of_cell? w _ hw352_4)).trans hw352_4), ((HB.out.cell (World.block_lt_of_cell? w _ hw354_0)).trans hw354_0), ((HB.out.cell (World.block_lt_of_cell? w _ hw354_1)).trans hw354_1), ((HB.out.cell (World.block_lt_of_cell? w _ hw354_2)).trans hw354_2), ((HB.out.cell (World.block_lt_of_cell? w _ hw354_3)).trans hw354_3), ((HB.out.cell (World.block_lt_of_cell? w _ hw354_4)).trans hw354_4)⟩ (fun hHeld => ?_)
             clear hK K
             refine norm_ (a' := ?_) ?_ ?_
             rotate_left
             ·
              show Act.put _ (some 92) _ = _
              simp only [Act.put, List.setIfInBounds_toArray, List.set_cons_zero, List.set_cons_succ, i64_w, i32_w]
              rfl
             refine pure_ (i := 12) (N := some 93) (v := ?_) (a' := ?_) #[true, true, true, true, true, true, true, true, true, true, true, true, true] rfl rfl (any_of HT_.out (by kernel_rfl)) (fun _ _ _ h => h) (Or.inl ⟨by rfl, ?_⟩) ?_ ?_
             rotate_left
             ·
              intro w'
              go_simp
              with_reducible rfl
             rotate_left
             ·
              simp only [Act.put, List.setIfInBounds_toArray, List.set_cons_zero, List.set_cons_succ, i64_w, i32_w]
              rfl
             refine done_ (done_of HT_.out (by kernel_rfl)) ?_
             try go_wp2
             have n0_ := Aside0.mk (Kd.R_drew HO_6.out)
             have n1_ := Aside0.mk (below_drew1 HB.out)
             clear HO_6 HB
             have HO_6 := n0_
             have HB := n1_
             clear n0_ n1_
             have p356 : 0 ≤ (x13_3 : Int) := of_decide_eq_true (by first | (with_reducible assumption) | assumption)
             have q356 : x13_3 < (l0.length : Int) := of_decide_eq_true (by first | (with_reducible assumption) | assumption)
             obtain ⟨ad356, e356, hx356_0, hx356_1, hx356_2, hx356_3, hx356_4⟩ := at_T38 HR0.out x13_3 p356 q356
             have hw356_4 := hx356_4
             have hw356_3 := hx356_3
             have hw356_2 := hx356_2
             have hw356_1 := hx356_1
             have hw356_0 := hx356_0
             obtain rfl : ad352 = ad356 := (by injection e356)
             replace hx356_0 := (HB.out.cell (World.block_lt_of_cell? w _ hx356_0)).trans hx356_0
             replace hx356_1 := (HB.out.cell (World.block_lt_of_cell? w _ hx356_1)).trans hx356_1
             replace hx356_2 := (HB.out.cell (World.block_lt_of_cell? w _ hx356_2)).trans hx356_2
             replace hx356_3 := (HB.out.cell (World.block_lt_of_cell? w _ hx356_3)).trans hx356_3
             replace hx356_4 := (HB.out.cell (World.block_lt_of_cell? w _ hx356_4)).trans hx356_4
             replace p356 := eq_true p356
             replace q356 := eq_true q356
             have p358 : 0 ≤ (x13_3 : Int) := of_decide_eq_true (by first | (with_reducible assumption) | assumption)
             have q358 : x13_3 < (l0.length : Int) := of_decide_eq_true (by first | (with_reducible assumption) | assumption)
             obtain ⟨ad358, e358, hx358_0, hx358_1, hx358_2, hx358_3, hx358_4⟩ := at_T38 HR0.out x13_3 p358 q358
             have hw358_4 := hx358_4
             have hw358_3 := hx358_3
             have hw358_2 := hx358_2
             have hw358_1 := hx358_1
             have hw358_0 := hx358_0
             obtain rfl : ad352 = ad358 := (by injection e358)
             replace hx358_0 := (HB.out.cell (World.block_lt_of_cell? w _ hx358_0)).trans hx358_0
             replace hx358_1 := (HB.out.cell (World.block_lt_of_cell? w _ hx358_1)).trans hx358_1
             replace hx358_2 := (HB.out.cell (World.block_lt_of_cell? w _ hx358_2)).trans hx358_2
             replace hx358_3 := (HB.out.cell (World.block_lt_of_cell? w _ hx358_3)).trans hx358_3
             replace hx358_4 := (HB.out.cell (World.block_lt_of_cell? w _ hx358_4)).trans hx358_4
             replace p358 := eq_true p358
             replace q358 := eq_true q358
             refine start_ (n := 17) (S := fun w' => w'.cell? (ad352.add ((x13_3).toNat * 5)) = some (.int .i64 ((rd_T38 l0 x13_3).f0)) ∧ w'.cell? ⟨(ad352.add ((x13_3).toNat * 5)).block, (ad352.add ((x13_3).toNat * 5)).off + 1, none⟩ = some (.int .i64 ((rd_T38 l0 x13_3).f1.f0)) ∧ w'.cell? ⟨(ad352.add ((x13_3).toNat * 5)).block, (ad352.add ((x13_3).toNat * 5)).off + 2, none⟩ = some (.int .i64 ((rd_T38 l0 x13_3).f1.f1)) ∧ w'.cell? ⟨(ad352.add ((x13_3).toNat * 5)).block, (ad352.add ((x13_3).toNat * 5)).off + 3, none⟩ = some (.int .i64 ((rd_T38 l0 x13_3).f2.f0)) ∧ w'.cell? ⟨(ad352.add ((x13_3).toNat * 5)).block, (ad352.add ((x13_3).toNat * 5)).off + 4, none⟩ = some (.int .i64 ((rd_T38 l0 x13_3).f2.f1)) ∧ w'.cell? (ad352.add ((x13_3).toNat * 5)) = some (.int .i64 ((rd_T38 l0 x13_3).f0)) ∧ w'.cell? ⟨(ad352.add ((x13_3).toNat * 5)).block, (ad352.add ((x13_3).toNat * 5)).off + 1, none⟩ = some (.int .i64 ((rd_T38 l0 x13_3).f1.f0)) ∧ w'.cell? ⟨(ad352.add ((x13_3).toNat * 5)).block, (ad352.add ((x13_3).toNat * 5)).off + 2, none⟩ = some (.int .i64 ((rd_T38 l0 x13_3).f1.f1)) ∧ w'.cell? ⟨(ad352.add ((x13_3).toNat * 5)).block, (ad352.add ((x13_3).toNat * 5)).off + 3, none⟩ = some (.int .i64 ((rd_T38 l0 x13_3).f2.f0)) ∧ w'.cell? ⟨(ad352.add ((x13_3).toNat * 5)).block, (ad352.add ((x13_3).toNat * 5)).off + 4, none⟩ = some (.int .i64 ((rd_T38 l0 x13_3).f2.f1))) (ds := []) #[false, false, false, false, false, false, false, false, false, false, false, false, false, false, false, false, false] (by kernel_rfl) rfl rfl ⟨((HB.out.cell (World.block_lt_of_cell? w _ hw356_0)).trans hw356_0), ((HB.out.cell (World.block_lt_of_cell? w _ hw356_1)).trans hw356_1), ((HB.out.cell (World.block_lt_of_cell? w _ hw356_2)).trans hw356_2), ((HB.out.cell (World.block_lt_of_cell? w _ hw356_3)).trans hw356_3), ((HB.out.cell (World.block_lt_of_cell? w _ hw356_4)).trans hw356_4), ((HB.out.cell (World.block_lt_of_cell? w _ hw358_0)).trans hw358_0), ((HB.out.cell (World.block_lt_of_cell? w _ hw358_1)).trans hw358_1), ((HB.out.cell (World.block_lt_of_cell? w _ hw358_2)).trans hw358_2), ((HB.out.cell (World.block_lt_of_cell? w _ hw358_3)).trans hw358_3), ((HB.out.cell (World.block_lt_of_cell? w _ hw358_4)).trans hw358_4)⟩ (fun hHeld => ?_); refine with_tabW tailwaterlaw34_SinkSorted.tab15 tailwaterlaw34_SinkSorted.bits15 (fun HT_ HW_ => ?_)
             generalize w34.drew = w35 at HO_6 HB hx356_0 hx356_1 hx356_2 hx356_3 hx356_4 hx358_0 hx358_1 hx358_2 hx358_3 hx358_4 hHeld ⊢
             refine pure_ (i := 0) (N := some 94) (v := ?_) (a' := ?_) #[true, false, false, false, false, false, false, false, false, false, false, false, false, false, false, false, false] rfl rfl (any_of HT_.out (by kernel_rfl)) (fun _ _ _ h => h) (Or.inl ⟨by rfl, ?_⟩) ?_ ?_
             rotate_left
             ·
              intro w'
              go_simp
              with_reducible rfl
             rotate_left
             ·
              simp only [Act.put, List.setIfInBounds_toArray, List.set_cons_zero, List.set_cons_succ, i64_w, i32_w]
              rfl
             refine pure_ (i := 1) (N := some 95) (v := ?_) (a' := ?_) #[true, true, false, false, false, false, false, false, false, false, false, false, false, false, false, false, false] rfl rfl (any_of HT_.out (by kernel_rfl)) (fun _ _ _ h => h) (Or.inl ⟨by rfl, ?_⟩) ?_ ?_
             rotate_left
             ·
              intro w'
              go_simp
              with_reducible rfl
             rotate_left
             ·
              simp only [Act.put, List.setIfInBounds_toArray, List.set_cons_zero, List.set_cons_succ, i64_w, i32_w]
              rfl
             refine pure_ (i := 2) (N := some 96) (v := ?_) (a' := ?_) #[true, true, true, false, false, false, false, false, false, false, false, false, false, false, false, false, false] rfl rfl (any_of HT_.out (by kernel_rfl)) (fun _ _ _ h => h) (Or.inl ⟨by rfl, ?_⟩) ?_ ?_
             rotate_left
             ·
              intro w'
              go_simp
              with_reducible rfl
             rotate_left
             ·
              simp only [Act.put, List.setIfInBounds_toArray, List.set_cons_zero, List.set_cons_succ, i64_w, i32_w]
              rfl
             refine pure_ (i := 3) (N := some 97) (v := ?_) (a' := ?_) #[true, true, true, true, false, false, false, false, false, false, false, false, false, false, false, false, false] rfl rfl (any_of HT_.out (by kernel_rfl)) (fun _ _ _ h => h) (Or.inl ⟨by rfl, ?_⟩) ?_ ?_
             rotate_left
             ·
              intro w'
              go_simp
              with_reducible rfl
             rotate_left
             ·
              simp only [Act.put, List.setIfInBounds_toArray, List.set_cons_zero, List.set_cons_succ, i64_w, i32_w]
              rfl
             refine pure_ (i := 4) (N := some 98) (v := ?_) (a' := ?_) #[true, true, true, true, true, false, false, false, false, false, false, false, false, false, false, false, false] rfl rfl (any_of HT_.out (by kernel_rfl)) (fun _ _ _ h => h) (Or.inl ⟨by rfl, ?_⟩) ?_ ?_
             rotate_left
             ·
              intro w'
              go_simp
              with_reducible rfl
             rotate_left
             ·
              simp only [Act.put, List.setIfInBounds_toArray, List.set_cons_zero, List.set_cons_succ, i64_w, i32_w]
              rfl
             refine pure_ (i := 5) (N := some 99) (v := ?_) (a' := ?_) #[true, true, true, true, true, true, false, false, false, false, false, false, false, false, false, false, false] rfl rfl (any_of HT_.out (by kernel_rfl)) (fun _ _ _ h => h) (Or.inl ⟨by rfl, ?_⟩) ?_ ?_
             rotate_left
             ·
              intro w'
              go_simp
              with_reducible rfl
             rotate_left
             ·
              simp only [Act.put, List.setIfInBounds_toArray, List.set_cons_zero, List.set_cons_succ, i64_w, i32_w]
              rfl
             refine pure_ (i := 8) (N := some 102) (v := ?_) (a' := ?_) #[true, true, true, true, true, true, false, false, true, false, false, false, false, false, false, false, false] rfl rfl (any_of HT_.out (by kernel_rfl)) (fun _ _ _ h => h) (Or.inl ⟨by rfl, ?_⟩) ?_ ?_
             rotate_left
             ·
              intro w'
              go_simp
              with_reducible rfl
             rotate_left
             ·
              simp only [Act.put, List.setIfInBounds_toArray, List.set_cons_zero, List.set_cons_succ, i64_w, i32_w]
              rfl
             refine pure_ (i := 9) (N := some 103) (v := ?_) (a' := ?_) #[true, true, true, true, true, true, false, false, true, true, false, false, false, false, false, false, false] rfl rfl (any_of HT_.out (by kernel_rfl)) (fun _ _ _ h => h) (Or.inl ⟨by rfl, ?_⟩) ?_ ?_
             rotate_left
             ·
              intro w'
              go_simp
              with_reducible rfl
             rotate_left
             ·
              simp only [Act.put, List.setIfInBounds_toArray, List.set_cons_zero, List.set_cons_succ, i64_w, i32_w]
              rfl
             refine pure_ (i := 10) (N := some 104) (v := ?_) (a' := ?_) #[true, true, true, true, true, true, false, false, true, true, true, false, false, false, false, false, false] rfl rfl (any_of HT_.out (by kernel_rfl)) (fun _ _ _ h => h) (Or.inl ⟨by rfl, ?_⟩) ?_ ?_
             rotate_left
             ·
              intro w'
              go_simp
              with_reducible rfl
             rotate_left
             ·
              simp only [Act.put, List.setIfInBounds_toArray, List.set_cons_zero, List.set_cons_succ, i64_w, i32_w]
              rfl
             refine pure_ (i := 11) (N := some 105) (v := ?_) (a' := ?_) #[true, true, true, true, true, true, false, false, true, true, true, true, false, false, false, false, false] rfl rfl (any_of HT_.out (by kernel_rfl)) (fun _ _ _ h => h) (Or.inl ⟨by rfl, ?_⟩) ?_ ?_
             rotate_left
             ·
              intro w'
              go_simp
              with_reducible rfl
             rotate_left
             ·
              simp only [Act.put, List.setIfInBounds_toArray, List.set_cons_zero, List.set_cons_succ, i64_w, i32_w]
              rfl
             refine take_ (i := 6) (N := some 100) (v := ?_) (a' := ?_) #[true, true, true, true, true, true, true, false, true, true, true, true, false, false, false, false, false] rfl rfl (take_ofW HT_.out HW_.out (by kernel_rfl)) (fun _ _ _ h => h) (Or.inl ⟨by rfl, ?_⟩) hHeld ?_ ?_
             rotate_left
             ·
              rintro w' ⟨s0, s1, s2, s3, s4, s5, s6, s7, s8, s9⟩
              go_simp
              with_reducible rfl
             rotate_left
             ·
              simp only [Act.put, List.setIfInBounds_toArray, List.set_cons_zero, List.set_cons_succ, i64_w, i32_w]
              rfl
             refine take_ (i := 12) (N := some 106) (v := ?_) (a' := ?_) #[true, true, true, true, true, true, true, false, true, true, true, true, true, false, false, false, false] rfl rfl (take_ofW HT_.out HW_.out (by kernel_rfl)) (fun _ _ _ h => h) (Or.inl ⟨by rfl, ?_⟩) hHeld ?_ ?_
             rotate_left
             ·
              rintro w' ⟨s0, s1, s2, s3, s4, s5, s6, s7, s8, s9⟩
              go_simp
              with_reducible rfl
             rotate_left
             ·
              simp only [Act.put, List.setIfInBounds_toArray, List.set_cons_zero, List.set_cons_succ, i64_w, i32_w]
              rfl
             refine one_ (i := 7) (N := some 101) #[true, true, true, true, true, true, true, true, true, true, true, true, true, false, false, false, false] rfl rfl (one_of HT_.out (by kernel_rfl)) (by decide) (fun K hK => ?_)
             refine goes_ Try.func27 (by kernel_rfl) rfl #[.slice (some ad352) l0.length c0, .agg #[.int .i64 ((rd_T38 l0 x13_3).f0), .int .i64 ((rd_T38 l0 x13_3).f1.f0), .int .i64 ((rd_T38 l0 x13_3).f1.f1), .int .i64 ((rd_T38 l0 x13_3).f2.f0), .int .i64 ((rd_T38 l0 x13_3).f2.f1)]] (by rfl) rfl rfl (by (try simp only [List.map_toArray, List.map_cons, List.map_nil]); first | done | rfl | (simp only [List.length_drop, List.length_take]; rfl)) ?_
             with_reducible refine (tailwaterlaw34_often.calls k3 _ _ l0 ((rd_T38 l0 x13_3).f0) ((rd_T38 l0 x13_3).f1.f0) ((rd_T38 l0 x13_3).f1.f1) ((rd_T38 l0 x13_3).f2.f0) ((rd_T38 l0 x13_3).f2.f1) t357 _ ?side1 ?side2 A30.out).mono ?_
             (case side1 => repeat (first | exact (Kd.C_below HR0.out HB.out) | (with_reducible refine Kd.C_alloc ?_ _) | (with_reducible refine Kd.C_drewN ?_ _) | (with_reducible refine Kd.C_drew ?_)))
             (case side2 => exact HC0.out)
             rintro e w36 ⟨rfl, hb⟩
             refine ⟨_, rfl, ?_⟩
             have n0_ := Aside0.mk (Kd.R_below (by (with_reducible repeat (first | apply Kd.R_alloc | apply Kd.R_drewN | apply Kd.R_drew)); exact HO_6.out) hb)
             have n1_ := Aside0.mk (below_step (by repeat (first | (with_reducible first | exact HB.out | apply below_alloc | apply pw_below_drewN | apply below_drew1) | exact HB.out)) hb)
             clear HO_6 HB
             have HO_6 := n0_
             have HB := n1_
             clear n0_ n1_
             (try clear hb)
             (try clear hb2)
             (try clear hk)
             (try clear hi)
             refine hK.out _ _ ⟨((HB.out.cell (World.block_lt_of_cell? w _ hw356_0)).trans hw356_0), ((HB.out.cell (World.block_lt_of_cell? w _ hw356_1)).trans hw356_1), ((HB.out.cell (World.block_lt_of_cell? w _ hw356_2)).trans hw356_2), ((HB.out.cell (World.block_lt_of_cell? w _ hw356_3)).trans hw356_3), ((HB.out.cell (World.block_lt_of_cell? w _ hw356_4)).trans hw356_4), ((HB.out.cell (World.block_lt_of_cell? w _ hw358_0)).trans hw358_0), ((HB.out.cell (World.block_lt_of_cell? w _ hw358_1)).trans hw358_1), ((HB.out.cell (World.block_lt_of_cell? w _ hw358_2)).trans hw358_2), ((HB.out.cell (World.block_lt_of_cell? w _ hw358_3)).trans hw358_3), ((HB.out.cell (World.block_lt_of_cell? w _ hw358_4)).trans hw358_4)⟩ (fun hHeld => ?_)
             clear hK K
             refine norm_ (a' := ?_) ?_ ?_
             rotate_left
             ·
              show Act.put _ (some 101) _ = _
              simp only [Act.put, List.setIfInBounds_toArray, List.set_cons_zero, List.set_cons_succ, i64_w, i32_w]
              rfl
             refine one_ (i := 13) (N := some 107) #[true, true, true, true, true, true, true, true, true, true, true, true, true, true, false, false, false] rfl rfl (one_of HT_.out (by kernel_rfl)) (by decide) (fun K hK => ?_)
             refine goes_ Try.func27 (by kernel_rfl) rfl #[.slice A1 l1.length c1, .agg #[.int .i64 ((rd_T38 l0 x13_3).f0), .int .i64 ((rd_T38 l0 x13_3).f1.f0), .int .i64 ((rd_T38 l0 x13_3).f1.f1), .int .i64 ((rd_T38 l0 x13_3).f2.f0), .int .i64 ((rd_T38 l0 x13_3).f2.f1)]] (by rfl) rfl rfl (by (try simp only [List.map_toArray, List.map_cons, List.map_nil]); first | done | rfl | (simp only [List.length_drop, List.length_take]; rfl)) ?_
             with_reducible refine (tailwaterlaw34_often.calls k3 _ _ l1 ((rd_T38 l0 x13_3).f0) ((rd_T38 l0 x13_3).f1.f0) ((rd_T38 l0 x13_3).f1.f1) ((rd_T38 l0 x13_3).f2.f0) ((rd_T38 l0 x13_3).f2.f1) t359 _ ?side1 ?side2 A31.out).mono ?_
             (case side1 => repeat (first | exact (Kd.C_below HR1.out HB.out) | (with_reducible refine Kd.C_alloc ?_ _) | (with_reducible refine Kd.C_drewN ?_ _) | (with_reducible refine Kd.C_drew ?_)))
             (case side2 => exact HC1.out)
             rintro e w37 ⟨rfl, hb⟩
             refine ⟨_, rfl, ?_⟩
             have n0_ := Aside0.mk (Kd.R_below (by (with_reducible repeat (first | apply Kd.R_alloc | apply Kd.R_drewN | apply Kd.R_drew)); exact HO_6.out) hb)
             have n1_ := Aside0.mk (below_step (by repeat (first | (with_reducible first | exact HB.out | apply below_alloc | apply pw_below_drewN | apply below_drew1) | exact HB.out)) hb)
             clear HO_6 HB
             have HO_6 := n0_
             have HB := n1_
             clear n0_ n1_
             (try clear hb)
             (try clear hb2)
             (try clear hk)
             (try clear hi)
             refine hK.out _ _ ⟨((HB.out.cell (World.block_lt_of_cell? w _ hw356_0)).trans hw356_0), ((HB.out.cell (World.block_lt_of_cell? w _ hw356_1)).trans hw356_1), ((HB.out.cell (World.block_lt_of_cell? w _ hw356_2)).trans hw356_2), ((HB.out.cell (World.block_lt_of_cell? w _ hw356_3)).trans hw356_3), ((HB.out.cell (World.block_lt_of_cell? w _ hw356_4)).trans hw356_4), ((HB.out.cell (World.block_lt_of_cell? w _ hw358_0)).trans hw358_0), ((HB.out.cell (World.block_lt_of_cell? w _ hw358_1)).trans hw358_1), ((HB.out.cell (World.block_lt_of_cell? w _ hw358_2)).trans hw358_2), ((HB.out.cell (World.block_lt_of_cell? w _ hw358_3)).trans hw358_3), ((HB.out.cell (World.block_lt_of_cell? w _ hw358_4)).trans hw358_4)⟩ (fun hHeld => ?_)
             clear hK K
             refine norm_ (a' := ?_) ?_ ?_
             rotate_left
             ·
              show Act.put _ (some 107) _ = _
              simp only [Act.put, List.setIfInBounds_toArray, List.set_cons_zero, List.set_cons_succ, i64_w, i32_w]
              rfl
             refine pure_ (i := 14) (N := some 108) (v := ?_) (a' := ?_) #[true, true, true, true, true, true, true, true, true, true, true, true, true, true, true, false, false] rfl rfl (any_of HT_.out (by kernel_rfl)) (fun _ _ _ h => h) (Or.inl ⟨by rfl, ?_⟩) ?_ ?_
             rotate_left
             ·
              intro w'
              go_simp
              with_reducible rfl
             rotate_left
             ·
              simp only [Act.put, List.setIfInBounds_toArray, List.set_cons_zero, List.set_cons_succ, i64_w, i32_w]
              rfl
             refine pure_ (i := 15) (N := some 109) (v := ?_) (a' := ?_) #[true, true, true, true, true, true, true, true, true, true, true, true, true, true, true, true, false] rfl rfl (any_of HT_.out (by kernel_rfl)) (fun _ _ _ h => h) (Or.inl ⟨by rfl, ?_⟩) ?_ ?_
             rotate_left
             ·
              intro w'
              go_simp
              with_reducible rfl
             rotate_left
             ·
              simp only [Act.put, List.setIfInBounds_toArray, List.set_cons_zero, List.set_cons_succ, i64_w, i32_w]
              rfl
             refine pure_ (i := 16) (N := some 12) (v := ?_) (a' := ?_) #[true, true, true, true, true, true, true, true, true, true, true, true, true, true, true, true, true] rfl rfl (any_of HT_.out (by kernel_rfl)) (fun _ _ _ h => h) (Or.inl ⟨by rfl, ?_⟩) ?_ ?_
             rotate_left
             ·
              intro w'
              go_simp
              with_reducible rfl
             rotate_left
             ·
              simp only [Act.put, List.setIfInBounds_toArray, List.set_cons_zero, List.set_cons_succ, i64_w, i32_w]
              rfl
             refine done_ (done_of HT_.out (by kernel_rfl)) ?_
             try go_wp2
             go_roundg k3
             case measure => have := HJ3.out; have := HJ11.out; have := HK3.out; omega
             case rel => exact ⟨((t357 == t359)), (wrap64 (x13_3 + 1)), (by first | rfl | (simp; done) | (simp [*]; done)), (by first | rfl | (simp; done) | (simp [*]; done)), H', ⟨by have := HJ3.out; have := HJ11.out; have := HK3.out; omega⟩, ⟨by (with_reducible repeat (first | apply Kd.R_alloc | apply Kd.R_drewN | apply Kd.R_drew)); exact HO_6.out⟩, ⟨by repeat (first | (with_reducible first | exact HB.out | apply below_alloc | apply pw_below_drewN | apply below_drew1) | exact HB.out)⟩⟩
            ·
             replace c29 := Bool.eq_false_iff.mpr c29
             subst c29
             have H1 : (tailwaterlaw34_SinkSorted.l0 k3 l0 l1 t340 t341 t349 false (wrap64 (x13_3 + 1))) = some r := by rw [if_neg (show ¬ (false = true) by decide)] at H; exact H
             clear H
             have H := H1
             clear H1
             have H' := Aside0.mk H
             clear H
             try go_wp2
             have n0_ := Aside0.mk (Kd.R_drew HO_6.out)
             have n1_ := Aside0.mk (below_drew1 HB.out)
             clear HO_6 HB
             have HO_6 := n0_
             have HB := n1_
             clear n0_ n1_
             have p352 : 0 ≤ (x13_3 : Int) := of_decide_eq_true (by first | (with_reducible assumption) | assumption)
             have q352 : x13_3 < (l0.length : Int) := of_decide_eq_true (by first | (with_reducible assumption) | assumption)
             obtain ⟨ad352, e352, hx352_0, hx352_1, hx352_2, hx352_3, hx352_4⟩ := at_T38 HR0.out x13_3 p352 q352
             have hw352_4 := hx352_4
             have hw352_3 := hx352_3
             have hw352_2 := hx352_2
             have hw352_1 := hx352_1
             have hw352_0 := hx352_0
             cases e352
             replace hx352_0 := (HB.out.cell (World.block_lt_of_cell? w _ hx352_0)).trans hx352_0
             replace hx352_1 := (HB.out.cell (World.block_lt_of_cell? w _ hx352_1)).trans hx352_1
             replace hx352_2 := (HB.out.cell (World.block_lt_of_cell? w _ hx352_2)).trans hx352_2
             replace hx352_3 := (HB.out.cell (World.block_lt_of_cell? w _ hx352_3)).trans hx352_3
             replace hx352_4 := (HB.out.cell (World.block_lt_of_cell? w _ hx352_4)).trans hx352_4
             replace p352 := eq_true p352
             replace q352 := eq_true q352
             have p354 : 0 ≤ (x13_3 : Int) := of_decide_eq_true (by first | (with_reducible assumption) | assumption)
             have q354 : x13_3 < (l0.length : Int) := of_decide_eq_true (by first | (with_reducible assumption) | assumption)
             obtain ⟨ad354, e354, hx354_0, hx354_1, hx354_2, hx354_3, hx354_4⟩ := at_T38 HR0.out x13_3 p354 q354
             have hw354_4 := hx354_4
             have hw354_3 := hx354_3
             have hw354_2 := hx354_2
             have hw354_1 := hx354_1
             have hw354_0 := hx354_0
             obtain rfl : ad352 = ad354 := (by injection e354)
             replace hx354_0 := (HB.out.cell (World.block_lt_of_cell? w _ hx354_0)).trans hx354_0
             replace hx354_1 := (HB.out.cell (World.block_lt_of_cell? w _ hx354_1)).trans hx354_1
             replace hx354_2 := (HB.out.cell (World.block_lt_of_cell? w _ hx354_2)).trans hx354_2
             replace hx354_3 := (HB.out.cell (World.block_lt_of_cell? w _ hx354_3)).trans hx354_3
             replace hx354_4 := (HB.out.cell (World.block_lt_of_cell? w _ hx354_4)).trans hx354_4
             replace p354 := eq_true p354
             replace q354 := eq_true q354
             refine start_ (n := 13) (S := fun w' => w'.cell? (ad352.add ((x13_3).toNat * 5)) = some (.int .i64 ((rd_T38 l0 x13_3).f0)) ∧ w'.cell? ⟨(ad352.add ((x13_3).toNat * 5)).block, (ad352.add ((x13_3).toNat * 5)).off + 1, none⟩ = some (.int .i64 ((rd_T38 l0 x13_3).f1.f0)) ∧ w'.cell? ⟨(ad352.add ((x13_3).toNat * 5)).block, (ad352.add ((x13_3).toNat * 5)).off + 2, none⟩ = some (.int .i64 ((rd_T38 l0 x13_3).f1.f1)) ∧ w'.cell? ⟨(ad352.add ((x13_3).toNat * 5)).block, (ad352.add ((x13_3).toNat * 5)).off + 3, none⟩ = some (.int .i64 ((rd_T38 l0 x13_3).f2.f0)) ∧ w'.cell? ⟨(ad352.add ((x13_3).toNat * 5)).block, (ad352.add ((x13_3).toNat * 5)).off + 4, none⟩ = some (.int .i64 ((rd_T38 l0 x13_3).f2.f1)) ∧ w'.cell? (ad352.add ((x13_3).toNat * 5)) = some (.int .i64 ((rd_T38 l0 x13_3).f0)) ∧ w'.cell? ⟨(ad352.add ((x13_3).toNat * 5)).block, (ad352.add ((x13_3).toNat * 5)).off + 1, none⟩ = some (.int .i64 ((rd_T38 l0 x13_3).f1.f0)) ∧ w'.cell? ⟨(ad352.add ((x13_3).toNat * 5)).block, (ad352.add ((x13_3).toNat * 5)).off + 2, none⟩ = some (.int .i64 ((rd_T38 l0 x13_3).f1.f1)) ∧ w'.cell? ⟨(ad352.add ((x13_3).toNat * 5)).block, (ad352.add ((x13_3).toNat * 5)).off + 3, none⟩ = some (.int .i64 ((rd_T38 l0 x13_3).f2.f0)) ∧ w'.cell? ⟨(ad352.add ((x13_3).toNat * 5)).block, (ad352.add ((x13_3).toNat * 5)).off + 4, none⟩ = some (.int .i64 ((rd_T38 l0 x13_3).f2.f1))) (ds := []) #[false, false, false, false, false, false, false, false, false, false, false, false, false] (by kernel_rfl) rfl rfl ⟨((HB.out.cell (World.block_lt_of_cell? w _ hw352_0)).trans hw352_0), ((HB.out.cell (World.block_lt_of_cell? w _ hw352_1)).trans hw352_1), ((HB.out.cell (World.block_lt_of_cell? w _ hw352_2)).trans hw352_2), ((HB.out.cell (World.block_lt_of_cell? w _ hw352_3)).trans hw352_3), ((HB.out.cell (World.block_lt_of_cell? w _ hw352_4)).trans hw352_4), ((HB.out.cell (World.block_lt_of_cell? w _ hw354_0)).trans hw354_0), ((HB.out.cell (World.block_lt_of_cell? w _ hw354_1)).trans hw354_1), ((HB.out.cell (World.block_lt_of_cell? w _ hw354_2)).trans hw354_2), ((HB.out.cell (World.block_lt_of_cell? w _ hw354_3)).trans hw354_3), ((HB.out.cell (World.block_lt_of_cell? w _ hw354_4)).trans hw354_4)⟩ (fun hHeld => ?_); refine with_tabW tailwaterlaw34_SinkSorted.tab13 tailwaterlaw34_SinkSorted.bits13 (fun HT_ HW_ => ?_)
             generalize wr.drew = w38 at HO_6 HB hx352_0 hx352_1 hx352_2 hx352_3 hx352_4 hx354_0 hx354_1 hx354_2 hx354_3 hx354_4 hHeld ⊢
             refine pure_ (i := 0) (N := some 81) (v := ?_) (a' := ?_) #[true, false, false, false, false, false, false, false, false, false, false, false, false] rfl rfl (any_of HT_.out (by kernel_rfl)) (fun _ _ _ h => h) (Or.inl ⟨by rfl, ?_⟩) ?_ ?_
             rotate_left
             ·
              intro w'
              go_simp
              with_reducible rfl
             rotate_left
             ·
              simp only [Act.put, List.setIfInBounds_toArray, List.set_cons_zero, List.set_cons_succ, i64_w, i32_w]
              rfl
             refine pure_ (i := 1) (N := some 82) (v := ?_) (a' := ?_) #[true, true, false, false, false, false, false, false, false, false, false, false, false] rfl rfl (any_of HT_.out (by kernel_rfl)) (fun _ _ _ h => h) (Or.inl ⟨by rfl, ?_⟩) ?_ ?_
             rotate_left
             ·
              intro w'
              go_simp
              with_reducible rfl
             rotate_left
             ·
              simp only [Act.put, List.setIfInBounds_toArray, List.set_cons_zero, List.set_cons_succ, i64_w, i32_w]
              rfl
             refine pure_ (i := 2) (N := some 83) (v := ?_) (a' := ?_) #[true, true, true, false, false, false, false, false, false, false, false, false, false] rfl rfl (any_of HT_.out (by kernel_rfl)) (fun _ _ _ h => h) (Or.inl ⟨by rfl, ?_⟩) ?_ ?_
             rotate_left
             ·
              intro w'
              go_simp
              with_reducible rfl
             rotate_left
             ·
              simp only [Act.put, List.setIfInBounds_toArray, List.set_cons_zero, List.set_cons_succ, i64_w, i32_w]
              rfl
             refine pure_ (i := 3) (N := some 84) (v := ?_) (a' := ?_) #[true, true, true, true, false, false, false, false, false, false, false, false, false] rfl rfl (any_of HT_.out (by kernel_rfl)) (fun _ _ _ h => h) (Or.inl ⟨by rfl, ?_⟩) ?_ ?_
             rotate_left
             ·
              intro w'
              go_simp
              with_reducible rfl
             rotate_left
             ·
              simp only [Act.put, List.setIfInBounds_toArray, List.set_cons_zero, List.set_cons_succ, i64_w, i32_w]
              rfl
             refine pure_ (i := 6) (N := some 87) (v := ?_) (a' := ?_) #[true, true, true, true, false, false, true, false, false, false, false, false, false] rfl rfl (any_of HT_.out (by kernel_rfl)) (fun _ _ _ h => h) (Or.inl ⟨by rfl, ?_⟩) ?_ ?_
             rotate_left
             ·
              intro w'
              go_simp
              with_reducible rfl
             rotate_left
             ·
              simp only [Act.put, List.setIfInBounds_toArray, List.set_cons_zero, List.set_cons_succ, i64_w, i32_w]
              rfl
             refine pure_ (i := 7) (N := some 88) (v := ?_) (a' := ?_) #[true, true, true, true, false, false, true, true, false, false, false, false, false] rfl rfl (any_of HT_.out (by kernel_rfl)) (fun _ _ _ h => h) (Or.inl ⟨by rfl, ?_⟩) ?_ ?_
             rotate_left
             ·
              intro w'
              go_simp
              with_reducible rfl
             rotate_left
             ·
              simp only [Act.put, List.setIfInBounds_toArray, List.set_cons_zero, List.set_cons_succ, i64_w, i32_w]
              rfl
             refine pure_ (i := 8) (N := some 89) (v := ?_) (a' := ?_) #[true, true, true, true, false, false, true, true, true, false, false, false, false] rfl rfl (any_of HT_.out (by kernel_rfl)) (fun _ _ _ h => h) (Or.inl ⟨by rfl, ?_⟩) ?_ ?_
             rotate_left
             ·
              intro w'
              go_simp
              with_reducible rfl
             rotate_left
             ·
              simp only [Act.put, List.setIfInBounds_toArray, List.set_cons_zero, List.set_cons_succ, i64_w, i32_w]
              rfl
             refine pure_ (i := 9) (N := some 90) (v := ?_) (a' := ?_) #[true, true, true, true, false, false, true, true, true, true, false, false, false] rfl rfl (any_of HT_.out (by kernel_rfl)) (fun _ _ _ h => h) (Or.inl ⟨by rfl, ?_⟩) ?_ ?_
             rotate_left
             ·
              intro w'
              go_simp
              with_reducible rfl
             rotate_left
             ·
              simp only [Act.put, List.setIfInBounds_toArray, List.set_cons_zero, List.set_cons_succ, i64_w, i32_w]
              rfl
             refine take_ (i := 4) (N := some 85) (v := ?_) (a' := ?_) #[true, true, true, true, true, false, true, true, true, true, false, false, false] rfl rfl (take_ofW HT_.out HW_.out (by kernel_rfl)) (fun _ _ _ h => h) (Or.inl ⟨by rfl, ?_⟩) hHeld ?_ ?_
             rotate_left
             ·
              rintro w' ⟨s0, s1, s2, s3, s4, s5, s6, s7, s8, s9⟩
              go_simp
              with_reducible rfl
             rotate_left
             ·
              simp only [Act.put, List.setIfInBounds_toArray, List.set_cons_zero, List.set_cons_succ, i64_w, i32_w]
              rfl
             refine take_ (i := 10) (N := some 91) (v := ?_) (a' := ?_) #[true, true, true, true, true, false, true, true, true, true, true, false, false] rfl rfl (take_ofW HT_.out HW_.out (by kernel_rfl)) (fun _ _ _ h => h) (Or.inl ⟨by rfl, ?_⟩) hHeld ?_ ?_
             rotate_left
             ·
              rintro w' ⟨s0, s1, s2, s3, s4, s5, s6, s7, s8, s9⟩
              go_simp
              with_reducible rfl
             rotate_left
             ·
              simp only [Act.put, List.setIfInBounds_toArray, List.set_cons_zero, List.set_cons_succ, i64_w, i32_w]
              rfl
             refine one_ (i := 5) (N := some 86) #[true, true, true, true, true, true, true, true, true, true, true, false, false] rfl rfl (one_of HT_.out (by kernel_rfl)) (by decide) (fun K hK => ?_)
             refine goes_ Try.func27 (by kernel_rfl) rfl #[.slice Ao14 t341.length co14, .agg #[.int .i64 ((rd_T38 l0 x13_3).f0), .int .i64 ((rd_T38 l0 x13_3).f1.f0), .int .i64 ((rd_T38 l0 x13_3).f1.f1), .int .i64 ((rd_T38 l0 x13_3).f2.f0), .int .i64 ((rd_T38 l0 x13_3).f2.f1)]] (by rfl) rfl rfl (by (try simp only [List.map_toArray, List.map_cons, List.map_nil]); first | done | rfl | (simp only [List.length_drop, List.length_take]; rfl)) ?_
             with_reducible refine (tailwaterlaw34_often.calls k3 _ _ t341 ((rd_T38 l0 x13_3).f0) ((rd_T38 l0 x13_3).f1.f0) ((rd_T38 l0 x13_3).f1.f1) ((rd_T38 l0 x13_3).f2.f0) ((rd_T38 l0 x13_3).f2.f1) t353 _ ?side1 ?side2 A26.out).mono ?_
             (case side1 => repeat (first | exact (Kd.R_reads' HO_6.out).2.2 | (with_reducible refine Kd.C_alloc ?_ _) | (with_reducible refine Kd.C_drewN ?_ _) | (with_reducible refine Kd.C_drew ?_)))
             (case side2 => exact (Kd.R_reads' HO_6.out).2.1)
             rintro e w39 ⟨rfl, hb⟩
             refine ⟨_, rfl, ?_⟩
             have n0_ := Aside0.mk (Kd.R_below (by (with_reducible repeat (first | apply Kd.R_alloc | apply Kd.R_drewN | apply Kd.R_drew)); exact HO_6.out) hb)
             have n1_ := Aside0.mk (below_step (by repeat (first | (with_reducible first | exact HB.out | apply below_alloc | apply pw_below_drewN | apply below_drew1) | exact HB.out)) hb)
             clear HO_6 HB
             have HO_6 := n0_
             have HB := n1_
             clear n0_ n1_
             (try clear hb)
             (try clear hb2)
             (try clear hk)
             (try clear hi)
             refine hK.out _ _ ⟨((HB.out.cell (World.block_lt_of_cell? w _ hw352_0)).trans hw352_0), ((HB.out.cell (World.block_lt_of_cell? w _ hw352_1)).trans hw352_1), ((HB.out.cell (World.block_lt_of_cell? w _ hw352_2)).trans hw352_2), ((HB.out.cell (World.block_lt_of_cell? w _ hw352_3)).trans hw352_3), ((HB.out.cell (World.block_lt_of_cell? w _ hw352_4)).trans hw352_4), ((HB.out.cell (World.block_lt_of_cell? w _ hw354_0)).trans hw354_0), ((HB.out.cell (World.block_lt_of_cell? w _ hw354_1)).trans hw354_1), ((HB.out.cell (World.block_lt_of_cell? w _ hw354_2)).trans hw354_2), ((HB.out.cell (World.block_lt_of_cell? w _ hw354_3)).trans hw354_3), ((HB.out.cell (World.block_lt_of_cell? w _ hw354_4)).trans hw354_4)⟩ (fun hHeld => ?_)
             clear hK K
             refine norm_ (a' := ?_) ?_ ?_
             rotate_left
             ·
              show Act.put _ (some 86) _ = _
              simp only [Act.put, List.setIfInBounds_toArray, List.set_cons_zero, List.set_cons_succ, i64_w, i32_w]
              rfl
             refine one_ (i := 11) (N := some 92) #[true, true, true, true, true, true, true, true, true, true, true, true, false] rfl rfl (one_of HT_.out (by kernel_rfl)) (by decide) (fun K hK => ?_)
             refine goes_ Try.func27 (by kernel_rfl) rfl #[.slice (some ad352) l0.length c0, .agg #[.int .i64 ((rd_T38 l0 x13_3).f0), .int .i64 ((rd_T38 l0 x13_3).f1.f0), .int .i64 ((rd_T38 l0 x13_3).f1.f1), .int .i64 ((rd_T38 l0 x13_3).f2.f0), .int .i64 ((rd_T38 l0 x13_3).f2.f1)]] (by rfl) rfl rfl (by (try simp only [List.map_toArray, List.map_cons, List.map_nil]); first | done | rfl | (simp only [List.length_drop, List.length_take]; rfl)) ?_
             with_reducible refine (tailwaterlaw34_often.calls k3 _ _ l0 ((rd_T38 l0 x13_3).f0) ((rd_T38 l0 x13_3).f1.f0) ((rd_T38 l0 x13_3).f1.f1) ((rd_T38 l0 x13_3).f2.f0) ((rd_T38 l0 x13_3).f2.f1) t355 _ ?side1 ?side2 A27.out).mono ?_
             (case side1 => repeat (first | exact (Kd.C_below HR0.out HB.out) | (with_reducible refine Kd.C_alloc ?_ _) | (with_reducible refine Kd.C_drewN ?_ _) | (with_reducible refine Kd.C_drew ?_)))
             (case side2 => exact HC0.out)
             rintro e w40 ⟨rfl, hb⟩
             refine ⟨_, rfl, ?_⟩
             have n0_ := Aside0.mk (Kd.R_below (by (with_reducible repeat (first | apply Kd.R_alloc | apply Kd.R_drewN | apply Kd.R_drew)); exact HO_6.out) hb)
             have n1_ := Aside0.mk (below_step (by repeat (first | (with_reducible first | exact HB.out | apply below_alloc | apply pw_below_drewN | apply below_drew1) | exact HB.out)) hb)
             clear HO_6 HB
             have HO_6 := n0_
             have HB := n1_
             clear n0_ n1_
             (try clear hb)
             (try clear hb2)
             (try clear hk)
             (try clear hi)
             refine hK.out _ _ ⟨((HB.out.cell (World.block_lt_of_cell? w _ hw352_0)).trans hw352_0), ((HB.out.cell (World.block_lt_of_cell? w _ hw352_1)).trans hw352_1), ((HB.out.cell (World.block_lt_of_cell? w _ hw352_2)).trans hw352_2), ((HB.out.cell (World.block_lt_of_cell? w _ hw352_3)).trans hw352_3), ((HB.out.cell (World.block_lt_of_cell? w _ hw352_4)).trans hw352_4), ((HB.out.cell (World.block_lt_of_cell? w _ hw354_0)).trans hw354_0), ((HB.out.cell (World.block_lt_of_cell? w _ hw354_1)).trans hw354_1), ((HB.out.cell (World.block_lt_of_cell? w _ hw354_2)).trans hw354_2), ((HB.out.cell (World.block_lt_of_cell? w _ hw354_3)).trans hw354_3), ((HB.out.cell (World.block_lt_of_cell? w _ hw354_4)).trans hw354_4)⟩ (fun hHeld => ?_)
             clear hK K
             refine norm_ (a' := ?_) ?_ ?_
             rotate_left
             ·
              show Act.put _ (some 92) _ = _
              simp only [Act.put, List.setIfInBounds_toArray, List.set_cons_zero, List.set_cons_succ, i64_w, i32_w]
              rfl
             refine pure_ (i := 12) (N := some 93) (v := ?_) (a' := ?_) #[true, true, true, true, true, true, true, true, true, true, true, true, true] rfl rfl (any_of HT_.out (by kernel_rfl)) (fun _ _ _ h => h) (Or.inl ⟨by rfl, ?_⟩) ?_ ?_
             rotate_left
             ·
              intro w'
              go_simp
              with_reducible rfl
             rotate_left
             ·
              simp only [Act.put, List.setIfInBounds_toArray, List.set_cons_zero, List.set_cons_succ, i64_w, i32_w]
              rfl
             refine done_ (done_of HT_.out (by kernel_rfl)) ?_
             try go_wp2
             have n0_ := Aside0.mk (Kd.R_drew HO_6.out)
             have n1_ := Aside0.mk (below_drew1 HB.out)
             clear HO_6 HB
             have HO_6 := n0_
             have HB := n1_
             clear n0_ n1_
             refine start_ (n := 17) (S := fun w' => True) (ds := []) #[false, false, false, false, false, false, false, false, false, false, false, false, false, false, false, false, false] (by kernel_rfl) rfl rfl trivial (fun hHeld => ?_); refine with_tabW tailwaterlaw34_SinkSorted.tab15 tailwaterlaw34_SinkSorted.bits15 (fun HT_ HW_ => ?_)
             generalize w40.drew = w41 at HO_6 HB hHeld ⊢
             refine pure_ (i := 0) (N := some 94) (v := ?_) (a' := ?_) #[true, false, false, false, false, false, false, false, false, false, false, false, false, false, false, false, false] rfl rfl (any_of HT_.out (by kernel_rfl)) (fun _ _ _ h => h) (Or.inl ⟨by rfl, ?_⟩) ?_ ?_
             rotate_left
             ·
              intro w'
              go_simp
              with_reducible rfl
             rotate_left
             ·
              simp only [Act.put, List.setIfInBounds_toArray, List.set_cons_zero, List.set_cons_succ, i64_w, i32_w]
              rfl
             refine pure_ (i := 1) (N := some 95) (v := ?_) (a' := ?_) #[true, true, false, false, false, false, false, false, false, false, false, false, false, false, false, false, false] rfl rfl (any_of HT_.out (by kernel_rfl)) (fun _ _ _ h => h) (Or.inl ⟨by rfl, ?_⟩) ?_ ?_
             rotate_left
             ·
              intro w'
              go_simp
              with_reducible rfl
             rotate_left
             ·
              simp only [Act.put, List.setIfInBounds_toArray, List.set_cons_zero, List.set_cons_succ, i64_w, i32_w]
              rfl
             refine pure_ (i := 2) (N := some 96) (v := undef) (a' := ?_) #[true, true, true, false, false, false, false, false, false, false, false, false, false, false, false, false, false] rfl rfl (any_of HT_.out (by kernel_rfl)) (fun _ _ _ h => h) (Or.inr ⟨by rfl, rfl⟩) ?_ ?_
             rotate_left
             ·
              simp only [Act.put, List.setIfInBounds_toArray, List.set_cons_zero, List.set_cons_succ, i64_w, i32_w]
              rfl
             refine pure_ (i := 3) (N := some 97) (v := undef) (a' := ?_) #[true, true, true, true, false, false, false, false, false, false, false, false, false, false, false, false, false] rfl rfl (any_of HT_.out (by kernel_rfl)) (fun _ _ _ h => h) (Or.inr ⟨by rfl, rfl⟩) ?_ ?_
             rotate_left
             ·
              simp only [Act.put, List.setIfInBounds_toArray, List.set_cons_zero, List.set_cons_succ, i64_w, i32_w]
              rfl
             refine pure_ (i := 4) (N := some 98) (v := undef) (a' := ?_) #[true, true, true, true, true, false, false, false, false, false, false, false, false, false, false, false, false] rfl rfl (any_of HT_.out (by kernel_rfl)) (fun _ _ _ h => h) (Or.inr ⟨by rfl, rfl⟩) ?_ ?_
             rotate_left
             ·
              simp only [Act.put, List.setIfInBounds_toArray, List.set_cons_zero, List.set_cons_succ, i64_w, i32_w]
              rfl
             refine pure_ (i := 5) (N := some 99) (v := undef) (a' := ?_) #[true, true, true, true, true, true, false, false, false, false, false, false, false, false, false, false, false] rfl rfl (any_of HT_.out (by kernel_rfl)) (fun _ _ _ h => h) (Or.inr ⟨by rfl, rfl⟩) ?_ ?_
             rotate_left
             ·
              simp only [Act.put, List.setIfInBounds_toArray, List.set_cons_zero, List.set_cons_succ, i64_w, i32_w]
              rfl
             refine pure_ (i := 6) (N := some 100) (v := undef) (a' := ?_) #[true, true, true, true, true, true, true, false, false, false, false, false, false, false, false, false, false] rfl rfl (any_of HT_.out (by kernel_rfl)) (fun _ _ _ h => h) (Or.inr ⟨by rfl, rfl⟩) ?_ ?_
             rotate_left
             ·
              simp only [Act.put, List.setIfInBounds_toArray, List.set_cons_zero, List.set_cons_succ, i64_w, i32_w]
              rfl
             refine pure_ (i := 7) (N := some 101) (v := undef) (a' := ?_) #[true, true, true, true, true, true, true, true, false, false, false, false, false, false, false, false, false] rfl rfl (any_of HT_.out (by kernel_rfl)) (fun _ _ _ h => h) (Or.inr ⟨by rfl, rfl⟩) ?_ ?_
             rotate_left
             ·
              simp only [Act.put, List.setIfInBounds_toArray, List.set_cons_zero, List.set_cons_succ, i64_w, i32_w]
              rfl
             refine pure_ (i := 8) (N := some 102) (v := undef) (a' := ?_) #[true, true, true, true, true, true, true, true, true, false, false, false, false, false, false, false, false] rfl rfl (any_of HT_.out (by kernel_rfl)) (fun _ _ _ h => h) (Or.inr ⟨by rfl, rfl⟩) ?_ ?_
             rotate_left
             ·
              simp only [Act.put, List.setIfInBounds_toArray, List.set_cons_zero, List.set_cons_succ, i64_w, i32_w]
              rfl
             refine pure_ (i := 9) (N := some 103) (v := undef) (a' := ?_) #[true, true, true, true, true, true, true, true, true, true, false, false, false, false, false, false, false] rfl rfl (any_of HT_.out (by kernel_rfl)) (fun _ _ _ h => h) (Or.inr ⟨by rfl, rfl⟩) ?_ ?_
             rotate_left
             ·
              simp only [Act.put, List.setIfInBounds_toArray, List.set_cons_zero, List.set_cons_succ, i64_w, i32_w]
              rfl
             refine pure_ (i := 10) (N := some 104) (v := undef) (a' := ?_) #[true, true, true, true, true, true, true, true, true, true, true, false, false, false, false, false, false] rfl rfl (any_of HT_.out (by kernel_rfl)) (fun _ _ _ h => h) (Or.inr ⟨by rfl, rfl⟩) ?_ ?_
             rotate_left
             ·
              simp only [Act.put, List.setIfInBounds_toArray, List.set_cons_zero, List.set_cons_succ, i64_w, i32_w]
              rfl
             refine pure_ (i := 11) (N := some 105) (v := undef) (a' := ?_) #[true, true, true, true, true, true, true, true, true, true, true, true, false, false, false, false, false] rfl rfl (any_of HT_.out (by kernel_rfl)) (fun _ _ _ h => h) (Or.inr ⟨by rfl, rfl⟩) ?_ ?_
             rotate_left
             ·
              simp only [Act.put, List.setIfInBounds_toArray, List.set_cons_zero, List.set_cons_succ, i64_w, i32_w]
              rfl
             refine pure_ (i := 12) (N := some 106) (v := undef) (a' := ?_) #[true, true, true, true, true, true, true, true, true, true, true, true, true, false, false, false, false] rfl rfl (any_of HT_.out (by kernel_rfl)) (fun _ _ _ h => h) (Or.inr ⟨by rfl, rfl⟩) ?_ ?_
             rotate_left
             ·
              simp only [Act.put, List.setIfInBounds_toArray, List.set_cons_zero, List.set_cons_succ, i64_w, i32_w]
              rfl
             refine pure_ (i := 13) (N := some 107) (v := undef) (a' := ?_) #[true, true, true, true, true, true, true, true, true, true, true, true, true, true, false, false, false] rfl rfl (any_of HT_.out (by kernel_rfl)) (fun _ _ _ h => h) (Or.inr ⟨by rfl, rfl⟩) ?_ ?_
             rotate_left
             ·
              simp only [Act.put, List.setIfInBounds_toArray, List.set_cons_zero, List.set_cons_succ, i64_w, i32_w]
              rfl
             refine pure_ (i := 14) (N := some 108) (v := undef) (a' := ?_) #[true, true, true, true, true, true, true, true, true, true, true, true, true, true, true, false, false] rfl rfl (any_of HT_.out (by kernel_rfl)) (fun _ _ _ h => h) (Or.inr ⟨by rfl, rfl⟩) ?_ ?_
             rotate_left
             ·
              simp only [Act.put, List.setIfInBounds_toArray, List.set_cons_zero, List.set_cons_succ, i64_w, i32_w]
              rfl
             refine pure_ (i := 15) (N := some 109) (v := ?_) (a' := ?_) #[true, true, true, true, true, true, true, true, true, true, true, true, true, true, true, true, false] rfl rfl (any_of HT_.out (by kernel_rfl)) (fun _ _ _ h => h) (Or.inl ⟨by rfl, ?_⟩) ?_ ?_
             rotate_left
             ·
              intro w'
              go_simp
              with_reducible rfl
             rotate_left
             ·
              simp only [Act.put, List.setIfInBounds_toArray, List.set_cons_zero, List.set_cons_succ, i64_w, i32_w]
              rfl
             refine pure_ (i := 16) (N := some 12) (v := ?_) (a' := ?_) #[true, true, true, true, true, true, true, true, true, true, true, true, true, true, true, true, true] rfl rfl (any_of HT_.out (by kernel_rfl)) (fun _ _ _ h => h) (Or.inl ⟨by rfl, ?_⟩) ?_ ?_
             rotate_left
             ·
              intro w'
              go_simp
              with_reducible rfl
             rotate_left
             ·
              simp only [Act.put, List.setIfInBounds_toArray, List.set_cons_zero, List.set_cons_succ, i64_w, i32_w]
              rfl
             refine done_ (done_of HT_.out (by kernel_rfl)) ?_
             try go_wp2
             go_roundg k3
             case measure => have := HJ3.out; have := HJ11.out; have := HK3.out; omega
             case rel => exact ⟨(false), (wrap64 (x13_3 + 1)), (by first | rfl | (simp; done) | (simp [*]; done)), (by first | rfl | (simp; done) | (simp [*]; done)), H', ⟨by have := HJ3.out; have := HJ11.out; have := HK3.out; omega⟩, ⟨by (with_reducible repeat (first | apply Kd.R_alloc | apply Kd.R_drewN | apply Kd.R_drew)); exact HO_6.out⟩, ⟨by repeat (first | (with_reducible first | exact HB.out | apply below_alloc | apply pw_below_drewN | apply below_drew1) | exact HB.out)⟩⟩
           ·
            rw [if_neg c28] at H
            have c28b0 : (t353 == t355) = false := beq_eq_false_iff_ne.mpr c28
            have c28b1 : (t353 != t355) = true := bne_iff_ne.mpr c28
            exact absurd ((Option.some.inj H).trans hR_) (by decide)
          ·
           rw [if_neg c25] at H
           exact absurd H (by simp)
         ·
          rw [if_neg c24] at H
          have c24b0 : decide (x13_3 < (l0.length : Int)) = false := decide_eq_false c24
          clear c24
          have H' := Aside0.mk H
          clear H
          go_wp2
          go_loopg [14] k3 (fun kq v14 w' => ∃ (x14_4 : Int), v14 = .int .i64 x14_4 ∧ Aside0 (tailwaterlaw34_SinkSorted.l1 kq t340 t341 t349 x12_3 x14_4 = some r) ∧ Aside0 (kq ≤ k3) ∧ Aside0 (Kd.R k38 38 w' w.heap.size (fun _ => True) (.slice Ao14 t341.length co14) t341) ∧ Aside0 (Below w.heap.size w w'))
          case atStart => exact ⟨(1), (by first | rfl | (simp; done) | (simp [*]; done)), H', ⟨Nat.le_refl _⟩, ⟨by (with_reducible repeat (first | apply Kd.R_alloc | apply Kd.R_drewN | apply Kd.R_drew)); exact HO_6.out⟩, ⟨by repeat (first | (with_reducible first | exact HB.out | apply below_alloc | apply pw_below_drewN | apply below_drew1) | exact HB.out)⟩⟩
          case round =>
           clear H'
           try clear c1
           try clear c2
           try clear p2
           try clear p3
           try clear q3
           try clear hx3
           try clear p6
           try clear c24
           try clear c24b0
           try clear c25
           try clear c27
           try clear c28
           try clear c28b0
           try clear c28b1
           try clear c29
           try clear p35
           try clear q35
           try clear hx35
           try clear hx352_0
           try clear hx352_1
           try clear hx352_2
           try clear hx352_3
           try clear hx352_4
           try clear hx354_0
           try clear hx354_1
           try clear hx354_2
           try clear hx354_3
           try clear hx354_4
           try clear hx356_0
           try clear hx356_1
           try clear hx356_2
           try clear hx356_3
           try clear hx356_4
           try clear hx358_0
           try clear hx358_1
           try clear hx358_2
           try clear hx358_3
           try clear hx358_4
           try clear p352
           try clear p354
           try clear p356
           try clear p358
           try clear q352
           try clear q354
           try clear q356
           try clear q358
           obtain ⟨x14_4, rfl, HA, HK4, HO_6, HB⟩ := hrel
           cases gk with
           | zero => exact absurd HA.out (by simp [tailwaterlaw34_SinkSorted.l1])
           | succ k4 =>
            have H := HA.out
            clear HA
            simp only [tailwaterlaw34_SinkSorted.l1] at H
            by_cases c42 : x14_4 < (t341.length : Int)
            ·
             rw [if_pos c42] at H
             have c42b0 : decide (x14_4 < (t341.length : Int)) = true := decide_eq_true c42
             clear c42
             obtain ⟨ji43, hji43⟩ : ∃ j_ : Int, (wrap64 (x14_4 - 1)) = j_ := ⟨_, rfl⟩
             replace H : (if 0 ≤ (ji43) then (if (ji43) < (t341.length : Int) then (if 0 ≤ x14_4 then (if ((rd_T38 t341 (ji43)).f1.f1) > ((rd_T38 t341 x14_4).f1.f1) then (some false) else (if ((rd_T38 t341 (ji43)).f1.f1) = ((rd_T38 t341 x14_4).f1.f1) then (if ((rd_T38 t341 (ji43)).f1.f0) > ((rd_T38 t341 x14_4).f1.f0) then (some false) else (if ((rd_T38 t341 (ji43)).f1.f0) = ((rd_T38 t341 x14_4).f1.f0) then (if ((rd_T38 t341 (ji43)).f0) > ((rd_T38 t341 x14_4).f0) then (some false) else (tailwaterlaw34_SinkSorted.l1 k4 t340 t341 t349 x12_3 (wrap64 (x14_4 + 1)))) else (tailwaterlaw34_SinkSorted.l1 k4 t340 t341 t349 x12_3 (wrap64 (x14_4 + 1))))) else (tailwaterlaw34_SinkSorted.l1 k4 t340 t341 t349 x12_3 (wrap64 (x14_4 + 1))))) else (none)) else (none)) else (none)) = some r := by first | (rw [hji43] at H; exact H) | (simp only [hji43] at H ⊢; exact H)
             have hji43w : (IntKind.i64.wrap (x14_4 - 1)) = ji43 := (i64_w _).trans hji43
             by_cases c44 : 0 ≤ (ji43)
             ·
              rw [if_pos c44] at H
              have c44b0 : decide (0 ≤ (ji43)) = true := decide_eq_true c44
              clear c44
              by_cases c45 : (ji43) < (t341.length : Int)
              ·
               rw [if_pos c45] at H
               have c45b0 : decide ((ji43) < (t341.length : Int)) = true := decide_eq_true c45
               clear c45
               by_cases c46 : 0 ≤ x14_4
               ·
                rw [if_pos c46] at H
                have c46b0 : decide (0 ≤ x14_4) = true := decide_eq_true c46
                clear c46
                by_cases c47 : ((rd_T38 t341 (ji43)).f1.f1) > ((rd_T38 t341 x14_4).f1.f1)
                ·
                 rw [if_pos c47] at H
                 have c47b0 : decide (((rd_T38 t341 x14_4).f1.f1) < ((rd_T38 t341 (ji43)).f1.f1)) = true := decide_eq_true c47
                 clear c47
                 exact absurd ((Option.some.inj H).trans hR_) (by decide)
                ·
                 rw [if_neg c47] at H
                 have c47b0 : decide (((rd_T38 t341 x14_4).f1.f1) < ((rd_T38 t341 (ji43)).f1.f1)) = false := decide_eq_false c47
                 clear c47
                 by_cases c48 : ((rd_T38 t341 (ji43)).f1.f1) = ((rd_T38 t341 x14_4).f1.f1)
                 ·
                  rw [if_pos c48] at H
                  have c48b0 : (((rd_T38 t341 (ji43)).f1.f1) == ((rd_T38 t341 x14_4).f1.f1)) = true := beq_iff_eq.mpr c48
                  have c48b1 : (((rd_T38 t341 (ji43)).f1.f1) != ((rd_T38 t341 x14_4).f1.f1)) = false := bne_eq_false_iff_eq.mpr c48
                  clear c48
                  by_cases c49 : ((rd_T38 t341 (ji43)).f1.f0) > ((rd_T38 t341 x14_4).f1.f0)
                  ·
                   rw [if_pos c49] at H
                   have c49b0 : decide (((rd_T38 t341 x14_4).f1.f0) < ((rd_T38 t341 (ji43)).f1.f0)) = true := decide_eq_true c49
                   clear c49
                   exact absurd ((Option.some.inj H).trans hR_) (by decide)
                  ·
                   rw [if_neg c49] at H
                   have c49b0 : decide (((rd_T38 t341 x14_4).f1.f0) < ((rd_T38 t341 (ji43)).f1.f0)) = false := decide_eq_false c49
                   clear c49
                   by_cases c50 : ((rd_T38 t341 (ji43)).f1.f0) = ((rd_T38 t341 x14_4).f1.f0)
                   ·
                    rw [if_pos c50] at H
                    have c50b0 : (((rd_T38 t341 (ji43)).f1.f0) == ((rd_T38 t341 x14_4).f1.f0)) = true := beq_iff_eq.mpr c50
                    have c50b1 : (((rd_T38 t341 (ji43)).f1.f0) != ((rd_T38 t341 x14_4).f1.f0)) = false := bne_eq_false_iff_eq.mpr c50
                    clear c50
                    by_cases c51 : ((rd_T38 t341 (ji43)).f0) > ((rd_T38 t341 x14_4).f0)
                    ·
                     rw [if_pos c51] at H
                     have c51b0 : decide (((rd_T38 t341 x14_4).f0) < ((rd_T38 t341 (ji43)).f0)) = true := decide_eq_true c51
                     clear c51
                     exact absurd ((Option.some.inj H).trans hR_) (by decide)
                    ·
                     rw [if_neg c51] at H
                     have c51b0 : decide (((rd_T38 t341 x14_4).f0) < ((rd_T38 t341 (ji43)).f0)) = false := decide_eq_false c51
                     clear c51
                     have H' := Aside0.mk H
                     clear H
                     try go_wp2
                     have n0_ := Aside0.mk (Kd.R_drew HO_6.out)
                     have n1_ := Aside0.mk (below_drew1 HB.out)
                     clear HO_6 HB
                     have HO_6 := n0_
                     have HB := n1_
                     clear n0_ n1_
                     have p360 : 0 ≤ ((ji43) : Int) := of_decide_eq_true (by first | (with_reducible assumption) | assumption)
                     have q360 : (ji43) < (t341.length : Int) := of_decide_eq_true (by first | (with_reducible assumption) | assumption)
                     obtain ⟨ad360, e360, hx360_0, hx360_1, hx360_2, hx360_3, hx360_4⟩ := at_T38 (Kd.R_reads' HO_6.out).2.2 (ji43) p360 q360
                     cases e360
                     replace p360 := eq_true p360
                     replace q360 := eq_true q360
                     have p361 : 0 ≤ (x14_4 : Int) := of_decide_eq_true (by first | (with_reducible assumption) | assumption)
                     have q361 : x14_4 < (t341.length : Int) := of_decide_eq_true (by first | (with_reducible assumption) | assumption)
                     obtain ⟨ad361, e361, hx361_0, hx361_1, hx361_2, hx361_3, hx361_4⟩ := at_T38 (Kd.R_reads' HO_6.out).2.2 x14_4 p361 q361
                     obtain rfl : ad360 = ad361 := (by injection e361)
                     replace p361 := eq_true p361
                     replace q361 := eq_true q361
                     refine start_ (n := 13) (S := fun w' => w'.cell? (ad360.add (((ji43)).toNat * 5)) = some (.int .i64 ((rd_T38 t341 (ji43)).f0)) ∧ w'.cell? ⟨(ad360.add (((ji43)).toNat * 5)).block, (ad360.add (((ji43)).toNat * 5)).off + 1, none⟩ = some (.int .i64 ((rd_T38 t341 (ji43)).f1.f0)) ∧ w'.cell? ⟨(ad360.add (((ji43)).toNat * 5)).block, (ad360.add (((ji43)).toNat * 5)).off + 2, none⟩ = some (.int .i64 ((rd_T38 t341 (ji43)).f1.f1)) ∧ w'.cell? ⟨(ad360.add (((ji43)).toNat * 5)).block, (ad360.add (((ji43)).toNat * 5)).off + 3, none⟩ = some (.int .i64 ((rd_T38 t341 (ji43)).f2.f0)) ∧ w'.cell? ⟨(ad360.add (((ji43)).toNat * 5)).block, (ad360.add (((ji43)).toNat * 5)).off + 4, none⟩ = some (.int .i64 ((rd_T38 t341 (ji43)).f2.f1)) ∧ w'.cell? (ad360.add ((x14_4).toNat * 5)) = some (.int .i64 ((rd_T38 t341 x14_4).f0)) ∧ w'.cell? ⟨(ad360.add ((x14_4).toNat * 5)).block, (ad360.add ((x14_4).toNat * 5)).off + 1, none⟩ = some (.int .i64 ((rd_T38 t341 x14_4).f1.f0)) ∧ w'.cell? ⟨(ad360.add ((x14_4).toNat * 5)).block, (ad360.add ((x14_4).toNat * 5)).off + 2, none⟩ = some (.int .i64 ((rd_T38 t341 x14_4).f1.f1)) ∧ w'.cell? ⟨(ad360.add ((x14_4).toNat * 5)).block, (ad360.add ((x14_4).toNat * 5)).off + 3, none⟩ = some (.int .i64 ((rd_T38 t341 x14_4).f2.f0)) ∧ w'.cell? ⟨(ad360.add ((x14_4).toNat * 5)).block, (ad360.add ((x14_4).toNat * 5)).off + 4, none⟩ = some (.int .i64 ((rd_T38 t341 x14_4).f2.f1))) (ds := []) #[false, false, false, false, false, false, false, false, false, false, false, false, false] (by kernel_rfl) rfl rfl ⟨hx360_0, hx360_1, hx360_2, hx360_3, hx360_4, hx361_0, hx361_1, hx361_2, hx361_3, hx361_4⟩ (fun hHeld => ?_); refine with_tabW tailwaterlaw34_SinkSorted.tab19 tailwaterlaw34_SinkSorted.bits19 (fun HT_ HW_ => ?_)
                     generalize wr.drew = w52 at HO_6 HB hx360_0 hx360_1 hx360_2 hx360_3 hx360_4 hx361_0 hx361_1 hx361_2 hx361_3 hx361_4 hHeld ⊢
                     refine pure_ (i := 0) (N := some 116) (v := ?_) (a' := ?_) #[true, false, false, false, false, false, false, false, false, false, false, false, false] rfl rfl (any_of HT_.out (by kernel_rfl)) (fun _ _ _ h => h) (Or.inl ⟨by rfl, ?_⟩) ?_ ?_
                     rotate_left
                     ·
                      intro w'
                      go_simp
                      with_reducible rfl
                     rotate_left
                     ·
                      simp only [Act.put, List.setIfInBounds_toArray, List.set_cons_zero, List.set_cons_succ, i64_w, i32_w]
                      rfl
                     refine pure_ (i := 1) (N := some 117) (v := ?_) (a' := ?_) #[true, true, false, false, false, false, false, false, false, false, false, false, false] rfl rfl (any_of HT_.out (by kernel_rfl)) (fun _ _ _ h => h) (Or.inl ⟨by rfl, ?_⟩) ?_ ?_
                     rotate_left
                     ·
                      intro w'
                      go_simp
                      with_reducible rfl
                     rotate_left
                     ·
                      simp only [Act.put, List.setIfInBounds_toArray, List.set_cons_zero, List.set_cons_succ, i64_w, i32_w]
                      rfl
                     refine pure_ (i := 2) (N := some 118) (v := ?_) (a' := ?_) #[true, true, true, false, false, false, false, false, false, false, false, false, false] rfl rfl (any_of HT_.out (by kernel_rfl)) (fun _ _ _ h => h) (Or.inl ⟨by rfl, ?_⟩) ?_ ?_
                     rotate_left
                     ·
                      intro w'
                      go_simp
                      with_reducible rfl
                     rotate_left
                     ·
                      simp only [Act.put, List.setIfInBounds_toArray, List.set_cons_zero, List.set_cons_succ, i64_w, i32_w]
                      rfl
                     refine pure_ (i := 3) (N := some 119) (v := ?_) (a' := ?_) #[true, true, true, true, false, false, false, false, false, false, false, false, false] rfl rfl (any_of HT_.out (by kernel_rfl)) (fun _ _ _ h => h) (Or.inl ⟨by rfl, ?_⟩) ?_ ?_
                     rotate_left
                     ·
                      intro w'
                      go_simp
                      with_reducible rfl
                     rotate_left
                     ·
                      simp only [Act.put, List.setIfInBounds_toArray, List.set_cons_zero, List.set_cons_succ, i64_w, i32_w]
                      rfl
                     refine pure_ (i := 5) (N := some 121) (v := ?_) (a' := ?_) #[true, true, true, true, false, true, false, false, false, false, false, false, false] rfl rfl (any_of HT_.out (by kernel_rfl)) (fun _ _ _ h => h) (Or.inl ⟨by rfl, ?_⟩) ?_ ?_
                     rotate_left
                     ·
                      intro w'
                      go_simp
                      with_reducible rfl
                     rotate_left
                     ·
                      simp only [Act.put, List.setIfInBounds_toArray, List.set_cons_zero, List.set_cons_succ, i64_w, i32_w]
                      rfl
                     refine pure_ (i := 6) (N := some 122) (v := ?_) (a' := ?_) #[true, true, true, true, false, true, true, false, false, false, false, false, false] rfl rfl (any_of HT_.out (by kernel_rfl)) (fun _ _ _ h => h) (Or.inl ⟨by rfl, ?_⟩) ?_ ?_
                     rotate_left
                     ·
                      intro w'
                      go_simp
                      with_reducible rfl
                     rotate_left
                     ·
                      simp only [Act.put, List.setIfInBounds_toArray, List.set_cons_zero, List.set_cons_succ, i64_w, i32_w]
                      rfl
                     refine pure_ (i := 7) (N := some 123) (v := ?_) (a' := ?_) #[true, true, true, true, false, true, true, true, false, false, false, false, false] rfl rfl (any_of HT_.out (by kernel_rfl)) (fun _ _ _ h => h) (Or.inl ⟨by rfl, ?_⟩) ?_ ?_
                     rotate_left
                     ·
                      intro w'
                      go_simp
                      with_reducible rfl
                     rotate_left
                     ·
                      simp only [Act.put, List.setIfInBounds_toArray, List.set_cons_zero, List.set_cons_succ, i64_w, i32_w]
                      rfl
                     refine take_ (i := 4) (N := some 120) (v := ?_) (a' := ?_) #[true, true, true, true, true, true, true, true, false, false, false, false, false] rfl rfl (take_ofW HT_.out HW_.out (by kernel_rfl)) (fun _ _ _ h => h) (Or.inl ⟨by rfl, ?_⟩) hHeld ?_ ?_
                     rotate_left
                     ·
                      rintro w' ⟨s0, s1, s2, s3, s4, s5, s6, s7, s8, s9⟩
                      go_simp
                      with_reducible rfl
                     rotate_left
                     ·
                      simp only [Act.put, List.setIfInBounds_toArray, List.set_cons_zero, List.set_cons_succ, i64_w, i32_w]
                      rfl
                     refine take_ (i := 8) (N := some 124) (v := ?_) (a' := ?_) #[true, true, true, true, true, true, true, true, true, false, false, false, false] rfl rfl (take_ofW HT_.out HW_.out (by kernel_rfl)) (fun _ _ _ h => h) (Or.inl ⟨by rfl, ?_⟩) hHeld ?_ ?_
                     rotate_left
                     ·
                      rintro w' ⟨s0, s1, s2, s3, s4, s5, s6, s7, s8, s9⟩
                      go_simp
                      with_reducible rfl
                     rotate_left
                     ·
                      simp only [Act.put, List.setIfInBounds_toArray, List.set_cons_zero, List.set_cons_succ, i64_w, i32_w]
                      rfl
                     refine join_ (σ := Nat × Nat) 2 #[true, true, true, true, true, true, true, true, true, true, true, false, false] (fun s_ => [(15, .pointer (some ⟨s_.1, 0, none⟩)), (16, .pointer (some ⟨s_.2, 0, none⟩))]) (fun s_ w' => (w'.cell? (ad360.add (((ji43)).toNat * 5)) = some (.int .i64 ((rd_T38 t341 (ji43)).f0)) ∧ w'.cell? ⟨(ad360.add (((ji43)).toNat * 5)).block, (ad360.add (((ji43)).toNat * 5)).off + 1, none⟩ = some (.int .i64 ((rd_T38 t341 (ji43)).f1.f0)) ∧ w'.cell? ⟨(ad360.add (((ji43)).toNat * 5)).block, (ad360.add (((ji43)).toNat * 5)).off + 2, none⟩ = some (.int .i64 ((rd_T38 t341 (ji43)).f1.f1)) ∧ w'.cell? ⟨(ad360.add (((ji43)).toNat * 5)).block, (ad360.add (((ji43)).toNat * 5)).off + 3, none⟩ = some (.int .i64 ((rd_T38 t341 (ji43)).f2.f0)) ∧ w'.cell? ⟨(ad360.add (((ji43)).toNat * 5)).block, (ad360.add (((ji43)).toNat * 5)).off + 4, none⟩ = some (.int .i64 ((rd_T38 t341 (ji43)).f2.f1)) ∧ w'.cell? (ad360.add ((x14_4).toNat * 5)) = some (.int .i64 ((rd_T38 t341 x14_4).f0)) ∧ w'.cell? ⟨(ad360.add ((x14_4).toNat * 5)).block, (ad360.add ((x14_4).toNat * 5)).off + 1, none⟩ = some (.int .i64 ((rd_T38 t341 x14_4).f1.f0)) ∧ w'.cell? ⟨(ad360.add ((x14_4).toNat * 5)).block, (ad360.add ((x14_4).toNat * 5)).off + 2, none⟩ = some (.int .i64 ((rd_T38 t341 x14_4).f1.f1)) ∧ w'.cell? ⟨(ad360.add ((x14_4).toNat * 5)).block, (ad360.add ((x14_4).toNat * 5)).off + 3, none⟩ = some (.int .i64 ((rd_T38 t341 x14_4).f2.f0)) ∧ w'.cell? ⟨(ad360.add ((x14_4).toNat * 5)).block, (ad360.add ((x14_4).toNat * 5)).off + 4, none⟩ = some (.int .i64 ((rd_T38 t341 x14_4).f2.f1))) ∧ (Kd.R k38 38 w' w.heap.size (fun k_ => k_ ≠ s_.1 ∧ k_ ≠ s_.2) (.slice (some ad360) t341.length co14) t341) ∧ (w'.heap[s_.1]? = some (.cells #[.int .i64 0, .int .i64 0, .int .i64 0, .int .i64 0, .int .i64 0] 38 (0, 0))) ∧ (w'.heap[s_.2]? = some (.cells #[.int .i64 0, .int .i64 0, .int .i64 0, .int .i64 0, .int .i64 0] 38 (0, 0))) ∧ (w.heap.size ≤ s_.1) ∧ (w.heap.size ≤ s_.1) ∧ (s_.2 ≠ s_.1) ∧ (s_.1 ≠ s_.2) ∧ (w.heap.size ≤ s_.2) ∧ (w.heap.size ≤ s_.2) ∧ (Below w.heap.size w w')) ?_ ?_
                     rotate_left
                     ·
                      intro hCont
                      refine two_ (i := 9) (j := 10) (Ni := some 15) (Nj := some 16) #[true, true, true, true, true, true, true, true, true, true, false, false, false] #[true, true, true, true, true, true, true, true, true, false, true, false, false] rfl rfl rfl rfl (two_of HT_.out (by kernel_rfl)) (by decide) (by decide) (fun K hK => ?_) (fun K hK => ?_)
                      ·
                       skip
                       refine box_step ?hg (N := 15) ?hd (cs := #[.int .i64 0, .int .i64 0, .int .i64 0, .int .i64 0, .int .i64 0]) (t := 38) ?hr ?_; (case hd => rfl); (case hg => rfl); (case hr => first | (go_simp; done) | (go_simp; rfl))
                       intro gb362 hg w53 hbox hb
                       have HS0_ := (hb.cell (World.block_lt_of_cell? _ _ (hHeld.1))).trans (hHeld.1)
                       have HS1_ := (hb.cell (World.block_lt_of_cell? _ _ (hHeld.2.1))).trans (hHeld.2.1)
                       have HS2_ := (hb.cell (World.block_lt_of_cell? _ _ (hHeld.2.2.1))).trans (hHeld.2.2.1)
                       have HS3_ := (hb.cell (World.block_lt_of_cell? _ _ (hHeld.2.2.2.1))).trans (hHeld.2.2.2.1)
                       have HS4_ := (hb.cell (World.block_lt_of_cell? _ _ (hHeld.2.2.2.2.1))).trans (hHeld.2.2.2.2.1)
                       have HS5_ := (hb.cell (World.block_lt_of_cell? _ _ (hHeld.2.2.2.2.2.1))).trans (hHeld.2.2.2.2.2.1)
                       have HS6_ := (hb.cell (World.block_lt_of_cell? _ _ (hHeld.2.2.2.2.2.2.1))).trans (hHeld.2.2.2.2.2.2.1)
                       have HS7_ := (hb.cell (World.block_lt_of_cell? _ _ (hHeld.2.2.2.2.2.2.2.1))).trans (hHeld.2.2.2.2.2.2.2.1)
                       have HS8_ := (hb.cell (World.block_lt_of_cell? _ _ (hHeld.2.2.2.2.2.2.2.2.1))).trans (hHeld.2.2.2.2.2.2.2.2.1)
                       have HS9_ := (hb.cell (World.block_lt_of_cell? _ _ (hHeld.2.2.2.2.2.2.2.2.2))).trans (hHeld.2.2.2.2.2.2.2.2.2)
                       have n0_ := Aside0.mk (Kd.R_below (Kd.R_elderB (by (with_reducible repeat (first | apply Kd.R_alloc | apply Kd.R_drewN | apply Kd.R_drew)); exact HO_6.out) gb362 (Nat.le_of_eq hg.symm)) hb)
                       have n1_ := Aside0.mk (below_step (by repeat (first | (with_reducible first | exact HB.out | apply below_alloc | apply pw_below_drewN | apply below_drew1) | exact HB.out)) hb)
                       have n2_ := Aside0.mk (hbox)
                       have n3_ := Aside0.mk ((by rw [hg]; exact (below_size (by repeat (first | (with_reducible first | exact HB.out | apply below_alloc | apply pw_below_drewN | apply below_drew1) | exact HB.out))) : w.heap.size ≤ gb362))
                       have n4_ := Aside0.mk ((by rw [hg]; exact (below_size (by repeat (first | (with_reducible first | exact HB.out | apply below_alloc | apply pw_below_drewN | apply below_drew1) | exact HB.out))) : w.heap.size ≤ gb362))
                       clear HO_6 HB
                       have HO_6 := n0_
                       have HB := n1_
                       have BK362 := n2_
                       have GW362 := n3_
                       have GE362 := n4_
                       clear n0_ n1_ n2_ n3_ n4_
                       clear hb hbox hg
                       refine hK.out _ _ ⟨HS0_, HS1_, HS2_, HS3_, HS4_, HS5_, HS6_, HS7_, HS8_, HS9_⟩ (fun hHeld => ?_)
                       clear hK K
                       refine norm_ (a' := ?_) ?_ ?_
                       rotate_left
                       ·
                        show Act.put _ (some 15) _ = _
                        simp only [Act.put, List.setIfInBounds_toArray, List.set_cons_zero, List.set_cons_succ, i64_w, i32_w]
                        rfl
                       refine one_ (i := 10) (N := some 16) #[true, true, true, true, true, true, true, true, true, true, true, false, false] rfl rfl (one_of HT_.out (by kernel_rfl)) (by decide) (fun K hK => ?_)
                       refine box_step ?hg (N := 16) ?hd (cs := #[.int .i64 0, .int .i64 0, .int .i64 0, .int .i64 0, .int .i64 0]) (t := 38) ?hr ?_; (case hd => rfl); (case hg => rfl); (case hr => first | (go_simp; done) | (go_simp; rfl))
                       intro gb363 hg w54 hbox hb
                       have HS0_ := (hb.cell (World.block_lt_of_cell? _ _ (hHeld.1))).trans (hHeld.1)
                       have HS1_ := (hb.cell (World.block_lt_of_cell? _ _ (hHeld.2.1))).trans (hHeld.2.1)
                       have HS2_ := (hb.cell (World.block_lt_of_cell? _ _ (hHeld.2.2.1))).trans (hHeld.2.2.1)
                       have HS3_ := (hb.cell (World.block_lt_of_cell? _ _ (hHeld.2.2.2.1))).trans (hHeld.2.2.2.1)
                       have HS4_ := (hb.cell (World.block_lt_of_cell? _ _ (hHeld.2.2.2.2.1))).trans (hHeld.2.2.2.2.1)
                       have HS5_ := (hb.cell (World.block_lt_of_cell? _ _ (hHeld.2.2.2.2.2.1))).trans (hHeld.2.2.2.2.2.1)
                       have HS6_ := (hb.cell (World.block_lt_of_cell? _ _ (hHeld.2.2.2.2.2.2.1))).trans (hHeld.2.2.2.2.2.2.1)
                       have HS7_ := (hb.cell (World.block_lt_of_cell? _ _ (hHeld.2.2.2.2.2.2.2.1))).trans (hHeld.2.2.2.2.2.2.2.1)
                       have HS8_ := (hb.cell (World.block_lt_of_cell? _ _ (hHeld.2.2.2.2.2.2.2.2.1))).trans (hHeld.2.2.2.2.2.2.2.2.1)
                       have HS9_ := (hb.cell (World.block_lt_of_cell? _ _ (hHeld.2.2.2.2.2.2.2.2.2))).trans (hHeld.2.2.2.2.2.2.2.2.2)
                       have n0_ := Aside0.mk (Kd.R_below (Kd.R_elderB (by (with_reducible repeat (first | apply Kd.R_alloc | apply Kd.R_drewN | apply Kd.R_drew)); exact HO_6.out) gb363 (Nat.le_of_eq hg.symm)) hb)
                       have n1_ := Aside0.mk (blk_below (g := gb362) (o := .cells #[.int .i64 0, .int .i64 0, .int .i64 0, .int .i64 0, .int .i64 0] 38 (0, 0)) (by (with_reducible repeat (first | refine blk_drewN ?_ _ | refine blk_drew ?_ | refine blk_alloc ?_ _)); exact BK362.out) hb)
                       have n2_ := Aside0.mk (below_step (by repeat (first | (with_reducible first | exact HB.out | apply below_alloc | apply pw_below_drewN | apply below_drew1 | refine below_set ?_ GE362.out) | exact HB.out)) hb)
                       have n3_ := Aside0.mk (hbox)
                       have n4_ := Aside0.mk ((by rw [hg]; exact (below_size (by repeat (first | (with_reducible first | exact HB.out | apply below_alloc | apply pw_below_drewN | apply below_drew1 | refine below_set ?_ GE362.out) | exact HB.out))) : w.heap.size ≤ gb363))
                       have n5_ := Aside0.mk ((by rw [hg]; exact (below_size (by repeat (first | (with_reducible first | exact HB.out | apply below_alloc | apply pw_below_drewN | apply below_drew1 | refine below_set ?_ GE362.out) | exact HB.out))) : w.heap.size ≤ gb363))
                       have n6_ := Aside0.mk ((by rw [hg]; exact Nat.ne_of_lt (blk_lt (g := gb362) (o := .cells #[.int .i64 0, .int .i64 0, .int .i64 0, .int .i64 0, .int .i64 0] 38 (0, 0)) (by (with_reducible repeat (first | refine blk_drewN ?_ _ | refine blk_drew ?_ | refine blk_alloc ?_ _)); exact BK362.out)) : gb362 ≠ gb363))
                       have n7_ := Aside0.mk ((by rw [hg]; exact Nat.ne_of_gt (blk_lt (g := gb362) (o := .cells #[.int .i64 0, .int .i64 0, .int .i64 0, .int .i64 0, .int .i64 0] 38 (0, 0)) (by (with_reducible repeat (first | refine blk_drewN ?_ _ | refine blk_drew ?_ | refine blk_alloc ?_ _)); exact BK362.out)) : gb363 ≠ gb362))
                       clear HO_6 BK362 HB
                       have HO_6 := n0_
                       have BK362 := n1_
                       have HB := n2_
                       have BK363 := n3_
                       have GW363 := n4_
                       have GE363 := n5_
                       have NB362_363 := n6_
                       have NB363_362 := n7_
                       clear n0_ n1_ n2_ n3_ n4_ n5_ n6_ n7_
                       clear hb hbox hg
                       refine hK.out _ _ ⟨HS0_, HS1_, HS2_, HS3_, HS4_, HS5_, HS6_, HS7_, HS8_, HS9_⟩ (fun hHeld => ?_)
                       clear hK K
                       refine norm_ (a' := ?_) ?_ ?_
                       rotate_left
                       ·
                        show Act.put _ (some 16) _ = _
                        simp only [Act.put, List.setIfInBounds_toArray, List.set_cons_zero, List.set_cons_succ, i64_w, i32_w]
                        rfl
                       exact norm_ (by simp only [putAll, Act.put, List.setIfInBounds_toArray, List.set_cons_zero, List.set_cons_succ]) (hCont (gb362, gb363) _ ⟨hHeld, (by (with_reducible repeat (first | apply Kd.R_alloc | apply Kd.R_drewN | apply Kd.R_drew)); exact Kd.R_mono HO_6.out (fun _ hk => ⟨hk.1.2, hk.2⟩)), (by (with_reducible repeat (first | refine blk_drewN ?_ _ | refine blk_drew ?_ | refine blk_alloc ?_ _)); exact BK362.out), (by (with_reducible repeat (first | refine blk_drewN ?_ _ | refine blk_drew ?_ | refine blk_alloc ?_ _)); exact BK363.out), GW362.out, GE362.out, NB363_362.out, NB362_363.out, GW363.out, GE363.out, (by repeat (first | (with_reducible first | exact HB.out | apply below_alloc | apply pw_below_drewN | apply below_drew1 | refine below_set ?_ GE362.out | refine below_set ?_ GE363.out) | exact HB.out))⟩)
                      ·
                       skip
                       refine box_step ?hg (N := 16) ?hd (cs := #[.int .i64 0, .int .i64 0, .int .i64 0, .int .i64 0, .int .i64 0]) (t := 38) ?hr ?_; (case hd => rfl); (case hg => rfl); (case hr => first | (go_simp; done) | (go_simp; rfl))
                       intro gb363 hg w53 hbox hb
                       have HS0_ := (hb.cell (World.block_lt_of_cell? _ _ (hHeld.1))).trans (hHeld.1)
                       have HS1_ := (hb.cell (World.block_lt_of_cell? _ _ (hHeld.2.1))).trans (hHeld.2.1)
                       have HS2_ := (hb.cell (World.block_lt_of_cell? _ _ (hHeld.2.2.1))).trans (hHeld.2.2.1)
                       have HS3_ := (hb.cell (World.block_lt_of_cell? _ _ (hHeld.2.2.2.1))).trans (hHeld.2.2.2.1)
                       have HS4_ := (hb.cell (World.block_lt_of_cell? _ _ (hHeld.2.2.2.2.1))).trans (hHeld.2.2.2.2.1)
                       have HS5_ := (hb.cell (World.block_lt_of_cell? _ _ (hHeld.2.2.2.2.2.1))).trans (hHeld.2.2.2.2.2.1)
                       have HS6_ := (hb.cell (World.block_lt_of_cell? _ _ (hHeld.2.2.2.2.2.2.1))).trans (hHeld.2.2.2.2.2.2.1)
                       have HS7_ := (hb.cell (World.block_lt_of_cell? _ _ (hHeld.2.2.2.2.2.2.2.1))).trans (hHeld.2.2.2.2.2.2.2.1)
                       have HS8_ := (hb.cell (World.block_lt_of_cell? _ _ (hHeld.2.2.2.2.2.2.2.2.1))).trans (hHeld.2.2.2.2.2.2.2.2.1)
                       have HS9_ := (hb.cell (World.block_lt_of_cell? _ _ (hHeld.2.2.2.2.2.2.2.2.2))).trans (hHeld.2.2.2.2.2.2.2.2.2)
                       have n0_ := Aside0.mk (Kd.R_below (Kd.R_elderB (by (with_reducible repeat (first | apply Kd.R_alloc | apply Kd.R_drewN | apply Kd.R_drew)); exact HO_6.out) gb363 (Nat.le_of_eq hg.symm)) hb)
                       have n1_ := Aside0.mk (below_step (by repeat (first | (with_reducible first | exact HB.out | apply below_alloc | apply pw_below_drewN | apply below_drew1) | exact HB.out)) hb)
                       have n2_ := Aside0.mk (hbox)
                       have n3_ := Aside0.mk ((by rw [hg]; exact (below_size (by repeat (first | (with_reducible first | exact HB.out | apply below_alloc | apply pw_below_drewN | apply below_drew1) | exact HB.out))) : w.heap.size ≤ gb363))
                       have n4_ := Aside0.mk ((by rw [hg]; exact (below_size (by repeat (first | (with_reducible first | exact HB.out | apply below_alloc | apply pw_below_drewN | apply below_drew1) | exact HB.out))) : w.heap.size ≤ gb363))
                       clear HO_6 HB
                       have HO_6 := n0_
                       have HB := n1_
                       have BK363 := n2_
                       have GW363 := n3_
                       have GE363 := n4_
                       clear n0_ n1_ n2_ n3_ n4_
                       clear hb hbox hg
                       refine hK.out _ _ ⟨HS0_, HS1_, HS2_, HS3_, HS4_, HS5_, HS6_, HS7_, HS8_, HS9_⟩ (fun hHeld => ?_)
                       clear hK K
                       refine norm_ (a' := ?_) ?_ ?_
                       rotate_left
                       ·
                        show Act.put _ (some 16) _ = _
                        simp only [Act.put, List.setIfInBounds_toArray, List.set_cons_zero, List.set_cons_succ, i64_w, i32_w]
                        rfl
                       refine one_ (i := 9) (N := some 15) #[true, true, true, true, true, true, true, true, true, true, true, false, false] rfl rfl (one_of HT_.out (by kernel_rfl)) (by decide) (fun K hK => ?_)
                       refine box_step ?hg (N := 15) ?hd (cs := #[.int .i64 0, .int .i64 0, .int .i64 0, .int .i64 0, .int .i64 0]) (t := 38) ?hr ?_; (case hd => rfl); (case hg => rfl); (case hr => first | (go_simp; done) | (go_simp; rfl))
                       intro gb362 hg w54 hbox hb
                       have HS0_ := (hb.cell (World.block_lt_of_cell? _ _ (hHeld.1))).trans (hHeld.1)
                       have HS1_ := (hb.cell (World.block_lt_of_cell? _ _ (hHeld.2.1))).trans (hHeld.2.1)
                       have HS2_ := (hb.cell (World.block_lt_of_cell? _ _ (hHeld.2.2.1))).trans (hHeld.2.2.1)
                       have HS3_ := (hb.cell (World.block_lt_of_cell? _ _ (hHeld.2.2.2.1))).trans (hHeld.2.2.2.1)
                       have HS4_ := (hb.cell (World.block_lt_of_cell? _ _ (hHeld.2.2.2.2.1))).trans (hHeld.2.2.2.2.1)
                       have HS5_ := (hb.cell (World.block_lt_of_cell? _ _ (hHeld.2.2.2.2.2.1))).trans (hHeld.2.2.2.2.2.1)
                       have HS6_ := (hb.cell (World.block_lt_of_cell? _ _ (hHeld.2.2.2.2.2.2.1))).trans (hHeld.2.2.2.2.2.2.1)
                       have HS7_ := (hb.cell (World.block_lt_of_cell? _ _ (hHeld.2.2.2.2.2.2.2.1))).trans (hHeld.2.2.2.2.2.2.2.1)
                       have HS8_ := (hb.cell (World.block_lt_of_cell? _ _ (hHeld.2.2.2.2.2.2.2.2.1))).trans (hHeld.2.2.2.2.2.2.2.2.1)
                       have HS9_ := (hb.cell (World.block_lt_of_cell? _ _ (hHeld.2.2.2.2.2.2.2.2.2))).trans (hHeld.2.2.2.2.2.2.2.2.2)
                       have n0_ := Aside0.mk (Kd.R_below (Kd.R_elderB (by (with_reducible repeat (first | apply Kd.R_alloc | apply Kd.R_drewN | apply Kd.R_drew)); exact HO_6.out) gb362 (Nat.le_of_eq hg.symm)) hb)
                       have n1_ := Aside0.mk (blk_below (g := gb363) (o := .cells #[.int .i64 0, .int .i64 0, .int .i64 0, .int .i64 0, .int .i64 0] 38 (0, 0)) (by (with_reducible repeat (first | refine blk_drewN ?_ _ | refine blk_drew ?_ | refine blk_alloc ?_ _)); exact BK363.out) hb)
                       have n2_ := Aside0.mk (below_step (by repeat (first | (with_reducible first | exact HB.out | apply below_alloc | apply pw_below_drewN | apply below_drew1 | refine below_set ?_ GE363.out) | exact HB.out)) hb)
                       have n3_ := Aside0.mk (hbox)
                       have n4_ := Aside0.mk ((by rw [hg]; exact (below_size (by repeat (first | (with_reducible first | exact HB.out | apply below_alloc | apply pw_below_drewN | apply below_drew1 | refine below_set ?_ GE363.out) | exact HB.out))) : w.heap.size ≤ gb362))
                       have n5_ := Aside0.mk ((by rw [hg]; exact (below_size (by repeat (first | (with_reducible first | exact HB.out | apply below_alloc | apply pw_below_drewN | apply below_drew1 | refine below_set ?_ GE363.out) | exact HB.out))) : w.heap.size ≤ gb362))
                       have n6_ := Aside0.mk ((by rw [hg]; exact Nat.ne_of_lt (blk_lt (g := gb363) (o := .cells #[.int .i64 0, .int .i64 0, .int .i64 0, .int .i64 0, .int .i64 0] 38 (0, 0)) (by (with_reducible repeat (first | refine blk_drewN ?_ _ | refine blk_drew ?_ | refine blk_alloc ?_ _)); exact BK363.out)) : gb363 ≠ gb362))
                       have n7_ := Aside0.mk ((by rw [hg]; exact Nat.ne_of_gt (blk_lt (g := gb363) (o := .cells #[.int .i64 0, .int .i64 0, .int .i64 0, .int .i64 0, .int .i64 0] 38 (0, 0)) (by (with_reducible repeat (first | refine blk_drewN ?_ _ | refine blk_drew ?_ | refine blk_alloc ?_ _)); exact BK363.out)) : gb362 ≠ gb363))
                       clear HO_6 BK363 HB
                       have HO_6 := n0_
                       have BK363 := n1_
                       have HB := n2_
                       have BK362 := n3_
                       have GW362 := n4_
                       have GE362 := n5_
                       have NB363_362 := n6_
                       have NB362_363 := n7_
                       clear n0_ n1_ n2_ n3_ n4_ n5_ n6_ n7_
                       clear hb hbox hg
                       refine hK.out _ _ ⟨HS0_, HS1_, HS2_, HS3_, HS4_, HS5_, HS6_, HS7_, HS8_, HS9_⟩ (fun hHeld => ?_)
                       clear hK K
                       refine norm_ (a' := ?_) ?_ ?_
                       rotate_left
                       ·
                        show Act.put _ (some 15) _ = _
                        simp only [Act.put, List.setIfInBounds_toArray, List.set_cons_zero, List.set_cons_succ, i64_w, i32_w]
                        rfl
                       exact norm_ (by simp only [putAll, Act.put, List.setIfInBounds_toArray, List.set_cons_zero, List.set_cons_succ]) (hCont (gb362, gb363) _ ⟨hHeld, (by (with_reducible repeat (first | apply Kd.R_alloc | apply Kd.R_drewN | apply Kd.R_drew)); exact Kd.R_mono HO_6.out (fun _ hk => ⟨hk.2, hk.1.2⟩)), (by (with_reducible repeat (first | refine blk_drewN ?_ _ | refine blk_drew ?_ | refine blk_alloc ?_ _)); exact BK362.out), (by (with_reducible repeat (first | refine blk_drewN ?_ _ | refine blk_drew ?_ | refine blk_alloc ?_ _)); exact BK363.out), GW362.out, GE362.out, NB363_362.out, NB362_363.out, GW363.out, GE363.out, (by repeat (first | (with_reducible first | exact HB.out | apply below_alloc | apply pw_below_drewN | apply below_drew1 | refine below_set ?_ GE363.out | refine below_set ?_ GE362.out) | exact HB.out))⟩)
                     rintro ⟨gb362, gb363⟩ w55 ⟨hS_, h0_, h1_, h2_, h3_, h4_, h5_, h6_, h7_, h8_, h9_⟩
                     have n0_ : Aside0 (Kd.R k38 38 w55 w.heap.size (fun k_ => k_ ≠ gb362 ∧ k_ ≠ gb363) (.slice (some ad360) t341.length co14) t341) := ⟨h0_⟩
                     have n1_ : Aside0 (w55.heap[gb362]? = some (.cells #[.int .i64 0, .int .i64 0, .int .i64 0, .int .i64 0, .int .i64 0] 38 (0, 0))) := ⟨h1_⟩
                     have n2_ : Aside0 (w55.heap[gb363]? = some (.cells #[.int .i64 0, .int .i64 0, .int .i64 0, .int .i64 0, .int .i64 0] 38 (0, 0))) := ⟨h2_⟩
                     have n3_ : Aside0 (w.heap.size ≤ gb362) := ⟨h3_⟩
                     have n4_ : Aside0 (w.heap.size ≤ gb362) := ⟨h4_⟩
                     have n5_ : Aside0 (gb363 ≠ gb362) := ⟨h5_⟩
                     have n6_ : Aside0 (gb362 ≠ gb363) := ⟨h6_⟩
                     have n7_ : Aside0 (w.heap.size ≤ gb363) := ⟨h7_⟩
                     have n8_ : Aside0 (w.heap.size ≤ gb363) := ⟨h8_⟩
                     have n9_ : Aside0 (Below w.heap.size w w55) := ⟨h9_⟩
                     clear HO_6
                     clear HB
                     clear h0_ h1_ h2_ h3_ h4_ h5_ h6_ h7_ h8_ h9_
                     have HO_6 := n0_
                     have BK362 := n1_
                     have BK363 := n2_
                     have GW362 := n3_
                     have GE362 := n4_
                     have NB363_362 := n5_
                     have NB362_363 := n6_
                     have GW363 := n7_
                     have GE363 := n8_
                     have HB := n9_
                     clear n0_ n1_ n2_ n3_ n4_ n5_ n6_ n7_ n8_ n9_
                     have hHeld : w55.cell? (ad360.add (((ji43)).toNat * 5)) = some (.int .i64 ((rd_T38 t341 (ji43)).f0)) ∧ w55.cell? ⟨(ad360.add (((ji43)).toNat * 5)).block, (ad360.add (((ji43)).toNat * 5)).off + 1, none⟩ = some (.int .i64 ((rd_T38 t341 (ji43)).f1.f0)) ∧ w55.cell? ⟨(ad360.add (((ji43)).toNat * 5)).block, (ad360.add (((ji43)).toNat * 5)).off + 2, none⟩ = some (.int .i64 ((rd_T38 t341 (ji43)).f1.f1)) ∧ w55.cell? ⟨(ad360.add (((ji43)).toNat * 5)).block, (ad360.add (((ji43)).toNat * 5)).off + 3, none⟩ = some (.int .i64 ((rd_T38 t341 (ji43)).f2.f0)) ∧ w55.cell? ⟨(ad360.add (((ji43)).toNat * 5)).block, (ad360.add (((ji43)).toNat * 5)).off + 4, none⟩ = some (.int .i64 ((rd_T38 t341 (ji43)).f2.f1)) ∧ w55.cell? (ad360.add ((x14_4).toNat * 5)) = some (.int .i64 ((rd_T38 t341 x14_4).f0)) ∧ w55.cell? ⟨(ad360.add ((x14_4).toNat * 5)).block, (ad360.add ((x14_4).toNat * 5)).off + 1, none⟩ = some (.int .i64 ((rd_T38 t341 x14_4).f1.f0)) ∧ w55.cell? ⟨(ad360.add ((x14_4).toNat * 5)).block, (ad360.add ((x14_4).toNat * 5)).off + 2, none⟩ = some (.int .i64 ((rd_T38 t341 x14_4).f1.f1)) ∧ w55.cell? ⟨(ad360.add ((x14_4).toNat * 5)).block, (ad360.add ((x14_4).toNat * 5)).off + 3, none⟩ = some (.int .i64 ((rd_T38 t341 x14_4).f2.f0)) ∧ w55.cell? ⟨(ad360.add ((x14_4).toNat * 5)).block, (ad360.add ((x14_4).toNat * 5)).off + 4, none⟩ = some (.int .i64 ((rd_T38 t341 x14_4).f2.f1)) := hS_
                     refine norm_ (a' := ?_) ?_ ?_
                     rotate_left
                     ·
                      simp only [putAll, Act.put, List.setIfInBounds_toArray, List.set_cons_zero, List.set_cons_succ]
                      rfl
                     refine one_ (i := 11) (N := none) #[true, true, true, true, true, true, true, true, true, true, true, true, false] rfl rfl (one_of HT_.out (by kernel_rfl)) (by decide) (fun K hK => ?_)
                     have hs56 : w55.cell? ⟨gb362, 0, none⟩ = some (.int .i64 0) := (blk_cell BK362.out 0).trans rfl
                     have hfs56 := blk_frozen BK362.out 0
                     have hns56_1 := NB363_362.out
                     have hms56_1 := NB362_363.out
                     have hs57 : w55.cell? ⟨gb362, 1, none⟩ = some (.int .i64 0) := (blk_cell BK362.out 1).trans rfl
                     have hfs57 := blk_frozen BK362.out 1
                     have hns57_1 := NB363_362.out
                     have hms57_1 := NB362_363.out
                     have hs58 : w55.cell? ⟨gb362, 2, none⟩ = some (.int .i64 0) := (blk_cell BK362.out 2).trans rfl
                     have hfs58 := blk_frozen BK362.out 2
                     have hns58_1 := NB363_362.out
                     have hms58_1 := NB362_363.out
                     have hs59 : w55.cell? ⟨gb362, 3, none⟩ = some (.int .i64 0) := (blk_cell BK362.out 3).trans rfl
                     have hfs59 := blk_frozen BK362.out 3
                     have hns59_1 := NB363_362.out
                     have hms59_1 := NB362_363.out
                     have hs60 : w55.cell? ⟨gb362, 4, none⟩ = some (.int .i64 0) := (blk_cell BK362.out 4).trans rfl
                     have hfs60 := blk_frozen BK362.out 4
                     have hns60_1 := NB363_362.out
                     have hms60_1 := NB362_363.out
                     refine skip_ (w1 := ?_) (by rfl) rfl ?_ ?_
                     rotate_left
                     ·
                      go_simp
                      rfl
                     refine hK.out _ _ ⟨((cell_far (p := ⟨gb362, _, none⟩) (by exact far_ (Kd.own_blk (Kd.R_away HO_6.out (fun _ hk => hk.1)))) _).trans (((cell_far (p := ⟨gb362, _, none⟩) (by exact far_ (Kd.own_blk (Kd.R_away HO_6.out (fun _ hk => hk.1)))) _).trans (((cell_far (p := ⟨gb362, _, none⟩) (by exact far_ (Kd.own_blk (Kd.R_away HO_6.out (fun _ hk => hk.1)))) _).trans (((cell_far (p := ⟨gb362, _, none⟩) (by exact far_ (Kd.own_blk (Kd.R_away HO_6.out (fun _ hk => hk.1)))) _).trans (((cell_far (p := ⟨gb362, _, none⟩) (by exact far_ (Kd.own_blk (Kd.R_away HO_6.out (fun _ hk => hk.1)))) _).trans (hHeld.1)))))))))), ((cell_far (p := ⟨gb362, _, none⟩) (by exact far_ (Kd.own_blk (Kd.R_away HO_6.out (fun _ hk => hk.1)))) _).trans (((cell_far (p := ⟨gb362, _, none⟩) (by exact far_ (Kd.own_blk (Kd.R_away HO_6.out (fun _ hk => hk.1)))) _).trans (((cell_far (p := ⟨gb362, _, none⟩) (by exact far_ (Kd.own_blk (Kd.R_away HO_6.out (fun _ hk => hk.1)))) _).trans (((cell_far (p := ⟨gb362, _, none⟩) (by exact far_ (Kd.own_blk (Kd.R_away HO_6.out (fun _ hk => hk.1)))) _).trans (((cell_far (p := ⟨gb362, _, none⟩) (by exact far_ (Kd.own_blk (Kd.R_away HO_6.out (fun _ hk => hk.1)))) _).trans (hHeld.2.1)))))))))), ((cell_far (p := ⟨gb362, _, none⟩) (by exact far_ (Kd.own_blk (Kd.R_away HO_6.out (fun _ hk => hk.1)))) _).trans (((cell_far (p := ⟨gb362, _, none⟩) (by exact far_ (Kd.own_blk (Kd.R_away HO_6.out (fun _ hk => hk.1)))) _).trans (((cell_far (p := ⟨gb362, _, none⟩) (by exact far_ (Kd.own_blk (Kd.R_away HO_6.out (fun _ hk => hk.1)))) _).trans (((cell_far (p := ⟨gb362, _, none⟩) (by exact far_ (Kd.own_blk (Kd.R_away HO_6.out (fun _ hk => hk.1)))) _).trans (((cell_far (p := ⟨gb362, _, none⟩) (by exact far_ (Kd.own_blk (Kd.R_away HO_6.out (fun _ hk => hk.1)))) _).trans (hHeld.2.2.1)))))))))), ((cell_far (p := ⟨gb362, _, none⟩) (by exact far_ (Kd.own_blk (Kd.R_away HO_6.out (fun _ hk => hk.1)))) _).trans (((cell_far (p := ⟨gb362, _, none⟩) (by exact far_ (Kd.own_blk (Kd.R_away HO_6.out (fun _ hk => hk.1)))) _).trans (((cell_far (p := ⟨gb362, _, none⟩) (by exact far_ (Kd.own_blk (Kd.R_away HO_6.out (fun _ hk => hk.1)))) _).trans (((cell_far (p := ⟨gb362, _, none⟩) (by exact far_ (Kd.own_blk (Kd.R_away HO_6.out (fun _ hk => hk.1)))) _).trans (((cell_far (p := ⟨gb362, _, none⟩) (by exact far_ (Kd.own_blk (Kd.R_away HO_6.out (fun _ hk => hk.1)))) _).trans (hHeld.2.2.2.1)))))))))), ((cell_far (p := ⟨gb362, _, none⟩) (by exact far_ (Kd.own_blk (Kd.R_away HO_6.out (fun _ hk => hk.1)))) _).trans (((cell_far (p := ⟨gb362, _, none⟩) (by exact far_ (Kd.own_blk (Kd.R_away HO_6.out (fun _ hk => hk.1)))) _).trans (((cell_far (p := ⟨gb362, _, none⟩) (by exact far_ (Kd.own_blk (Kd.R_away HO_6.out (fun _ hk => hk.1)))) _).trans (((cell_far (p := ⟨gb362, _, none⟩) (by exact far_ (Kd.own_blk (Kd.R_away HO_6.out (fun _ hk => hk.1)))) _).trans (((cell_far (p := ⟨gb362, _, none⟩) (by exact far_ (Kd.own_blk (Kd.R_away HO_6.out (fun _ hk => hk.1)))) _).trans (hHeld.2.2.2.2.1)))))))))), ((cell_far (p := ⟨gb362, _, none⟩) (by exact far_ (Kd.own_blk (Kd.R_away HO_6.out (fun _ hk => hk.1)))) _).trans (((cell_far (p := ⟨gb362, _, none⟩) (by exact far_ (Kd.own_blk (Kd.R_away HO_6.out (fun _ hk => hk.1)))) _).trans (((cell_far (p := ⟨gb362, _, none⟩) (by exact far_ (Kd.own_blk (Kd.R_away HO_6.out (fun _ hk => hk.1)))) _).trans (((cell_far (p := ⟨gb362, _, none⟩) (by exact far_ (Kd.own_blk (Kd.R_away HO_6.out (fun _ hk => hk.1)))) _).trans (((cell_far (p := ⟨gb362, _, none⟩) (by exact far_ (Kd.own_blk (Kd.R_away HO_6.out (fun _ hk => hk.1)))) _).trans (hHeld.2.2.2.2.2.1)))))))))), ((cell_far (p := ⟨gb362, _, none⟩) (by exact far_ (Kd.own_blk (Kd.R_away HO_6.out (fun _ hk => hk.1)))) _).trans (((cell_far (p := ⟨gb362, _, none⟩) (by exact far_ (Kd.own_blk (Kd.R_away HO_6.out (fun _ hk => hk.1)))) _).trans (((cell_far (p := ⟨gb362, _, none⟩) (by exact far_ (Kd.own_blk (Kd.R_away HO_6.out (fun _ hk => hk.1)))) _).trans (((cell_far (p := ⟨gb362, _, none⟩) (by exact far_ (Kd.own_blk (Kd.R_away HO_6.out (fun _ hk => hk.1)))) _).trans (((cell_far (p := ⟨gb362, _, none⟩) (by exact far_ (Kd.own_blk (Kd.R_away HO_6.out (fun _ hk => hk.1)))) _).trans (hHeld.2.2.2.2.2.2.1)))))))))), ((cell_far (p := ⟨gb362, _, none⟩) (by exact far_ (Kd.own_blk (Kd.R_away HO_6.out (fun _ hk => hk.1)))) _).trans (((cell_far (p := ⟨gb362, _, none⟩) (by exact far_ (Kd.own_blk (Kd.R_away HO_6.out (fun _ hk => hk.1)))) _).trans (((cell_far (p := ⟨gb362, _, none⟩) (by exact far_ (Kd.own_blk (Kd.R_away HO_6.out (fun _ hk => hk.1)))) _).trans (((cell_far (p := ⟨gb362, _, none⟩) (by exact far_ (Kd.own_blk (Kd.R_away HO_6.out (fun _ hk => hk.1)))) _).trans (((cell_far (p := ⟨gb362, _, none⟩) (by exact far_ (Kd.own_blk (Kd.R_away HO_6.out (fun _ hk => hk.1)))) _).trans (hHeld.2.2.2.2.2.2.2.1)))))))))), ((cell_far (p := ⟨gb362, _, none⟩) (by exact far_ (Kd.own_blk (Kd.R_away HO_6.out (fun _ hk => hk.1)))) _).trans (((cell_far (p := ⟨gb362, _, none⟩) (by exact far_ (Kd.own_blk (Kd.R_away HO_6.out (fun _ hk => hk.1)))) _).trans (((cell_far (p := ⟨gb362, _, none⟩) (by exact far_ (Kd.own_blk (Kd.R_away HO_6.out (fun _ hk => hk.1)))) _).trans (((cell_far (p := ⟨gb362, _, none⟩) (by exact far_ (Kd.own_blk (Kd.R_away HO_6.out (fun _ hk => hk.1)))) _).trans (((cell_far (p := ⟨gb362, _, none⟩) (by exact far_ (Kd.own_blk (Kd.R_away HO_6.out (fun _ hk => hk.1)))) _).trans (hHeld.2.2.2.2.2.2.2.2.1)))))))))), ((cell_far (p := ⟨gb362, _, none⟩) (by exact far_ (Kd.own_blk (Kd.R_away HO_6.out (fun _ hk => hk.1)))) _).trans (((cell_far (p := ⟨gb362, _, none⟩) (by exact far_ (Kd.own_blk (Kd.R_away HO_6.out (fun _ hk => hk.1)))) _).trans (((cell_far (p := ⟨gb362, _, none⟩) (by exact far_ (Kd.own_blk (Kd.R_away HO_6.out (fun _ hk => hk.1)))) _).trans (((cell_far (p := ⟨gb362, _, none⟩) (by exact far_ (Kd.own_blk (Kd.R_away HO_6.out (fun _ hk => hk.1)))) _).trans (((cell_far (p := ⟨gb362, _, none⟩) (by exact far_ (Kd.own_blk (Kd.R_away HO_6.out (fun _ hk => hk.1)))) _).trans (hHeld.2.2.2.2.2.2.2.2.2))))))))))⟩ (fun hHeld => ?_)
                     clear hK K
                     refine one_ (i := 12) (N := none) #[true, true, true, true, true, true, true, true, true, true, true, true, true] rfl rfl (one_of HT_.out (by kernel_rfl)) (by decide) (fun K hK => ?_)
                     have hs61 : w55.cell? ⟨gb363, 0, none⟩ = some (.int .i64 0) := (blk_cell BK363.out 0).trans rfl
                     have hfs61 := blk_frozen BK363.out 0
                     have hns61_0 := NB362_363.out
                     have hms61_0 := NB363_362.out
                     have hs62 : w55.cell? ⟨gb363, 1, none⟩ = some (.int .i64 0) := (blk_cell BK363.out 1).trans rfl
                     have hfs62 := blk_frozen BK363.out 1
                     have hns62_0 := NB362_363.out
                     have hms62_0 := NB363_362.out
                     have hs63 : w55.cell? ⟨gb363, 2, none⟩ = some (.int .i64 0) := (blk_cell BK363.out 2).trans rfl
                     have hfs63 := blk_frozen BK363.out 2
                     have hns63_0 := NB362_363.out
                     have hms63_0 := NB363_362.out
                     have hs64 : w55.cell? ⟨gb363, 3, none⟩ = some (.int .i64 0) := (blk_cell BK363.out 3).trans rfl
                     have hfs64 := blk_frozen BK363.out 3
                     have hns64_0 := NB362_363.out
                     have hms64_0 := NB363_362.out
                     have hs65 : w55.cell? ⟨gb363, 4, none⟩ = some (.int .i64 0) := (blk_cell BK363.out 4).trans rfl
                     have hfs65 := blk_frozen BK363.out 4
                     have hns65_0 := NB362_363.out
                     have hms65_0 := NB363_362.out
                     refine skip_ (w1 := ?_) (by rfl) rfl ?_ ?_
                     rotate_left
                     ·
                      go_simp
                      rfl
                     refine hK.out _ _ ⟨((cell_far (p := ⟨gb363, _, none⟩) (by exact far_ (Kd.own_blk (Kd.R_away HO_6.out (fun _ hk => hk.2)))) _).trans (((cell_far (p := ⟨gb363, _, none⟩) (by exact far_ (Kd.own_blk (Kd.R_away HO_6.out (fun _ hk => hk.2)))) _).trans (((cell_far (p := ⟨gb363, _, none⟩) (by exact far_ (Kd.own_blk (Kd.R_away HO_6.out (fun _ hk => hk.2)))) _).trans (((cell_far (p := ⟨gb363, _, none⟩) (by exact far_ (Kd.own_blk (Kd.R_away HO_6.out (fun _ hk => hk.2)))) _).trans (((cell_far (p := ⟨gb363, _, none⟩) (by exact far_ (Kd.own_blk (Kd.R_away HO_6.out (fun _ hk => hk.2)))) _).trans (hHeld.1)))))))))), ((cell_far (p := ⟨gb363, _, none⟩) (by exact far_ (Kd.own_blk (Kd.R_away HO_6.out (fun _ hk => hk.2)))) _).trans (((cell_far (p := ⟨gb363, _, none⟩) (by exact far_ (Kd.own_blk (Kd.R_away HO_6.out (fun _ hk => hk.2)))) _).trans (((cell_far (p := ⟨gb363, _, none⟩) (by exact far_ (Kd.own_blk (Kd.R_away HO_6.out (fun _ hk => hk.2)))) _).trans (((cell_far (p := ⟨gb363, _, none⟩) (by exact far_ (Kd.own_blk (Kd.R_away HO_6.out (fun _ hk => hk.2)))) _).trans (((cell_far (p := ⟨gb363, _, none⟩) (by exact far_ (Kd.own_blk (Kd.R_away HO_6.out (fun _ hk => hk.2)))) _).trans (hHeld.2.1)))))))))), ((cell_far (p := ⟨gb363, _, none⟩) (by exact far_ (Kd.own_blk (Kd.R_away HO_6.out (fun _ hk => hk.2)))) _).trans (((cell_far (p := ⟨gb363, _, none⟩) (by exact far_ (Kd.own_blk (Kd.R_away HO_6.out (fun _ hk => hk.2)))) _).trans (((cell_far (p := ⟨gb363, _, none⟩) (by exact far_ (Kd.own_blk (Kd.R_away HO_6.out (fun _ hk => hk.2)))) _).trans (((cell_far (p := ⟨gb363, _, none⟩) (by exact far_ (Kd.own_blk (Kd.R_away HO_6.out (fun _ hk => hk.2)))) _).trans (((cell_far (p := ⟨gb363, _, none⟩) (by exact far_ (Kd.own_blk (Kd.R_away HO_6.out (fun _ hk => hk.2)))) _).trans (hHeld.2.2.1)))))))))), ((cell_far (p := ⟨gb363, _, none⟩) (by exact far_ (Kd.own_blk (Kd.R_away HO_6.out (fun _ hk => hk.2)))) _).trans (((cell_far (p := ⟨gb363, _, none⟩) (by exact far_ (Kd.own_blk (Kd.R_away HO_6.out (fun _ hk => hk.2)))) _).trans (((cell_far (p := ⟨gb363, _, none⟩) (by exact far_ (Kd.own_blk (Kd.R_away HO_6.out (fun _ hk => hk.2)))) _).trans (((cell_far (p := ⟨gb363, _, none⟩) (by exact far_ (Kd.own_blk (Kd.R_away HO_6.out (fun _ hk => hk.2)))) _).trans (((cell_far (p := ⟨gb363, _, none⟩) (by exact far_ (Kd.own_blk (Kd.R_away HO_6.out (fun _ hk => hk.2)))) _).trans (hHeld.2.2.2.1)))))))))), ((cell_far (p := ⟨gb363, _, none⟩) (by exact far_ (Kd.own_blk (Kd.R_away HO_6.out (fun _ hk => hk.2)))) _).trans (((cell_far (p := ⟨gb363, _, none⟩) (by exact far_ (Kd.own_blk (Kd.R_away HO_6.out (fun _ hk => hk.2)))) _).trans (((cell_far (p := ⟨gb363, _, none⟩) (by exact far_ (Kd.own_blk (Kd.R_away HO_6.out (fun _ hk => hk.2)))) _).trans (((cell_far (p := ⟨gb363, _, none⟩) (by exact far_ (Kd.own_blk (Kd.R_away HO_6.out (fun _ hk => hk.2)))) _).trans (((cell_far (p := ⟨gb363, _, none⟩) (by exact far_ (Kd.own_blk (Kd.R_away HO_6.out (fun _ hk => hk.2)))) _).trans (hHeld.2.2.2.2.1)))))))))), ((cell_far (p := ⟨gb363, _, none⟩) (by exact far_ (Kd.own_blk (Kd.R_away HO_6.out (fun _ hk => hk.2)))) _).trans (((cell_far (p := ⟨gb363, _, none⟩) (by exact far_ (Kd.own_blk (Kd.R_away HO_6.out (fun _ hk => hk.2)))) _).trans (((cell_far (p := ⟨gb363, _, none⟩) (by exact far_ (Kd.own_blk (Kd.R_away HO_6.out (fun _ hk => hk.2)))) _).trans (((cell_far (p := ⟨gb363, _, none⟩) (by exact far_ (Kd.own_blk (Kd.R_away HO_6.out (fun _ hk => hk.2)))) _).trans (((cell_far (p := ⟨gb363, _, none⟩) (by exact far_ (Kd.own_blk (Kd.R_away HO_6.out (fun _ hk => hk.2)))) _).trans (hHeld.2.2.2.2.2.1)))))))))), ((cell_far (p := ⟨gb363, _, none⟩) (by exact far_ (Kd.own_blk (Kd.R_away HO_6.out (fun _ hk => hk.2)))) _).trans (((cell_far (p := ⟨gb363, _, none⟩) (by exact far_ (Kd.own_blk (Kd.R_away HO_6.out (fun _ hk => hk.2)))) _).trans (((cell_far (p := ⟨gb363, _, none⟩) (by exact far_ (Kd.own_blk (Kd.R_away HO_6.out (fun _ hk => hk.2)))) _).trans (((cell_far (p := ⟨gb363, _, none⟩) (by exact far_ (Kd.own_blk (Kd.R_away HO_6.out (fun _ hk => hk.2)))) _).trans (((cell_far (p := ⟨gb363, _, none⟩) (by exact far_ (Kd.own_blk (Kd.R_away HO_6.out (fun _ hk => hk.2)))) _).trans (hHeld.2.2.2.2.2.2.1)))))))))), ((cell_far (p := ⟨gb363, _, none⟩) (by exact far_ (Kd.own_blk (Kd.R_away HO_6.out (fun _ hk => hk.2)))) _).trans (((cell_far (p := ⟨gb363, _, none⟩) (by exact far_ (Kd.own_blk (Kd.R_away HO_6.out (fun _ hk => hk.2)))) _).trans (((cell_far (p := ⟨gb363, _, none⟩) (by exact far_ (Kd.own_blk (Kd.R_away HO_6.out (fun _ hk => hk.2)))) _).trans (((cell_far (p := ⟨gb363, _, none⟩) (by exact far_ (Kd.own_blk (Kd.R_away HO_6.out (fun _ hk => hk.2)))) _).trans (((cell_far (p := ⟨gb363, _, none⟩) (by exact far_ (Kd.own_blk (Kd.R_away HO_6.out (fun _ hk => hk.2)))) _).trans (hHeld.2.2.2.2.2.2.2.1)))))))))), ((cell_far (p := ⟨gb363, _, none⟩) (by exact far_ (Kd.own_blk (Kd.R_away HO_6.out (fun _ hk => hk.2)))) _).trans (((cell_far (p := ⟨gb363, _, none⟩) (by exact far_ (Kd.own_blk (Kd.R_away HO_6.out (fun _ hk => hk.2)))) _).trans (((cell_far (p := ⟨gb363, _, none⟩) (by exact far_ (Kd.own_blk (Kd.R_away HO_6.out (fun _ hk => hk.2)))) _).trans (((cell_far (p := ⟨gb363, _, none⟩) (by exact far_ (Kd.own_blk (Kd.R_away HO_6.out (fun _ hk => hk.2)))) _).trans (((cell_far (p := ⟨gb363, _, none⟩) (by exact far_ (Kd.own_blk (Kd.R_away HO_6.out (fun _ hk => hk.2)))) _).trans (hHeld.2.2.2.2.2.2.2.2.1)))))))))), ((cell_far (p := ⟨gb363, _, none⟩) (by exact far_ (Kd.own_blk (Kd.R_away HO_6.out (fun _ hk => hk.2)))) _).trans (((cell_far (p := ⟨gb363, _, none⟩) (by exact far_ (Kd.own_blk (Kd.R_away HO_6.out (fun _ hk => hk.2)))) _).trans (((cell_far (p := ⟨gb363, _, none⟩) (by exact far_ (Kd.own_blk (Kd.R_away HO_6.out (fun _ hk => hk.2)))) _).trans (((cell_far (p := ⟨gb363, _, none⟩) (by exact far_ (Kd.own_blk (Kd.R_away HO_6.out (fun _ hk => hk.2)))) _).trans (((cell_far (p := ⟨gb363, _, none⟩) (by exact far_ (Kd.own_blk (Kd.R_away HO_6.out (fun _ hk => hk.2)))) _).trans (hHeld.2.2.2.2.2.2.2.2.2))))))))))⟩ (fun hHeld => ?_)
                     clear hK K
                     refine done_ (done_of HT_.out (by kernel_rfl)) ?_
                     have hnb66 := NB362_363.out
                     have hnc66 := NB363_362.out
                     have hcz67_0 : w55.cell? ⟨gb362, 0, none⟩ = some (.int .i64 0) := (blk_cell BK362.out 0).trans rfl
                     have hcz67_1 : w55.cell? ⟨gb362, 1, none⟩ = some (.int .i64 0) := (blk_cell BK362.out 1).trans rfl
                     have hcz67_2 : w55.cell? ⟨gb362, 2, none⟩ = some (.int .i64 0) := (blk_cell BK362.out 2).trans rfl
                     have hcz67_3 : w55.cell? ⟨gb362, 3, none⟩ = some (.int .i64 0) := (blk_cell BK362.out 3).trans rfl
                     have hcz67_4 : w55.cell? ⟨gb362, 4, none⟩ = some (.int .i64 0) := (blk_cell BK362.out 4).trans rfl
                     have hfz67_0 := blk_frozen BK362.out 0
                     have hfz67_1 := blk_frozen BK362.out 1
                     have hfz67_2 := blk_frozen BK362.out 2
                     have hfz67_3 := blk_frozen BK362.out 3
                     have hfz67_4 := blk_frozen BK362.out 4
                     have hcz68_0 : w55.cell? ⟨gb363, 0, none⟩ = some (.int .i64 0) := (blk_cell BK363.out 0).trans rfl
                     have hcz68_1 : w55.cell? ⟨gb363, 1, none⟩ = some (.int .i64 0) := (blk_cell BK363.out 1).trans rfl
                     have hcz68_2 : w55.cell? ⟨gb363, 2, none⟩ = some (.int .i64 0) := (blk_cell BK363.out 2).trans rfl
                     have hcz68_3 : w55.cell? ⟨gb363, 3, none⟩ = some (.int .i64 0) := (blk_cell BK363.out 3).trans rfl
                     have hcz68_4 : w55.cell? ⟨gb363, 4, none⟩ = some (.int .i64 0) := (blk_cell BK363.out 4).trans rfl
                     have hfz68_0 := blk_frozen BK363.out 0
                     have hfz68_1 := blk_frozen BK363.out 1
                     have hfz68_2 := blk_frozen BK363.out 2
                     have hfz68_3 := blk_frozen BK363.out 3
                     have hfz68_4 := blk_frozen BK363.out 4
                     try go_wp2
                     go_roundg k4
                     case measure => have := HJ3.out; have := HJ11.out; have := HK3.out; have := HK4.out; omega
                     case rel => exact ⟨(wrap64 (x14_4 + 1)), (by first | rfl | (simp; done) | (simp [*]; done)), H', ⟨by have := HJ3.out; have := HJ11.out; have := HK3.out; have := HK4.out; omega⟩, ⟨by (with_reducible repeat (first | apply Kd.R_alloc | apply Kd.R_drewN | apply Kd.R_drew)); exact Kd.R_mono (Kd.R_far (p := ⟨gb363, 4, none⟩) (Kd.R_far (p := ⟨gb363, 3, none⟩) (Kd.R_far (p := ⟨gb363, 2, none⟩) (Kd.R_far (p := ⟨gb363, 1, none⟩) (Kd.R_far (p := ⟨gb363, 0, none⟩) (Kd.R_far (p := ⟨gb362, 4, none⟩) (Kd.R_far (p := ⟨gb362, 3, none⟩) (Kd.R_far (p := ⟨gb362, 2, none⟩) (Kd.R_far (p := ⟨gb362, 1, none⟩) (Kd.R_far (p := ⟨gb362, 0, none⟩) (Kd.R_mono (Kd.R_mono HO_6.out (fun k_ hk => (⟨hk, hk.1⟩ : _ ∧ k_ ≠ gb362))) (fun k_ hk => (⟨hk, hk.1.2⟩ : _ ∧ k_ ≠ gb363))) (fun _ hk => hk.1.2) (.int .i64 ((rd_T38 t341 (ji43)).f0))) (fun _ hk => hk.1.2) (.int .i64 ((rd_T38 t341 (ji43)).f1.f0))) (fun _ hk => hk.1.2) (.int .i64 ((rd_T38 t341 (ji43)).f1.f1))) (fun _ hk => hk.1.2) (.int .i64 ((rd_T38 t341 (ji43)).f2.f0))) (fun _ hk => hk.1.2) (.int .i64 ((rd_T38 t341 (ji43)).f2.f1))) (fun _ hk => hk.2) (.int .i64 ((rd_T38 t341 x14_4).f0))) (fun _ hk => hk.2) (.int .i64 ((rd_T38 t341 x14_4).f1.f0))) (fun _ hk => hk.2) (.int .i64 ((rd_T38 t341 x14_4).f1.f1))) (fun _ hk => hk.2) (.int .i64 ((rd_T38 t341 x14_4).f2.f0))) (fun _ hk => hk.2) (.int .i64 ((rd_T38 t341 x14_4).f2.f1))) (fun _ hk => trivial)⟩, ⟨by repeat (first | (with_reducible first | exact HB.out | apply below_alloc | apply pw_below_drewN | apply below_drew1 | refine below_set ?_ GE362.out | refine below_set ?_ GE363.out) | exact HB.out)⟩⟩
                   ·
                    rw [if_neg c50] at H
                    have c50b0 : (((rd_T38 t341 (ji43)).f1.f0) == ((rd_T38 t341 x14_4).f1.f0)) = false := beq_eq_false_iff_ne.mpr c50
                    have c50b1 : (((rd_T38 t341 (ji43)).f1.f0) != ((rd_T38 t341 x14_4).f1.f0)) = true := bne_iff_ne.mpr c50
                    have H' := Aside0.mk H
                    clear H
                    try go_wp2
                    have n0_ := Aside0.mk (Kd.R_drew HO_6.out)
                    have n1_ := Aside0.mk (below_drew1 HB.out)
                    clear HO_6 HB
                    have HO_6 := n0_
                    have HB := n1_
                    clear n0_ n1_
                    have p360 : 0 ≤ ((ji43) : Int) := of_decide_eq_true (by first | (with_reducible assumption) | assumption)
                    have q360 : (ji43) < (t341.length : Int) := of_decide_eq_true (by first | (with_reducible assumption) | assumption)
                    obtain ⟨ad360, e360, hx360_0, hx360_1, hx360_2, hx360_3, hx360_4⟩ := at_T38 (Kd.R_reads' HO_6.out).2.2 (ji43) p360 q360
                    cases e360
                    replace p360 := eq_true p360
                    replace q360 := eq_true q360
                    have p361 : 0 ≤ (x14_4 : Int) := of_decide_eq_true (by first | (with_reducible assumption) | assumption)
                    have q361 : x14_4 < (t341.length : Int) := of_decide_eq_true (by first | (with_reducible assumption) | assumption)
                    obtain ⟨ad361, e361, hx361_0, hx361_1, hx361_2, hx361_3, hx361_4⟩ := at_T38 (Kd.R_reads' HO_6.out).2.2 x14_4 p361 q361
                    obtain rfl : ad360 = ad361 := (by injection e361)
                    replace p361 := eq_true p361
                    replace q361 := eq_true q361
                    refine start_ (n := 13) (S := fun w' => w'.cell? (ad360.add (((ji43)).toNat * 5)) = some (.int .i64 ((rd_T38 t341 (ji43)).f0)) ∧ w'.cell? ⟨(ad360.add (((ji43)).toNat * 5)).block, (ad360.add (((ji43)).toNat * 5)).off + 1, none⟩ = some (.int .i64 ((rd_T38 t341 (ji43)).f1.f0)) ∧ w'.cell? ⟨(ad360.add (((ji43)).toNat * 5)).block, (ad360.add (((ji43)).toNat * 5)).off + 2, none⟩ = some (.int .i64 ((rd_T38 t341 (ji43)).f1.f1)) ∧ w'.cell? ⟨(ad360.add (((ji43)).toNat * 5)).block, (ad360.add (((ji43)).toNat * 5)).off + 3, none⟩ = some (.int .i64 ((rd_T38 t341 (ji43)).f2.f0)) ∧ w'.cell? ⟨(ad360.add (((ji43)).toNat * 5)).block, (ad360.add (((ji43)).toNat * 5)).off + 4, none⟩ = some (.int .i64 ((rd_T38 t341 (ji43)).f2.f1)) ∧ w'.cell? (ad360.add ((x14_4).toNat * 5)) = some (.int .i64 ((rd_T38 t341 x14_4).f0)) ∧ w'.cell? ⟨(ad360.add ((x14_4).toNat * 5)).block, (ad360.add ((x14_4).toNat * 5)).off + 1, none⟩ = some (.int .i64 ((rd_T38 t341 x14_4).f1.f0)) ∧ w'.cell? ⟨(ad360.add ((x14_4).toNat * 5)).block, (ad360.add ((x14_4).toNat * 5)).off + 2, none⟩ = some (.int .i64 ((rd_T38 t341 x14_4).f1.f1)) ∧ w'.cell? ⟨(ad360.add ((x14_4).toNat * 5)).block, (ad360.add ((x14_4).toNat * 5)).off + 3, none⟩ = some (.int .i64 ((rd_T38 t341 x14_4).f2.f0)) ∧ w'.cell? ⟨(ad360.add ((x14_4).toNat * 5)).block, (ad360.add ((x14_4).toNat * 5)).off + 4, none⟩ = some (.int .i64 ((rd_T38 t341 x14_4).f2.f1))) (ds := []) #[false, false, false, false, false, false, false, false, false, false, false, false, false] (by kernel_rfl) rfl rfl ⟨hx360_0, hx360_1, hx360_2, hx360_3, hx360_4, hx361_0, hx361_1, hx361_2, hx361_3, hx361_4⟩ (fun hHeld => ?_); refine with_tabW tailwaterlaw34_SinkSorted.tab19 tailwaterlaw34_SinkSorted.bits19 (fun HT_ HW_ => ?_)
                    generalize wr.drew = w69 at HO_6 HB hx360_0 hx360_1 hx360_2 hx360_3 hx360_4 hx361_0 hx361_1 hx361_2 hx361_3 hx361_4 hHeld ⊢
                    refine pure_ (i := 0) (N := some 116) (v := ?_) (a' := ?_) #[true, false, false, false, false, false, false, false, false, false, false, false, false] rfl rfl (any_of HT_.out (by kernel_rfl)) (fun _ _ _ h => h) (Or.inl ⟨by rfl, ?_⟩) ?_ ?_
                    rotate_left
                    ·
                     intro w'
                     go_simp
                     with_reducible rfl
                    rotate_left
                    ·
                     simp only [Act.put, List.setIfInBounds_toArray, List.set_cons_zero, List.set_cons_succ, i64_w, i32_w]
                     rfl
                    refine pure_ (i := 1) (N := some 117) (v := ?_) (a' := ?_) #[true, true, false, false, false, false, false, false, false, false, false, false, false] rfl rfl (any_of HT_.out (by kernel_rfl)) (fun _ _ _ h => h) (Or.inl ⟨by rfl, ?_⟩) ?_ ?_
                    rotate_left
                    ·
                     intro w'
                     go_simp
                     with_reducible rfl
                    rotate_left
                    ·
                     simp only [Act.put, List.setIfInBounds_toArray, List.set_cons_zero, List.set_cons_succ, i64_w, i32_w]
                     rfl
                    refine pure_ (i := 2) (N := some 118) (v := ?_) (a' := ?_) #[true, true, true, false, false, false, false, false, false, false, false, false, false] rfl rfl (any_of HT_.out (by kernel_rfl)) (fun _ _ _ h => h) (Or.inl ⟨by rfl, ?_⟩) ?_ ?_
                    rotate_left
                    ·
                     intro w'
                     go_simp
                     with_reducible rfl
                    rotate_left
                    ·
                     simp only [Act.put, List.setIfInBounds_toArray, List.set_cons_zero, List.set_cons_succ, i64_w, i32_w]
                     rfl
                    refine pure_ (i := 3) (N := some 119) (v := ?_) (a' := ?_) #[true, true, true, true, false, false, false, false, false, false, false, false, false] rfl rfl (any_of HT_.out (by kernel_rfl)) (fun _ _ _ h => h) (Or.inl ⟨by rfl, ?_⟩) ?_ ?_
                    rotate_left
                    ·
                     intro w'
                     go_simp
                     with_reducible rfl
                    rotate_left
                    ·
                     simp only [Act.put, List.setIfInBounds_toArray, List.set_cons_zero, List.set_cons_succ, i64_w, i32_w]
                     rfl
                    refine pure_ (i := 5) (N := some 121) (v := ?_) (a' := ?_) #[true, true, true, true, false, true, false, false, false, false, false, false, false] rfl rfl (any_of HT_.out (by kernel_rfl)) (fun _ _ _ h => h) (Or.inl ⟨by rfl, ?_⟩) ?_ ?_
                    rotate_left
                    ·
                     intro w'
                     go_simp
                     with_reducible rfl
                    rotate_left
                    ·
                     simp only [Act.put, List.setIfInBounds_toArray, List.set_cons_zero, List.set_cons_succ, i64_w, i32_w]
                     rfl
                    refine pure_ (i := 6) (N := some 122) (v := ?_) (a' := ?_) #[true, true, true, true, false, true, true, false, false, false, false, false, false] rfl rfl (any_of HT_.out (by kernel_rfl)) (fun _ _ _ h => h) (Or.inl ⟨by rfl, ?_⟩) ?_ ?_
                    rotate_left
                    ·
                     intro w'
                     go_simp
                     with_reducible rfl
                    rotate_left
                    ·
                     simp only [Act.put, List.setIfInBounds_toArray, List.set_cons_zero, List.set_cons_succ, i64_w, i32_w]
                     rfl
                    refine pure_ (i := 7) (N := some 123) (v := ?_) (a' := ?_) #[true, true, true, true, false, true, true, true, false, false, false, false, false] rfl rfl (any_of HT_.out (by kernel_rfl)) (fun _ _ _ h => h) (Or.inl ⟨by rfl, ?_⟩) ?_ ?_
                    rotate_left
                    ·
                     intro w'
                     go_simp
                     with_reducible rfl
                    rotate_left
                    ·
                     simp only [Act.put, List.setIfInBounds_toArray, List.set_cons_zero, List.set_cons_succ, i64_w, i32_w]
                     rfl
                    refine take_ (i := 4) (N := some 120) (v := ?_) (a' := ?_) #[true, true, true, true, true, true, true, true, false, false, false, false, false] rfl rfl (take_ofW HT_.out HW_.out (by kernel_rfl)) (fun _ _ _ h => h) (Or.inl ⟨by rfl, ?_⟩) hHeld ?_ ?_
                    rotate_left
                    ·
                     rintro w' ⟨s0, s1, s2, s3, s4, s5, s6, s7, s8, s9⟩
                     go_simp
                     with_reducible rfl
                    rotate_left
                    ·
                     simp only [Act.put, List.setIfInBounds_toArray, List.set_cons_zero, List.set_cons_succ, i64_w, i32_w]
                     rfl
                    refine take_ (i := 8) (N := some 124) (v := ?_) (a' := ?_) #[true, true, true, true, true, true, true, true, true, false, false, false, false] rfl rfl (take_ofW HT_.out HW_.out (by kernel_rfl)) (fun _ _ _ h => h) (Or.inl ⟨by rfl, ?_⟩) hHeld ?_ ?_
                    rotate_left
                    ·
                     rintro w' ⟨s0, s1, s2, s3, s4, s5, s6, s7, s8, s9⟩
                     go_simp
                     with_reducible rfl
                    rotate_left
                    ·
                     simp only [Act.put, List.setIfInBounds_toArray, List.set_cons_zero, List.set_cons_succ, i64_w, i32_w]
                     rfl
                    refine join_ (σ := Nat × Nat) 2 #[true, true, true, true, true, true, true, true, true, true, true, false, false] (fun s_ => [(15, .pointer (some ⟨s_.1, 0, none⟩)), (16, .pointer (some ⟨s_.2, 0, none⟩))]) (fun s_ w' => (w'.cell? (ad360.add (((ji43)).toNat * 5)) = some (.int .i64 ((rd_T38 t341 (ji43)).f0)) ∧ w'.cell? ⟨(ad360.add (((ji43)).toNat * 5)).block, (ad360.add (((ji43)).toNat * 5)).off + 1, none⟩ = some (.int .i64 ((rd_T38 t341 (ji43)).f1.f0)) ∧ w'.cell? ⟨(ad360.add (((ji43)).toNat * 5)).block, (ad360.add (((ji43)).toNat * 5)).off + 2, none⟩ = some (.int .i64 ((rd_T38 t341 (ji43)).f1.f1)) ∧ w'.cell? ⟨(ad360.add (((ji43)).toNat * 5)).block, (ad360.add (((ji43)).toNat * 5)).off + 3, none⟩ = some (.int .i64 ((rd_T38 t341 (ji43)).f2.f0)) ∧ w'.cell? ⟨(ad360.add (((ji43)).toNat * 5)).block, (ad360.add (((ji43)).toNat * 5)).off + 4, none⟩ = some (.int .i64 ((rd_T38 t341 (ji43)).f2.f1)) ∧ w'.cell? (ad360.add ((x14_4).toNat * 5)) = some (.int .i64 ((rd_T38 t341 x14_4).f0)) ∧ w'.cell? ⟨(ad360.add ((x14_4).toNat * 5)).block, (ad360.add ((x14_4).toNat * 5)).off + 1, none⟩ = some (.int .i64 ((rd_T38 t341 x14_4).f1.f0)) ∧ w'.cell? ⟨(ad360.add ((x14_4).toNat * 5)).block, (ad360.add ((x14_4).toNat * 5)).off + 2, none⟩ = some (.int .i64 ((rd_T38 t341 x14_4).f1.f1)) ∧ w'.cell? ⟨(ad360.add ((x14_4).toNat * 5)).block, (ad360.add ((x14_4).toNat * 5)).off + 3, none⟩ = some (.int .i64 ((rd_T38 t341 x14_4).f2.f0)) ∧ w'.cell? ⟨(ad360.add ((x14_4).toNat * 5)).block, (ad360.add ((x14_4).toNat * 5)).off + 4, none⟩ = some (.int .i64 ((rd_T38 t341 x14_4).f2.f1))) ∧ (Kd.R k38 38 w' w.heap.size (fun k_ => k_ ≠ s_.1 ∧ k_ ≠ s_.2) (.slice (some ad360) t341.length co14) t341) ∧ (w'.heap[s_.1]? = some (.cells #[.int .i64 0, .int .i64 0, .int .i64 0, .int .i64 0, .int .i64 0] 38 (0, 0))) ∧ (w'.heap[s_.2]? = some (.cells #[.int .i64 0, .int .i64 0, .int .i64 0, .int .i64 0, .int .i64 0] 38 (0, 0))) ∧ (w.heap.size ≤ s_.1) ∧ (w.heap.size ≤ s_.1) ∧ (s_.2 ≠ s_.1) ∧ (s_.1 ≠ s_.2) ∧ (w.heap.size ≤ s_.2) ∧ (w.heap.size ≤ s_.2) ∧ (Below w.heap.size w w')) ?_ ?_
                    rotate_left
                    ·
                     intro hCont
                     refine two_ (i := 9) (j := 10) (Ni := some 15) (Nj := some 16) #[true, true, true, true, true, true, true, true, true, true, false, false, false] #[true, true, true, true, true, true, true, true, true, false, true, false, false] rfl rfl rfl rfl (two_of HT_.out (by kernel_rfl)) (by decide) (by decide) (fun K hK => ?_) (fun K hK => ?_)
                     ·
                      skip
                      refine box_step ?hg (N := 15) ?hd (cs := #[.int .i64 0, .int .i64 0, .int .i64 0, .int .i64 0, .int .i64 0]) (t := 38) ?hr ?_; (case hd => rfl); (case hg => rfl); (case hr => first | (go_simp; done) | (go_simp; rfl))
                      intro gb362 hg w70 hbox hb
                      have HS0_ := (hb.cell (World.block_lt_of_cell? _ _ (hHeld.1))).trans (hHeld.1)
                      have HS1_ := (hb.cell (World.block_lt_of_cell? _ _ (hHeld.2.1))).trans (hHeld.2.1)
                      have HS2_ := (hb.cell (World.block_lt_of_cell? _ _ (hHeld.2.2.1))).trans (hHeld.2.2.1)
                      have HS3_ := (hb.cell (World.block_lt_of_cell? _ _ (hHeld.2.2.2.1))).trans (hHeld.2.2.2.1)
                      have HS4_ := (hb.cell (World.block_lt_of_cell? _ _ (hHeld.2.2.2.2.1))).trans (hHeld.2.2.2.2.1)
                      have HS5_ := (hb.cell (World.block_lt_of_cell? _ _ (hHeld.2.2.2.2.2.1))).trans (hHeld.2.2.2.2.2.1)
                      have HS6_ := (hb.cell (World.block_lt_of_cell? _ _ (hHeld.2.2.2.2.2.2.1))).trans (hHeld.2.2.2.2.2.2.1)
                      have HS7_ := (hb.cell (World.block_lt_of_cell? _ _ (hHeld.2.2.2.2.2.2.2.1))).trans (hHeld.2.2.2.2.2.2.2.1)
                      have HS8_ := (hb.cell (World.block_lt_of_cell? _ _ (hHeld.2.2.2.2.2.2.2.2.1))).trans (hHeld.2.2.2.2.2.2.2.2.1)
                      have HS9_ := (hb.cell (World.block_lt_of_cell? _ _ (hHeld.2.2.2.2.2.2.2.2.2))).trans (hHeld.2.2.2.2.2.2.2.2.2)
                      have n0_ := Aside0.mk (Kd.R_below (Kd.R_elderB (by (with_reducible repeat (first | apply Kd.R_alloc | apply Kd.R_drewN | apply Kd.R_drew)); exact HO_6.out) gb362 (Nat.le_of_eq hg.symm)) hb)
                      have n1_ := Aside0.mk (below_step (by repeat (first | (with_reducible first | exact HB.out | apply below_alloc | apply pw_below_drewN | apply below_drew1) | exact HB.out)) hb)
                      have n2_ := Aside0.mk (hbox)
                      have n3_ := Aside0.mk ((by rw [hg]; exact (below_size (by repeat (first | (with_reducible first | exact HB.out | apply below_alloc | apply pw_below_drewN | apply below_drew1) | exact HB.out))) : w.heap.size ≤ gb362))
                      have n4_ := Aside0.mk ((by rw [hg]; exact (below_size (by repeat (first | (with_reducible first | exact HB.out | apply below_alloc | apply pw_below_drewN | apply below_drew1) | exact HB.out))) : w.heap.size ≤ gb362))
                      clear HO_6 HB
                      have HO_6 := n0_
                      have HB := n1_
                      have BK362 := n2_
                      have GW362 := n3_
                      have GE362 := n4_
                      clear n0_ n1_ n2_ n3_ n4_
                      clear hb hbox hg
                      refine hK.out _ _ ⟨HS0_, HS1_, HS2_, HS3_, HS4_, HS5_, HS6_, HS7_, HS8_, HS9_⟩ (fun hHeld => ?_)
                      clear hK K
                      refine norm_ (a' := ?_) ?_ ?_
                      rotate_left
                      ·
                       show Act.put _ (some 15) _ = _
                       simp only [Act.put, List.setIfInBounds_toArray, List.set_cons_zero, List.set_cons_succ, i64_w, i32_w]
                       rfl
                      refine one_ (i := 10) (N := some 16) #[true, true, true, true, true, true, true, true, true, true, true, false, false] rfl rfl (one_of HT_.out (by kernel_rfl)) (by decide) (fun K hK => ?_)
                      refine box_step ?hg (N := 16) ?hd (cs := #[.int .i64 0, .int .i64 0, .int .i64 0, .int .i64 0, .int .i64 0]) (t := 38) ?hr ?_; (case hd => rfl); (case hg => rfl); (case hr => first | (go_simp; done) | (go_simp; rfl))
                      intro gb363 hg w71 hbox hb
                      have HS0_ := (hb.cell (World.block_lt_of_cell? _ _ (hHeld.1))).trans (hHeld.1)
                      have HS1_ := (hb.cell (World.block_lt_of_cell? _ _ (hHeld.2.1))).trans (hHeld.2.1)
                      have HS2_ := (hb.cell (World.block_lt_of_cell? _ _ (hHeld.2.2.1))).trans (hHeld.2.2.1)
                      have HS3_ := (hb.cell (World.block_lt_of_cell? _ _ (hHeld.2.2.2.1))).trans (hHeld.2.2.2.1)
                      have HS4_ := (hb.cell (World.block_lt_of_cell? _ _ (hHeld.2.2.2.2.1))).trans (hHeld.2.2.2.2.1)
                      have HS5_ := (hb.cell (World.block_lt_of_cell? _ _ (hHeld.2.2.2.2.2.1))).trans (hHeld.2.2.2.2.2.1)
                      have HS6_ := (hb.cell (World.block_lt_of_cell? _ _ (hHeld.2.2.2.2.2.2.1))).trans (hHeld.2.2.2.2.2.2.1)
                      have HS7_ := (hb.cell (World.block_lt_of_cell? _ _ (hHeld.2.2.2.2.2.2.2.1))).trans (hHeld.2.2.2.2.2.2.2.1)
                      have HS8_ := (hb.cell (World.block_lt_of_cell? _ _ (hHeld.2.2.2.2.2.2.2.2.1))).trans (hHeld.2.2.2.2.2.2.2.2.1)
                      have HS9_ := (hb.cell (World.block_lt_of_cell? _ _ (hHeld.2.2.2.2.2.2.2.2.2))).trans (hHeld.2.2.2.2.2.2.2.2.2)
                      have n0_ := Aside0.mk (Kd.R_below (Kd.R_elderB (by (with_reducible repeat (first | apply Kd.R_alloc | apply Kd.R_drewN | apply Kd.R_drew)); exact HO_6.out) gb363 (Nat.le_of_eq hg.symm)) hb)
                      have n1_ := Aside0.mk (blk_below (g := gb362) (o := .cells #[.int .i64 0, .int .i64 0, .int .i64 0, .int .i64 0, .int .i64 0] 38 (0, 0)) (by (with_reducible repeat (first | refine blk_drewN ?_ _ | refine blk_drew ?_ | refine blk_alloc ?_ _)); exact BK362.out) hb)
                      have n2_ := Aside0.mk (below_step (by repeat (first | (with_reducible first | exact HB.out | apply below_alloc | apply pw_below_drewN | apply below_drew1 | refine below_set ?_ GE362.out) | exact HB.out)) hb)
                      have n3_ := Aside0.mk (hbox)
                      have n4_ := Aside0.mk ((by rw [hg]; exact (below_size (by repeat (first | (with_reducible first | exact HB.out | apply below_alloc | apply pw_below_drewN | apply below_drew1 | refine below_set ?_ GE362.out) | exact HB.out))) : w.heap.size ≤ gb363))
                      have n5_ := Aside0.mk ((by rw [hg]; exact (below_size (by repeat (first | (with_reducible first | exact HB.out | apply below_alloc | apply pw_below_drewN | apply below_drew1 | refine below_set ?_ GE362.out) | exact HB.out))) : w.heap.size ≤ gb363))
                      have n6_ := Aside0.mk ((by rw [hg]; exact Nat.ne_of_lt (blk_lt (g := gb362) (o := .cells #[.int .i64 0, .int .i64 0, .int .i64 0, .int .i64 0, .int .i64 0] 38 (0, 0)) (by (with_reducible repeat (first | refine blk_drewN ?_ _ | refine blk_drew ?_ | refine blk_alloc ?_ _)); exact BK362.out)) : gb362 ≠ gb363))
                      have n7_ := Aside0.mk ((by rw [hg]; exact Nat.ne_of_gt (blk_lt (g := gb362) (o := .cells #[.int .i64 0, .int .i64 0, .int .i64 0, .int .i64 0, .int .i64 0] 38 (0, 0)) (by (with_reducible repeat (first | refine blk_drewN ?_ _ | refine blk_drew ?_ | refine blk_alloc ?_ _)); exact BK362.out)) : gb363 ≠ gb362))
                      clear HO_6 BK362 HB
                      have HO_6 := n0_
                      have BK362 := n1_
                      have HB := n2_
                      have BK363 := n3_
                      have GW363 := n4_
                      have GE363 := n5_
                      have NB362_363 := n6_
                      have NB363_362 := n7_
                      clear n0_ n1_ n2_ n3_ n4_ n5_ n6_ n7_
                      clear hb hbox hg
                      refine hK.out _ _ ⟨HS0_, HS1_, HS2_, HS3_, HS4_, HS5_, HS6_, HS7_, HS8_, HS9_⟩ (fun hHeld => ?_)
                      clear hK K
                      refine norm_ (a' := ?_) ?_ ?_
                      rotate_left
                      ·
                       show Act.put _ (some 16) _ = _
                       simp only [Act.put, List.setIfInBounds_toArray, List.set_cons_zero, List.set_cons_succ, i64_w, i32_w]
                       rfl
                      exact norm_ (by simp only [putAll, Act.put, List.setIfInBounds_toArray, List.set_cons_zero, List.set_cons_succ]) (hCont (gb362, gb363) _ ⟨hHeld, (by (with_reducible repeat (first | apply Kd.R_alloc | apply Kd.R_drewN | apply Kd.R_drew)); exact Kd.R_mono HO_6.out (fun _ hk => ⟨hk.1.2, hk.2⟩)), (by (with_reducible repeat (first | refine blk_drewN ?_ _ | refine blk_drew ?_ | refine blk_alloc ?_ _)); exact BK362.out), (by (with_reducible repeat (first | refine blk_drewN ?_ _ | refine blk_drew ?_ | refine blk_alloc ?_ _)); exact BK363.out), GW362.out, GE362.out, NB363_362.out, NB362_363.out, GW363.out, GE363.out, (by repeat (first | (with_reducible first | exact HB.out | apply below_alloc | apply pw_below_drewN | apply below_drew1 | refine below_set ?_ GE362.out | refine below_set ?_ GE363.out) | exact HB.out))⟩)
                     ·
                      skip
                      refine box_step ?hg (N := 16) ?hd (cs := #[.int .i64 0, .int .i64 0, .int .i64 0, .int .i64 0, .int .i64 0]) (t := 38) ?hr ?_; (case hd => rfl); (case hg => rfl); (case hr => first | (go_simp; done) | (go_simp; rfl))
                      intro gb363 hg w70 hbox hb
                      have HS0_ := (hb.cell (World.block_lt_of_cell? _ _ (hHeld.1))).trans (hHeld.1)
                      have HS1_ := (hb.cell (World.block_lt_of_cell? _ _ (hHeld.2.1))).trans (hHeld.2.1)
                      have HS2_ := (hb.cell (World.block_lt_of_cell? _ _ (hHeld.2.2.1))).trans (hHeld.2.2.1)
                      have HS3_ := (hb.cell (World.block_lt_of_cell? _ _ (hHeld.2.2.2.1))).trans (hHeld.2.2.2.1)
                      have HS4_ := (hb.cell (World.block_lt_of_cell? _ _ (hHeld.2.2.2.2.1))).trans (hHeld.2.2.2.2.1)
                      have HS5_ := (hb.cell (World.block_lt_of_cell? _ _ (hHeld.2.2.2.2.2.1))).trans (hHeld.2.2.2.2.2.1)
                      have HS6_ := (hb.cell (World.block_lt_of_cell? _ _ (hHeld.2.2.2.2.2.2.1))).trans (hHeld.2.2.2.2.2.2.1)
                      have HS7_ := (hb.cell (World.block_lt_of_cell? _ _ (hHeld.2.2.2.2.2.2.2.1))).trans (hHeld.2.2.2.2.2.2.2.1)
                      have HS8_ := (hb.cell (World.block_lt_of_cell? _ _ (hHeld.2.2.2.2.2.2.2.2.1))).trans (hHeld.2.2.2.2.2.2.2.2.1)
                      have HS9_ := (hb.cell (World.block_lt_of_cell? _ _ (hHeld.2.2.2.2.2.2.2.2.2))).trans (hHeld.2.2.2.2.2.2.2.2.2)
                      have n0_ := Aside0.mk (Kd.R_below (Kd.R_elderB (by (with_reducible repeat (first | apply Kd.R_alloc | apply Kd.R_drewN | apply Kd.R_drew)); exact HO_6.out) gb363 (Nat.le_of_eq hg.symm)) hb)
                      have n1_ := Aside0.mk (below_step (by repeat (first | (with_reducible first | exact HB.out | apply below_alloc | apply pw_below_drewN | apply below_drew1) | exact HB.out)) hb)
                      have n2_ := Aside0.mk (hbox)
                      have n3_ := Aside0.mk ((by rw [hg]; exact (below_size (by repeat (first | (with_reducible first | exact HB.out | apply below_alloc | apply pw_below_drewN | apply below_drew1) | exact HB.out))) : w.heap.size ≤ gb363))
                      have n4_ := Aside0.mk ((by rw [hg]; exact (below_size (by repeat (first | (with_reducible first | exact HB.out | apply below_alloc | apply pw_below_drewN | apply below_drew1) | exact HB.out))) : w.heap.size ≤ gb363))
                      clear HO_6 HB
                      have HO_6 := n0_
                      have HB := n1_
                      have BK363 := n2_
                      have GW363 := n3_
                      have GE363 := n4_
                      clear n0_ n1_ n2_ n3_ n4_
                      clear hb hbox hg
                      refine hK.out _ _ ⟨HS0_, HS1_, HS2_, HS3_, HS4_, HS5_, HS6_, HS7_, HS8_, HS9_⟩ (fun hHeld => ?_)
                      clear hK K
                      refine norm_ (a' := ?_) ?_ ?_
                      rotate_left
                      ·
                       show Act.put _ (some 16) _ = _
                       simp only [Act.put, List.setIfInBounds_toArray, List.set_cons_zero, List.set_cons_succ, i64_w, i32_w]
                       rfl
                      refine one_ (i := 9) (N := some 15) #[true, true, true, true, true, true, true, true, true, true, true, false, false] rfl rfl (one_of HT_.out (by kernel_rfl)) (by decide) (fun K hK => ?_)
                      refine box_step ?hg (N := 15) ?hd (cs := #[.int .i64 0, .int .i64 0, .int .i64 0, .int .i64 0, .int .i64 0]) (t := 38) ?hr ?_; (case hd => rfl); (case hg => rfl); (case hr => first | (go_simp; done) | (go_simp; rfl))
                      intro gb362 hg w71 hbox hb
                      have HS0_ := (hb.cell (World.block_lt_of_cell? _ _ (hHeld.1))).trans (hHeld.1)
                      have HS1_ := (hb.cell (World.block_lt_of_cell? _ _ (hHeld.2.1))).trans (hHeld.2.1)
                      have HS2_ := (hb.cell (World.block_lt_of_cell? _ _ (hHeld.2.2.1))).trans (hHeld.2.2.1)
                      have HS3_ := (hb.cell (World.block_lt_of_cell? _ _ (hHeld.2.2.2.1))).trans (hHeld.2.2.2.1)
                      have HS4_ := (hb.cell (World.block_lt_of_cell? _ _ (hHeld.2.2.2.2.1))).trans (hHeld.2.2.2.2.1)
                      have HS5_ := (hb.cell (World.block_lt_of_cell? _ _ (hHeld.2.2.2.2.2.1))).trans (hHeld.2.2.2.2.2.1)
                      have HS6_ := (hb.cell (World.block_lt_of_cell? _ _ (hHeld.2.2.2.2.2.2.1))).trans (hHeld.2.2.2.2.2.2.1)
                      have HS7_ := (hb.cell (World.block_lt_of_cell? _ _ (hHeld.2.2.2.2.2.2.2.1))).trans (hHeld.2.2.2.2.2.2.2.1)
                      have HS8_ := (hb.cell (World.block_lt_of_cell? _ _ (hHeld.2.2.2.2.2.2.2.2.1))).trans (hHeld.2.2.2.2.2.2.2.2.1)
                      have HS9_ := (hb.cell (World.block_lt_of_cell? _ _ (hHeld.2.2.2.2.2.2.2.2.2))).trans (hHeld.2.2.2.2.2.2.2.2.2)
                      have n0_ := Aside0.mk (Kd.R_below (Kd.R_elderB (by (with_reducible repeat (first | apply Kd.R_alloc | apply Kd.R_drewN | apply Kd.R_drew)); exact HO_6.out) gb362 (Nat.le_of_eq hg.symm)) hb)
                      have n1_ := Aside0.mk (blk_below (g := gb363) (o := .cells #[.int .i64 0, .int .i64 0, .int .i64 0, .int .i64 0, .int .i64 0] 38 (0, 0)) (by (with_reducible repeat (first | refine blk_drewN ?_ _ | refine blk_drew ?_ | refine blk_alloc ?_ _)); exact BK363.out) hb)
                      have n2_ := Aside0.mk (below_step (by repeat (first | (with_reducible first | exact HB.out | apply below_alloc | apply pw_below_drewN | apply below_drew1 | refine below_set ?_ GE363.out) | exact HB.out)) hb)
                      have n3_ := Aside0.mk (hbox)
                      have n4_ := Aside0.mk ((by rw [hg]; exact (below_size (by repeat (first | (with_reducible first | exact HB.out | apply below_alloc | apply pw_below_drewN | apply below_drew1 | refine below_set ?_ GE363.out) | exact HB.out))) : w.heap.size ≤ gb362))
                      have n5_ := Aside0.mk ((by rw [hg]; exact (below_size (by repeat (first | (with_reducible first | exact HB.out | apply below_alloc | apply pw_below_drewN | apply below_drew1 | refine below_set ?_ GE363.out) | exact HB.out))) : w.heap.size ≤ gb362))
                      have n6_ := Aside0.mk ((by rw [hg]; exact Nat.ne_of_lt (blk_lt (g := gb363) (o := .cells #[.int .i64 0, .int .i64 0, .int .i64 0, .int .i64 0, .int .i64 0] 38 (0, 0)) (by (with_reducible repeat (first | refine blk_drewN ?_ _ | refine blk_drew ?_ | refine blk_alloc ?_ _)); exact BK363.out)) : gb363 ≠ gb362))
                      have n7_ := Aside0.mk ((by rw [hg]; exact Nat.ne_of_gt (blk_lt (g := gb363) (o := .cells #[.int .i64 0, .int .i64 0, .int .i64 0, .int .i64 0, .int .i64 0] 38 (0, 0)) (by (with_reducible repeat (first | refine blk_drewN ?_ _ | refine blk_drew ?_ | refine blk_alloc ?_ _)); exact BK363.out)) : gb362 ≠ gb363))
                      clear HO_6 BK363 HB
                      have HO_6 := n0_
                      have BK363 := n1_
                      have HB := n2_
                      have BK362 := n3_
                      have GW362 := n4_
                      have GE362 := n5_
                      have NB363_362 := n6_
                      have NB362_363 := n7_
                      clear n0_ n1_ n2_ n3_ n4_ n5_ n6_ n7_
                      clear hb hbox hg
                      refine hK.out _ _ ⟨HS0_, HS1_, HS2_, HS3_, HS4_, HS5_, HS6_, HS7_, HS8_, HS9_⟩ (fun hHeld => ?_)
                      clear hK K
                      refine norm_ (a' := ?_) ?_ ?_
                      rotate_left
                      ·
                       show Act.put _ (some 15) _ = _
                       simp only [Act.put, List.setIfInBounds_toArray, List.set_cons_zero, List.set_cons_succ, i64_w, i32_w]
                       rfl
                      exact norm_ (by simp only [putAll, Act.put, List.setIfInBounds_toArray, List.set_cons_zero, List.set_cons_succ]) (hCont (gb362, gb363) _ ⟨hHeld, (by (with_reducible repeat (first | apply Kd.R_alloc | apply Kd.R_drewN | apply Kd.R_drew)); exact Kd.R_mono HO_6.out (fun _ hk => ⟨hk.2, hk.1.2⟩)), (by (with_reducible repeat (first | refine blk_drewN ?_ _ | refine blk_drew ?_ | refine blk_alloc ?_ _)); exact BK362.out), (by (with_reducible repeat (first | refine blk_drewN ?_ _ | refine blk_drew ?_ | refine blk_alloc ?_ _)); exact BK363.out), GW362.out, GE362.out, NB363_362.out, NB362_363.out, GW363.out, GE363.out, (by repeat (first | (with_reducible first | exact HB.out | apply below_alloc | apply pw_below_drewN | apply below_drew1 | refine below_set ?_ GE363.out | refine below_set ?_ GE362.out) | exact HB.out))⟩)
                    rintro ⟨gb362, gb363⟩ w72 ⟨hS_, h0_, h1_, h2_, h3_, h4_, h5_, h6_, h7_, h8_, h9_⟩
                    have n0_ : Aside0 (Kd.R k38 38 w72 w.heap.size (fun k_ => k_ ≠ gb362 ∧ k_ ≠ gb363) (.slice (some ad360) t341.length co14) t341) := ⟨h0_⟩
                    have n1_ : Aside0 (w72.heap[gb362]? = some (.cells #[.int .i64 0, .int .i64 0, .int .i64 0, .int .i64 0, .int .i64 0] 38 (0, 0))) := ⟨h1_⟩
                    have n2_ : Aside0 (w72.heap[gb363]? = some (.cells #[.int .i64 0, .int .i64 0, .int .i64 0, .int .i64 0, .int .i64 0] 38 (0, 0))) := ⟨h2_⟩
                    have n3_ : Aside0 (w.heap.size ≤ gb362) := ⟨h3_⟩
                    have n4_ : Aside0 (w.heap.size ≤ gb362) := ⟨h4_⟩
                    have n5_ : Aside0 (gb363 ≠ gb362) := ⟨h5_⟩
                    have n6_ : Aside0 (gb362 ≠ gb363) := ⟨h6_⟩
                    have n7_ : Aside0 (w.heap.size ≤ gb363) := ⟨h7_⟩
                    have n8_ : Aside0 (w.heap.size ≤ gb363) := ⟨h8_⟩
                    have n9_ : Aside0 (Below w.heap.size w w72) := ⟨h9_⟩
                    clear HO_6
                    clear HB
                    clear h0_ h1_ h2_ h3_ h4_ h5_ h6_ h7_ h8_ h9_
                    have HO_6 := n0_
                    have BK362 := n1_
                    have BK363 := n2_
                    have GW362 := n3_
                    have GE362 := n4_
                    have NB363_362 := n5_
                    have NB362_363 := n6_
                    have GW363 := n7_
                    have GE363 := n8_
                    have HB := n9_
                    clear n0_ n1_ n2_ n3_ n4_ n5_ n6_ n7_ n8_ n9_
                    have hHeld : w72.cell? (ad360.add (((ji43)).toNat * 5)) = some (.int .i64 ((rd_T38 t341 (ji43)).f0)) ∧ w72.cell? ⟨(ad360.add (((ji43)).toNat * 5)).block, (ad360.add (((ji43)).toNat * 5)).off + 1, none⟩ = some (.int .i64 ((rd_T38 t341 (ji43)).f1.f0)) ∧ w72.cell? ⟨(ad360.add (((ji43)).toNat * 5)).block, (ad360.add (((ji43)).toNat * 5)).off + 2, none⟩ = some (.int .i64 ((rd_T38 t341 (ji43)).f1.f1)) ∧ w72.cell? ⟨(ad360.add (((ji43)).toNat * 5)).block, (ad360.add (((ji43)).toNat * 5)).off + 3, none⟩ = some (.int .i64 ((rd_T38 t341 (ji43)).f2.f0)) ∧ w72.cell? ⟨(ad360.add (((ji43)).toNat * 5)).block, (ad360.add (((ji43)).toNat * 5)).off + 4, none⟩ = some (.int .i64 ((rd_T38 t341 (ji43)).f2.f1)) ∧ w72.cell? (ad360.add ((x14_4).toNat * 5)) = some (.int .i64 ((rd_T38 t341 x14_4).f0)) ∧ w72.cell? ⟨(ad360.add ((x14_4).toNat * 5)).block, (ad360.add ((x14_4).toNat * 5)).off + 1, none⟩ = some (.int .i64 ((rd_T38 t341 x14_4).f1.f0)) ∧ w72.cell? ⟨(ad360.add ((x14_4).toNat * 5)).block, (ad360.add ((x14_4).toNat * 5)).off + 2, none⟩ = some (.int .i64 ((rd_T38 t341 x14_4).f1.f1)) ∧ w72.cell? ⟨(ad360.add ((x14_4).toNat * 5)).block, (ad360.add ((x14_4).toNat * 5)).off + 3, none⟩ = some (.int .i64 ((rd_T38 t341 x14_4).f2.f0)) ∧ w72.cell? ⟨(ad360.add ((x14_4).toNat * 5)).block, (ad360.add ((x14_4).toNat * 5)).off + 4, none⟩ = some (.int .i64 ((rd_T38 t341 x14_4).f2.f1)) := hS_
                    refine norm_ (a' := ?_) ?_ ?_
                    rotate_left
                    ·
                     simp only [putAll, Act.put, List.setIfInBounds_toArray, List.set_cons_zero, List.set_cons_succ]
                     rfl
                    refine one_ (i := 11) (N := none) #[true, true, true, true, true, true, true, true, true, true, true, true, false] rfl rfl (one_of HT_.out (by kernel_rfl)) (by decide) (fun K hK => ?_)
                    have hs73 : w72.cell? ⟨gb362, 0, none⟩ = some (.int .i64 0) := (blk_cell BK362.out 0).trans rfl
                    have hfs73 := blk_frozen BK362.out 0
                    have hns73_1 := NB363_362.out
                    have hms73_1 := NB362_363.out
                    have hs74 : w72.cell? ⟨gb362, 1, none⟩ = some (.int .i64 0) := (blk_cell BK362.out 1).trans rfl
                    have hfs74 := blk_frozen BK362.out 1
                    have hns74_1 := NB363_362.out
                    have hms74_1 := NB362_363.out
                    have hs75 : w72.cell? ⟨gb362, 2, none⟩ = some (.int .i64 0) := (blk_cell BK362.out 2).trans rfl
                    have hfs75 := blk_frozen BK362.out 2
                    have hns75_1 := NB363_362.out
                    have hms75_1 := NB362_363.out
                    have hs76 : w72.cell? ⟨gb362, 3, none⟩ = some (.int .i64 0) := (blk_cell BK362.out 3).trans rfl
                    have hfs76 := blk_frozen BK362.out 3
                    have hns76_1 := NB363_362.out
                    have hms76_1 := NB362_363.out
                    have hs77 : w72.cell? ⟨gb362, 4, none⟩ = some (.int .i64 0) := (blk_cell BK362.out 4).trans rfl
                    have hfs77 := blk_frozen BK362.out 4
                    have hns77_1 := NB363_362.out
                    have hms77_1 := NB362_363.out
                    refine skip_ (w1 := ?_) (by rfl) rfl ?_ ?_
                    rotate_left
                    ·
                     go_simp
                     rfl
                    refine hK.out _ _ ⟨((cell_far (p := ⟨gb362, _, none⟩) (by exact far_ (Kd.own_blk (Kd.R_away HO_6.out (fun _ hk => hk.1)))) _).trans (((cell_far (p := ⟨gb362, _, none⟩) (by exact far_ (Kd.own_blk (Kd.R_away HO_6.out (fun _ hk => hk.1)))) _).trans (((cell_far (p := ⟨gb362, _, none⟩) (by exact far_ (Kd.own_blk (Kd.R_away HO_6.out (fun _ hk => hk.1)))) _).trans (((cell_far (p := ⟨gb362, _, none⟩) (by exact far_ (Kd.own_blk (Kd.R_away HO_6.out (fun _ hk => hk.1)))) _).trans (((cell_far (p := ⟨gb362, _, none⟩) (by exact far_ (Kd.own_blk (Kd.R_away HO_6.out (fun _ hk => hk.1)))) _).trans (hHeld.1)))))))))), ((cell_far (p := ⟨gb362, _, none⟩) (by exact far_ (Kd.own_blk (Kd.R_away HO_6.out (fun _ hk => hk.1)))) _).trans (((cell_far (p := ⟨gb362, _, none⟩) (by exact far_ (Kd.own_blk (Kd.R_away HO_6.out (fun _ hk => hk.1)))) _).trans (((cell_far (p := ⟨gb362, _, none⟩) (by exact far_ (Kd.own_blk (Kd.R_away HO_6.out (fun _ hk => hk.1)))) _).trans (((cell_far (p := ⟨gb362, _, none⟩) (by exact far_ (Kd.own_blk (Kd.R_away HO_6.out (fun _ hk => hk.1)))) _).trans (((cell_far (p := ⟨gb362, _, none⟩) (by exact far_ (Kd.own_blk (Kd.R_away HO_6.out (fun _ hk => hk.1)))) _).trans (hHeld.2.1)))))))))), ((cell_far (p := ⟨gb362, _, none⟩) (by exact far_ (Kd.own_blk (Kd.R_away HO_6.out (fun _ hk => hk.1)))) _).trans (((cell_far (p := ⟨gb362, _, none⟩) (by exact far_ (Kd.own_blk (Kd.R_away HO_6.out (fun _ hk => hk.1)))) _).trans (((cell_far (p := ⟨gb362, _, none⟩) (by exact far_ (Kd.own_blk (Kd.R_away HO_6.out (fun _ hk => hk.1)))) _).trans (((cell_far (p := ⟨gb362, _, none⟩) (by exact far_ (Kd.own_blk (Kd.R_away HO_6.out (fun _ hk => hk.1)))) _).trans (((cell_far (p := ⟨gb362, _, none⟩) (by exact far_ (Kd.own_blk (Kd.R_away HO_6.out (fun _ hk => hk.1)))) _).trans (hHeld.2.2.1)))))))))), ((cell_far (p := ⟨gb362, _, none⟩) (by exact far_ (Kd.own_blk (Kd.R_away HO_6.out (fun _ hk => hk.1)))) _).trans (((cell_far (p := ⟨gb362, _, none⟩) (by exact far_ (Kd.own_blk (Kd.R_away HO_6.out (fun _ hk => hk.1)))) _).trans (((cell_far (p := ⟨gb362, _, none⟩) (by exact far_ (Kd.own_blk (Kd.R_away HO_6.out (fun _ hk => hk.1)))) _).trans (((cell_far (p := ⟨gb362, _, none⟩) (by exact far_ (Kd.own_blk (Kd.R_away HO_6.out (fun _ hk => hk.1)))) _).trans (((cell_far (p := ⟨gb362, _, none⟩) (by exact far_ (Kd.own_blk (Kd.R_away HO_6.out (fun _ hk => hk.1)))) _).trans (hHeld.2.2.2.1)))))))))), ((cell_far (p := ⟨gb362, _, none⟩) (by exact far_ (Kd.own_blk (Kd.R_away HO_6.out (fun _ hk => hk.1)))) _).trans (((cell_far (p := ⟨gb362, _, none⟩) (by exact far_ (Kd.own_blk (Kd.R_away HO_6.out (fun _ hk => hk.1)))) _).trans (((cell_far (p := ⟨gb362, _, none⟩) (by exact far_ (Kd.own_blk (Kd.R_away HO_6.out (fun _ hk => hk.1)))) _).trans (((cell_far (p := ⟨gb362, _, none⟩) (by exact far_ (Kd.own_blk (Kd.R_away HO_6.out (fun _ hk => hk.1)))) _).trans (((cell_far (p := ⟨gb362, _, none⟩) (by exact far_ (Kd.own_blk (Kd.R_away HO_6.out (fun _ hk => hk.1)))) _).trans (hHeld.2.2.2.2.1)))))))))), ((cell_far (p := ⟨gb362, _, none⟩) (by exact far_ (Kd.own_blk (Kd.R_away HO_6.out (fun _ hk => hk.1)))) _).trans (((cell_far (p := ⟨gb362, _, none⟩) (by exact far_ (Kd.own_blk (Kd.R_away HO_6.out (fun _ hk => hk.1)))) _).trans (((cell_far (p := ⟨gb362, _, none⟩) (by exact far_ (Kd.own_blk (Kd.R_away HO_6.out (fun _ hk => hk.1)))) _).trans (((cell_far (p := ⟨gb362, _, none⟩) (by exact far_ (Kd.own_blk (Kd.R_away HO_6.out (fun _ hk => hk.1)))) _).trans (((cell_far (p := ⟨gb362, _, none⟩) (by exact far_ (Kd.own_blk (Kd.R_away HO_6.out (fun _ hk => hk.1)))) _).trans (hHeld.2.2.2.2.2.1)))))))))), ((cell_far (p := ⟨gb362, _, none⟩) (by exact far_ (Kd.own_blk (Kd.R_away HO_6.out (fun _ hk => hk.1)))) _).trans (((cell_far (p := ⟨gb362, _, none⟩) (by exact far_ (Kd.own_blk (Kd.R_away HO_6.out (fun _ hk => hk.1)))) _).trans (((cell_far (p := ⟨gb362, _, none⟩) (by exact far_ (Kd.own_blk (Kd.R_away HO_6.out (fun _ hk => hk.1)))) _).trans (((cell_far (p := ⟨gb362, _, none⟩) (by exact far_ (Kd.own_blk (Kd.R_away HO_6.out (fun _ hk => hk.1)))) _).trans (((cell_far (p := ⟨gb362, _, none⟩) (by exact far_ (Kd.own_blk (Kd.R_away HO_6.out (fun _ hk => hk.1)))) _).trans (hHeld.2.2.2.2.2.2.1)))))))))), ((cell_far (p := ⟨gb362, _, none⟩) (by exact far_ (Kd.own_blk (Kd.R_away HO_6.out (fun _ hk => hk.1)))) _).trans (((cell_far (p := ⟨gb362, _, none⟩) (by exact far_ (Kd.own_blk (Kd.R_away HO_6.out (fun _ hk => hk.1)))) _).trans (((cell_far (p := ⟨gb362, _, none⟩) (by exact far_ (Kd.own_blk (Kd.R_away HO_6.out (fun _ hk => hk.1)))) _).trans (((cell_far (p := ⟨gb362, _, none⟩) (by exact far_ (Kd.own_blk (Kd.R_away HO_6.out (fun _ hk => hk.1)))) _).trans (((cell_far (p := ⟨gb362, _, none⟩) (by exact far_ (Kd.own_blk (Kd.R_away HO_6.out (fun _ hk => hk.1)))) _).trans (hHeld.2.2.2.2.2.2.2.1)))))))))), ((cell_far (p := ⟨gb362, _, none⟩) (by exact far_ (Kd.own_blk (Kd.R_away HO_6.out (fun _ hk => hk.1)))) _).trans (((cell_far (p := ⟨gb362, _, none⟩) (by exact far_ (Kd.own_blk (Kd.R_away HO_6.out (fun _ hk => hk.1)))) _).trans (((cell_far (p := ⟨gb362, _, none⟩) (by exact far_ (Kd.own_blk (Kd.R_away HO_6.out (fun _ hk => hk.1)))) _).trans (((cell_far (p := ⟨gb362, _, none⟩) (by exact far_ (Kd.own_blk (Kd.R_away HO_6.out (fun _ hk => hk.1)))) _).trans (((cell_far (p := ⟨gb362, _, none⟩) (by exact far_ (Kd.own_blk (Kd.R_away HO_6.out (fun _ hk => hk.1)))) _).trans (hHeld.2.2.2.2.2.2.2.2.1)))))))))), ((cell_far (p := ⟨gb362, _, none⟩) (by exact far_ (Kd.own_blk (Kd.R_away HO_6.out (fun _ hk => hk.1)))) _).trans (((cell_far (p := ⟨gb362, _, none⟩) (by exact far_ (Kd.own_blk (Kd.R_away HO_6.out (fun _ hk => hk.1)))) _).trans (((cell_far (p := ⟨gb362, _, none⟩) (by exact far_ (Kd.own_blk (Kd.R_away HO_6.out (fun _ hk => hk.1)))) _).trans (((cell_far (p := ⟨gb362, _, none⟩) (by exact far_ (Kd.own_blk (Kd.R_away HO_6.out (fun _ hk => hk.1)))) _).trans (((cell_far (p := ⟨gb362, _, none⟩) (by exact far_ (Kd.own_blk (Kd.R_away HO_6.out (fun _ hk => hk.1)))) _).trans (hHeld.2.2.2.2.2.2.2.2.2))))))))))⟩ (fun hHeld => ?_)
                    clear hK K
                    refine one_ (i := 12) (N := none) #[true, true, true, true, true, true, true, true, true, true, true, true, true] rfl rfl (one_of HT_.out (by kernel_rfl)) (by decide) (fun K hK => ?_)
                    have hs78 : w72.cell? ⟨gb363, 0, none⟩ = some (.int .i64 0) := (blk_cell BK363.out 0).trans rfl
                    have hfs78 := blk_frozen BK363.out 0
                    have hns78_0 := NB362_363.out
                    have hms78_0 := NB363_362.out
                    have hs79 : w72.cell? ⟨gb363, 1, none⟩ = some (.int .i64 0) := (blk_cell BK363.out 1).trans rfl
                    have hfs79 := blk_frozen BK363.out 1
                    have hns79_0 := NB362_363.out
                    have hms79_0 := NB363_362.out
                    have hs80 : w72.cell? ⟨gb363, 2, none⟩ = some (.int .i64 0) := (blk_cell BK363.out 2).trans rfl
                    have hfs80 := blk_frozen BK363.out 2
                    have hns80_0 := NB362_363.out
                    have hms80_0 := NB363_362.out
                    have hs81 : w72.cell? ⟨gb363, 3, none⟩ = some (.int .i64 0) := (blk_cell BK363.out 3).trans rfl
                    have hfs81 := blk_frozen BK363.out 3
                    have hns81_0 := NB362_363.out
                    have hms81_0 := NB363_362.out
                    have hs82 : w72.cell? ⟨gb363, 4, none⟩ = some (.int .i64 0) := (blk_cell BK363.out 4).trans rfl
                    have hfs82 := blk_frozen BK363.out 4
                    have hns82_0 := NB362_363.out
                    have hms82_0 := NB363_362.out
                    refine skip_ (w1 := ?_) (by rfl) rfl ?_ ?_
                    rotate_left
                    ·
                     go_simp
                     rfl
                    refine hK.out _ _ ⟨((cell_far (p := ⟨gb363, _, none⟩) (by exact far_ (Kd.own_blk (Kd.R_away HO_6.out (fun _ hk => hk.2)))) _).trans (((cell_far (p := ⟨gb363, _, none⟩) (by exact far_ (Kd.own_blk (Kd.R_away HO_6.out (fun _ hk => hk.2)))) _).trans (((cell_far (p := ⟨gb363, _, none⟩) (by exact far_ (Kd.own_blk (Kd.R_away HO_6.out (fun _ hk => hk.2)))) _).trans (((cell_far (p := ⟨gb363, _, none⟩) (by exact far_ (Kd.own_blk (Kd.R_away HO_6.out (fun _ hk => hk.2)))) _).trans (((cell_far (p := ⟨gb363, _, none⟩) (by exact far_ (Kd.own_blk (Kd.R_away HO_6.out (fun _ hk => hk.2)))) _).trans (hHeld.1)))))))))), ((cell_far (p := ⟨gb363, _, none⟩) (by exact far_ (Kd.own_blk (Kd.R_away HO_6.out (fun _ hk => hk.2)))) _).trans (((cell_far (p := ⟨gb363, _, none⟩) (by exact far_ (Kd.own_blk (Kd.R_away HO_6.out (fun _ hk => hk.2)))) _).trans (((cell_far (p := ⟨gb363, _, none⟩) (by exact far_ (Kd.own_blk (Kd.R_away HO_6.out (fun _ hk => hk.2)))) _).trans (((cell_far (p := ⟨gb363, _, none⟩) (by exact far_ (Kd.own_blk (Kd.R_away HO_6.out (fun _ hk => hk.2)))) _).trans (((cell_far (p := ⟨gb363, _, none⟩) (by exact far_ (Kd.own_blk (Kd.R_away HO_6.out (fun _ hk => hk.2)))) _).trans (hHeld.2.1)))))))))), ((cell_far (p := ⟨gb363, _, none⟩) (by exact far_ (Kd.own_blk (Kd.R_away HO_6.out (fun _ hk => hk.2)))) _).trans (((cell_far (p := ⟨gb363, _, none⟩) (by exact far_ (Kd.own_blk (Kd.R_away HO_6.out (fun _ hk => hk.2)))) _).trans (((cell_far (p := ⟨gb363, _, none⟩) (by exact far_ (Kd.own_blk (Kd.R_away HO_6.out (fun _ hk => hk.2)))) _).trans (((cell_far (p := ⟨gb363, _, none⟩) (by exact far_ (Kd.own_blk (Kd.R_away HO_6.out (fun _ hk => hk.2)))) _).trans (((cell_far (p := ⟨gb363, _, none⟩) (by exact far_ (Kd.own_blk (Kd.R_away HO_6.out (fun _ hk => hk.2)))) _).trans (hHeld.2.2.1)))))))))), ((cell_far (p := ⟨gb363, _, none⟩) (by exact far_ (Kd.own_blk (Kd.R_away HO_6.out (fun _ hk => hk.2)))) _).trans (((cell_far (p := ⟨gb363, _, none⟩) (by exact far_ (Kd.own_blk (Kd.R_away HO_6.out (fun _ hk => hk.2)))) _).trans (((cell_far (p := ⟨gb363, _, none⟩) (by exact far_ (Kd.own_blk (Kd.R_away HO_6.out (fun _ hk => hk.2)))) _).trans (((cell_far (p := ⟨gb363, _, none⟩) (by exact far_ (Kd.own_blk (Kd.R_away HO_6.out (fun _ hk => hk.2)))) _).trans (((cell_far (p := ⟨gb363, _, none⟩) (by exact far_ (Kd.own_blk (Kd.R_away HO_6.out (fun _ hk => hk.2)))) _).trans (hHeld.2.2.2.1)))))))))), ((cell_far (p := ⟨gb363, _, none⟩) (by exact far_ (Kd.own_blk (Kd.R_away HO_6.out (fun _ hk => hk.2)))) _).trans (((cell_far (p := ⟨gb363, _, none⟩) (by exact far_ (Kd.own_blk (Kd.R_away HO_6.out (fun _ hk => hk.2)))) _).trans (((cell_far (p := ⟨gb363, _, none⟩) (by exact far_ (Kd.own_blk (Kd.R_away HO_6.out (fun _ hk => hk.2)))) _).trans (((cell_far (p := ⟨gb363, _, none⟩) (by exact far_ (Kd.own_blk (Kd.R_away HO_6.out (fun _ hk => hk.2)))) _).trans (((cell_far (p := ⟨gb363, _, none⟩) (by exact far_ (Kd.own_blk (Kd.R_away HO_6.out (fun _ hk => hk.2)))) _).trans (hHeld.2.2.2.2.1)))))))))), ((cell_far (p := ⟨gb363, _, none⟩) (by exact far_ (Kd.own_blk (Kd.R_away HO_6.out (fun _ hk => hk.2)))) _).trans (((cell_far (p := ⟨gb363, _, none⟩) (by exact far_ (Kd.own_blk (Kd.R_away HO_6.out (fun _ hk => hk.2)))) _).trans (((cell_far (p := ⟨gb363, _, none⟩) (by exact far_ (Kd.own_blk (Kd.R_away HO_6.out (fun _ hk => hk.2)))) _).trans (((cell_far (p := ⟨gb363, _, none⟩) (by exact far_ (Kd.own_blk (Kd.R_away HO_6.out (fun _ hk => hk.2)))) _).trans (((cell_far (p := ⟨gb363, _, none⟩) (by exact far_ (Kd.own_blk (Kd.R_away HO_6.out (fun _ hk => hk.2)))) _).trans (hHeld.2.2.2.2.2.1)))))))))), ((cell_far (p := ⟨gb363, _, none⟩) (by exact far_ (Kd.own_blk (Kd.R_away HO_6.out (fun _ hk => hk.2)))) _).trans (((cell_far (p := ⟨gb363, _, none⟩) (by exact far_ (Kd.own_blk (Kd.R_away HO_6.out (fun _ hk => hk.2)))) _).trans (((cell_far (p := ⟨gb363, _, none⟩) (by exact far_ (Kd.own_blk (Kd.R_away HO_6.out (fun _ hk => hk.2)))) _).trans (((cell_far (p := ⟨gb363, _, none⟩) (by exact far_ (Kd.own_blk (Kd.R_away HO_6.out (fun _ hk => hk.2)))) _).trans (((cell_far (p := ⟨gb363, _, none⟩) (by exact far_ (Kd.own_blk (Kd.R_away HO_6.out (fun _ hk => hk.2)))) _).trans (hHeld.2.2.2.2.2.2.1)))))))))), ((cell_far (p := ⟨gb363, _, none⟩) (by exact far_ (Kd.own_blk (Kd.R_away HO_6.out (fun _ hk => hk.2)))) _).trans (((cell_far (p := ⟨gb363, _, none⟩) (by exact far_ (Kd.own_blk (Kd.R_away HO_6.out (fun _ hk => hk.2)))) _).trans (((cell_far (p := ⟨gb363, _, none⟩) (by exact far_ (Kd.own_blk (Kd.R_away HO_6.out (fun _ hk => hk.2)))) _).trans (((cell_far (p := ⟨gb363, _, none⟩) (by exact far_ (Kd.own_blk (Kd.R_away HO_6.out (fun _ hk => hk.2)))) _).trans (((cell_far (p := ⟨gb363, _, none⟩) (by exact far_ (Kd.own_blk (Kd.R_away HO_6.out (fun _ hk => hk.2)))) _).trans (hHeld.2.2.2.2.2.2.2.1)))))))))), ((cell_far (p := ⟨gb363, _, none⟩) (by exact far_ (Kd.own_blk (Kd.R_away HO_6.out (fun _ hk => hk.2)))) _).trans (((cell_far (p := ⟨gb363, _, none⟩) (by exact far_ (Kd.own_blk (Kd.R_away HO_6.out (fun _ hk => hk.2)))) _).trans (((cell_far (p := ⟨gb363, _, none⟩) (by exact far_ (Kd.own_blk (Kd.R_away HO_6.out (fun _ hk => hk.2)))) _).trans (((cell_far (p := ⟨gb363, _, none⟩) (by exact far_ (Kd.own_blk (Kd.R_away HO_6.out (fun _ hk => hk.2)))) _).trans (((cell_far (p := ⟨gb363, _, none⟩) (by exact far_ (Kd.own_blk (Kd.R_away HO_6.out (fun _ hk => hk.2)))) _).trans (hHeld.2.2.2.2.2.2.2.2.1)))))))))), ((cell_far (p := ⟨gb363, _, none⟩) (by exact far_ (Kd.own_blk (Kd.R_away HO_6.out (fun _ hk => hk.2)))) _).trans (((cell_far (p := ⟨gb363, _, none⟩) (by exact far_ (Kd.own_blk (Kd.R_away HO_6.out (fun _ hk => hk.2)))) _).trans (((cell_far (p := ⟨gb363, _, none⟩) (by exact far_ (Kd.own_blk (Kd.R_away HO_6.out (fun _ hk => hk.2)))) _).trans (((cell_far (p := ⟨gb363, _, none⟩) (by exact far_ (Kd.own_blk (Kd.R_away HO_6.out (fun _ hk => hk.2)))) _).trans (((cell_far (p := ⟨gb363, _, none⟩) (by exact far_ (Kd.own_blk (Kd.R_away HO_6.out (fun _ hk => hk.2)))) _).trans (hHeld.2.2.2.2.2.2.2.2.2))))))))))⟩ (fun hHeld => ?_)
                    clear hK K
                    refine done_ (done_of HT_.out (by kernel_rfl)) ?_
                    have hnb83 := NB362_363.out
                    have hnc83 := NB363_362.out
                    have hcz84_0 : w72.cell? ⟨gb362, 0, none⟩ = some (.int .i64 0) := (blk_cell BK362.out 0).trans rfl
                    have hcz84_1 : w72.cell? ⟨gb362, 1, none⟩ = some (.int .i64 0) := (blk_cell BK362.out 1).trans rfl
                    have hcz84_2 : w72.cell? ⟨gb362, 2, none⟩ = some (.int .i64 0) := (blk_cell BK362.out 2).trans rfl
                    have hcz84_3 : w72.cell? ⟨gb362, 3, none⟩ = some (.int .i64 0) := (blk_cell BK362.out 3).trans rfl
                    have hcz84_4 : w72.cell? ⟨gb362, 4, none⟩ = some (.int .i64 0) := (blk_cell BK362.out 4).trans rfl
                    have hfz84_0 := blk_frozen BK362.out 0
                    have hfz84_1 := blk_frozen BK362.out 1
                    have hfz84_2 := blk_frozen BK362.out 2
                    have hfz84_3 := blk_frozen BK362.out 3
                    have hfz84_4 := blk_frozen BK362.out 4
                    have hcz85_0 : w72.cell? ⟨gb363, 0, none⟩ = some (.int .i64 0) := (blk_cell BK363.out 0).trans rfl
                    have hcz85_1 : w72.cell? ⟨gb363, 1, none⟩ = some (.int .i64 0) := (blk_cell BK363.out 1).trans rfl
                    have hcz85_2 : w72.cell? ⟨gb363, 2, none⟩ = some (.int .i64 0) := (blk_cell BK363.out 2).trans rfl
                    have hcz85_3 : w72.cell? ⟨gb363, 3, none⟩ = some (.int .i64 0) := (blk_cell BK363.out 3).trans rfl
                    have hcz85_4 : w72.cell? ⟨gb363, 4, none⟩ = some (.int .i64 0) := (blk_cell BK363.out 4).trans rfl
                    have hfz85_0 := blk_frozen BK363.out 0
                    have hfz85_1 := blk_frozen BK363.out 1
                    have hfz85_2 := blk_frozen BK363.out 2
                    have hfz85_3 := blk_frozen BK363.out 3
                    have hfz85_4 := blk_frozen BK363.out 4
                    try go_wp2
                    go_roundg k4
                    case measure => have := HJ3.out; have := HJ11.out; have := HK3.out; have := HK4.out; omega
                    case rel => exact ⟨(wrap64 (x14_4 + 1)), (by first | rfl | (simp; done) | (simp [*]; done)), H', ⟨by have := HJ3.out; have := HJ11.out; have := HK3.out; have := HK4.out; omega⟩, ⟨by (with_reducible repeat (first | apply Kd.R_alloc | apply Kd.R_drewN | apply Kd.R_drew)); exact Kd.R_mono (Kd.R_far (p := ⟨gb363, 4, none⟩) (Kd.R_far (p := ⟨gb363, 3, none⟩) (Kd.R_far (p := ⟨gb363, 2, none⟩) (Kd.R_far (p := ⟨gb363, 1, none⟩) (Kd.R_far (p := ⟨gb363, 0, none⟩) (Kd.R_far (p := ⟨gb362, 4, none⟩) (Kd.R_far (p := ⟨gb362, 3, none⟩) (Kd.R_far (p := ⟨gb362, 2, none⟩) (Kd.R_far (p := ⟨gb362, 1, none⟩) (Kd.R_far (p := ⟨gb362, 0, none⟩) (Kd.R_mono (Kd.R_mono HO_6.out (fun k_ hk => (⟨hk, hk.1⟩ : _ ∧ k_ ≠ gb362))) (fun k_ hk => (⟨hk, hk.1.2⟩ : _ ∧ k_ ≠ gb363))) (fun _ hk => hk.1.2) (.int .i64 ((rd_T38 t341 (ji43)).f0))) (fun _ hk => hk.1.2) (.int .i64 ((rd_T38 t341 (ji43)).f1.f0))) (fun _ hk => hk.1.2) (.int .i64 ((rd_T38 t341 (ji43)).f1.f1))) (fun _ hk => hk.1.2) (.int .i64 ((rd_T38 t341 (ji43)).f2.f0))) (fun _ hk => hk.1.2) (.int .i64 ((rd_T38 t341 (ji43)).f2.f1))) (fun _ hk => hk.2) (.int .i64 ((rd_T38 t341 x14_4).f0))) (fun _ hk => hk.2) (.int .i64 ((rd_T38 t341 x14_4).f1.f0))) (fun _ hk => hk.2) (.int .i64 ((rd_T38 t341 x14_4).f1.f1))) (fun _ hk => hk.2) (.int .i64 ((rd_T38 t341 x14_4).f2.f0))) (fun _ hk => hk.2) (.int .i64 ((rd_T38 t341 x14_4).f2.f1))) (fun _ hk => trivial)⟩, ⟨by repeat (first | (with_reducible first | exact HB.out | apply below_alloc | apply pw_below_drewN | apply below_drew1 | refine below_set ?_ GE362.out | refine below_set ?_ GE363.out) | exact HB.out)⟩⟩
                 ·
                  rw [if_neg c48] at H
                  have c48b0 : (((rd_T38 t341 (ji43)).f1.f1) == ((rd_T38 t341 x14_4).f1.f1)) = false := beq_eq_false_iff_ne.mpr c48
                  have c48b1 : (((rd_T38 t341 (ji43)).f1.f1) != ((rd_T38 t341 x14_4).f1.f1)) = true := bne_iff_ne.mpr c48
                  have H' := Aside0.mk H
                  clear H
                  try go_wp2
                  have n0_ := Aside0.mk (Kd.R_drew HO_6.out)
                  have n1_ := Aside0.mk (below_drew1 HB.out)
                  clear HO_6 HB
                  have HO_6 := n0_
                  have HB := n1_
                  clear n0_ n1_
                  have p360 : 0 ≤ ((ji43) : Int) := of_decide_eq_true (by first | (with_reducible assumption) | assumption)
                  have q360 : (ji43) < (t341.length : Int) := of_decide_eq_true (by first | (with_reducible assumption) | assumption)
                  obtain ⟨ad360, e360, hx360_0, hx360_1, hx360_2, hx360_3, hx360_4⟩ := at_T38 (Kd.R_reads' HO_6.out).2.2 (ji43) p360 q360
                  cases e360
                  replace p360 := eq_true p360
                  replace q360 := eq_true q360
                  have p361 : 0 ≤ (x14_4 : Int) := of_decide_eq_true (by first | (with_reducible assumption) | assumption)
                  have q361 : x14_4 < (t341.length : Int) := of_decide_eq_true (by first | (with_reducible assumption) | assumption)
                  obtain ⟨ad361, e361, hx361_0, hx361_1, hx361_2, hx361_3, hx361_4⟩ := at_T38 (Kd.R_reads' HO_6.out).2.2 x14_4 p361 q361
                  obtain rfl : ad360 = ad361 := (by injection e361)
                  replace p361 := eq_true p361
                  replace q361 := eq_true q361
                  refine start_ (n := 13) (S := fun w' => w'.cell? (ad360.add (((ji43)).toNat * 5)) = some (.int .i64 ((rd_T38 t341 (ji43)).f0)) ∧ w'.cell? ⟨(ad360.add (((ji43)).toNat * 5)).block, (ad360.add (((ji43)).toNat * 5)).off + 1, none⟩ = some (.int .i64 ((rd_T38 t341 (ji43)).f1.f0)) ∧ w'.cell? ⟨(ad360.add (((ji43)).toNat * 5)).block, (ad360.add (((ji43)).toNat * 5)).off + 2, none⟩ = some (.int .i64 ((rd_T38 t341 (ji43)).f1.f1)) ∧ w'.cell? ⟨(ad360.add (((ji43)).toNat * 5)).block, (ad360.add (((ji43)).toNat * 5)).off + 3, none⟩ = some (.int .i64 ((rd_T38 t341 (ji43)).f2.f0)) ∧ w'.cell? ⟨(ad360.add (((ji43)).toNat * 5)).block, (ad360.add (((ji43)).toNat * 5)).off + 4, none⟩ = some (.int .i64 ((rd_T38 t341 (ji43)).f2.f1)) ∧ w'.cell? (ad360.add ((x14_4).toNat * 5)) = some (.int .i64 ((rd_T38 t341 x14_4).f0)) ∧ w'.cell? ⟨(ad360.add ((x14_4).toNat * 5)).block, (ad360.add ((x14_4).toNat * 5)).off + 1, none⟩ = some (.int .i64 ((rd_T38 t341 x14_4).f1.f0)) ∧ w'.cell? ⟨(ad360.add ((x14_4).toNat * 5)).block, (ad360.add ((x14_4).toNat * 5)).off + 2, none⟩ = some (.int .i64 ((rd_T38 t341 x14_4).f1.f1)) ∧ w'.cell? ⟨(ad360.add ((x14_4).toNat * 5)).block, (ad360.add ((x14_4).toNat * 5)).off + 3, none⟩ = some (.int .i64 ((rd_T38 t341 x14_4).f2.f0)) ∧ w'.cell? ⟨(ad360.add ((x14_4).toNat * 5)).block, (ad360.add ((x14_4).toNat * 5)).off + 4, none⟩ = some (.int .i64 ((rd_T38 t341 x14_4).f2.f1))) (ds := []) #[false, false, false, false, false, false, false, false, false, false, false, false, false] (by kernel_rfl) rfl rfl ⟨hx360_0, hx360_1, hx360_2, hx360_3, hx360_4, hx361_0, hx361_1, hx361_2, hx361_3, hx361_4⟩ (fun hHeld => ?_); refine with_tabW tailwaterlaw34_SinkSorted.tab19 tailwaterlaw34_SinkSorted.bits19 (fun HT_ HW_ => ?_)
                  generalize wr.drew = w86 at HO_6 HB hx360_0 hx360_1 hx360_2 hx360_3 hx360_4 hx361_0 hx361_1 hx361_2 hx361_3 hx361_4 hHeld ⊢
                  refine pure_ (i := 0) (N := some 116) (v := ?_) (a' := ?_) #[true, false, false, false, false, false, false, false, false, false, false, false, false] rfl rfl (any_of HT_.out (by kernel_rfl)) (fun _ _ _ h => h) (Or.inl ⟨by rfl, ?_⟩) ?_ ?_
                  rotate_left
                  ·
                   intro w'
                   go_simp
                   with_reducible rfl
                  rotate_left
                  ·
                   simp only [Act.put, List.setIfInBounds_toArray, List.set_cons_zero, List.set_cons_succ, i64_w, i32_w]
                   rfl
                  refine pure_ (i := 1) (N := some 117) (v := ?_) (a' := ?_) #[true, true, false, false, false, false, false, false, false, false, false, false, false] rfl rfl (any_of HT_.out (by kernel_rfl)) (fun _ _ _ h => h) (Or.inl ⟨by rfl, ?_⟩) ?_ ?_
                  rotate_left
                  ·
                   intro w'
                   go_simp
                   with_reducible rfl
                  rotate_left
                  ·
                   simp only [Act.put, List.setIfInBounds_toArray, List.set_cons_zero, List.set_cons_succ, i64_w, i32_w]
                   rfl
                  refine pure_ (i := 2) (N := some 118) (v := ?_) (a' := ?_) #[true, true, true, false, false, false, false, false, false, false, false, false, false] rfl rfl (any_of HT_.out (by kernel_rfl)) (fun _ _ _ h => h) (Or.inl ⟨by rfl, ?_⟩) ?_ ?_
                  rotate_left
                  ·
                   intro w'
                   go_simp
                   with_reducible rfl
                  rotate_left
                  ·
                   simp only [Act.put, List.setIfInBounds_toArray, List.set_cons_zero, List.set_cons_succ, i64_w, i32_w]
                   rfl
                  refine pure_ (i := 3) (N := some 119) (v := ?_) (a' := ?_) #[true, true, true, true, false, false, false, false, false, false, false, false, false] rfl rfl (any_of HT_.out (by kernel_rfl)) (fun _ _ _ h => h) (Or.inl ⟨by rfl, ?_⟩) ?_ ?_
                  rotate_left
                  ·
                   intro w'
                   go_simp
                   with_reducible rfl
                  rotate_left
                  ·
                   simp only [Act.put, List.setIfInBounds_toArray, List.set_cons_zero, List.set_cons_succ, i64_w, i32_w]
                   rfl
                  refine pure_ (i := 5) (N := some 121) (v := ?_) (a' := ?_) #[true, true, true, true, false, true, false, false, false, false, false, false, false] rfl rfl (any_of HT_.out (by kernel_rfl)) (fun _ _ _ h => h) (Or.inl ⟨by rfl, ?_⟩) ?_ ?_
                  rotate_left
                  ·
                   intro w'
                   go_simp
                   with_reducible rfl
                  rotate_left
                  ·
                   simp only [Act.put, List.setIfInBounds_toArray, List.set_cons_zero, List.set_cons_succ, i64_w, i32_w]
                   rfl
                  refine pure_ (i := 6) (N := some 122) (v := ?_) (a' := ?_) #[true, true, true, true, false, true, true, false, false, false, false, false, false] rfl rfl (any_of HT_.out (by kernel_rfl)) (fun _ _ _ h => h) (Or.inl ⟨by rfl, ?_⟩) ?_ ?_
                  rotate_left
                  ·
                   intro w'
                   go_simp
                   with_reducible rfl
                  rotate_left
                  ·
                   simp only [Act.put, List.setIfInBounds_toArray, List.set_cons_zero, List.set_cons_succ, i64_w, i32_w]
                   rfl
                  refine pure_ (i := 7) (N := some 123) (v := ?_) (a' := ?_) #[true, true, true, true, false, true, true, true, false, false, false, false, false] rfl rfl (any_of HT_.out (by kernel_rfl)) (fun _ _ _ h => h) (Or.inl ⟨by rfl, ?_⟩) ?_ ?_
                  rotate_left
                  ·
                   intro w'
                   go_simp
                   with_reducible rfl
                  rotate_left
                  ·
                   simp only [Act.put, List.setIfInBounds_toArray, List.set_cons_zero, List.set_cons_succ, i64_w, i32_w]
                   rfl
                  refine take_ (i := 4) (N := some 120) (v := ?_) (a' := ?_) #[true, true, true, true, true, true, true, true, false, false, false, false, false] rfl rfl (take_ofW HT_.out HW_.out (by kernel_rfl)) (fun _ _ _ h => h) (Or.inl ⟨by rfl, ?_⟩) hHeld ?_ ?_
                  rotate_left
                  ·
                   rintro w' ⟨s0, s1, s2, s3, s4, s5, s6, s7, s8, s9⟩
                   go_simp
                   with_reducible rfl
                  rotate_left
                  ·
                   simp only [Act.put, List.setIfInBounds_toArray, List.set_cons_zero, List.set_cons_succ, i64_w, i32_w]
                   rfl
                  refine take_ (i := 8) (N := some 124) (v := ?_) (a' := ?_) #[true, true, true, true, true, true, true, true, true, false, false, false, false] rfl rfl (take_ofW HT_.out HW_.out (by kernel_rfl)) (fun _ _ _ h => h) (Or.inl ⟨by rfl, ?_⟩) hHeld ?_ ?_
                  rotate_left
                  ·
                   rintro w' ⟨s0, s1, s2, s3, s4, s5, s6, s7, s8, s9⟩
                   go_simp
                   with_reducible rfl
                  rotate_left
                  ·
                   simp only [Act.put, List.setIfInBounds_toArray, List.set_cons_zero, List.set_cons_succ, i64_w, i32_w]
                   rfl
                  refine join_ (σ := Nat × Nat) 2 #[true, true, true, true, true, true, true, true, true, true, true, false, false] (fun s_ => [(15, .pointer (some ⟨s_.1, 0, none⟩)), (16, .pointer (some ⟨s_.2, 0, none⟩))]) (fun s_ w' => (w'.cell? (ad360.add (((ji43)).toNat * 5)) = some (.int .i64 ((rd_T38 t341 (ji43)).f0)) ∧ w'.cell? ⟨(ad360.add (((ji43)).toNat * 5)).block, (ad360.add (((ji43)).toNat * 5)).off + 1, none⟩ = some (.int .i64 ((rd_T38 t341 (ji43)).f1.f0)) ∧ w'.cell? ⟨(ad360.add (((ji43)).toNat * 5)).block, (ad360.add (((ji43)).toNat * 5)).off + 2, none⟩ = some (.int .i64 ((rd_T38 t341 (ji43)).f1.f1)) ∧ w'.cell? ⟨(ad360.add (((ji43)).toNat * 5)).block, (ad360.add (((ji43)).toNat * 5)).off + 3, none⟩ = some (.int .i64 ((rd_T38 t341 (ji43)).f2.f0)) ∧ w'.cell? ⟨(ad360.add (((ji43)).toNat * 5)).block, (ad360.add (((ji43)).toNat * 5)).off + 4, none⟩ = some (.int .i64 ((rd_T38 t341 (ji43)).f2.f1)) ∧ w'.cell? (ad360.add ((x14_4).toNat * 5)) = some (.int .i64 ((rd_T38 t341 x14_4).f0)) ∧ w'.cell? ⟨(ad360.add ((x14_4).toNat * 5)).block, (ad360.add ((x14_4).toNat * 5)).off + 1, none⟩ = some (.int .i64 ((rd_T38 t341 x14_4).f1.f0)) ∧ w'.cell? ⟨(ad360.add ((x14_4).toNat * 5)).block, (ad360.add ((x14_4).toNat * 5)).off + 2, none⟩ = some (.int .i64 ((rd_T38 t341 x14_4).f1.f1)) ∧ w'.cell? ⟨(ad360.add ((x14_4).toNat * 5)).block, (ad360.add ((x14_4).toNat * 5)).off + 3, none⟩ = some (.int .i64 ((rd_T38 t341 x14_4).f2.f0)) ∧ w'.cell? ⟨(ad360.add ((x14_4).toNat * 5)).block, (ad360.add ((x14_4).toNat * 5)).off + 4, none⟩ = some (.int .i64 ((rd_T38 t341 x14_4).f2.f1))) ∧ (Kd.R k38 38 w' w.heap.size (fun k_ => k_ ≠ s_.1 ∧ k_ ≠ s_.2) (.slice (some ad360) t341.length co14) t341) ∧ (w'.heap[s_.1]? = some (.cells #[.int .i64 0, .int .i64 0, .int .i64 0, .int .i64 0, .int .i64 0] 38 (0, 0))) ∧ (w'.heap[s_.2]? = some (.cells #[.int .i64 0, .int .i64 0, .int .i64 0, .int .i64 0, .int .i64 0] 38 (0, 0))) ∧ (w.heap.size ≤ s_.1) ∧ (w.heap.size ≤ s_.1) ∧ (s_.2 ≠ s_.1) ∧ (s_.1 ≠ s_.2) ∧ (w.heap.size ≤ s_.2) ∧ (w.heap.size ≤ s_.2) ∧ (Below w.heap.size w w')) ?_ ?_
                  rotate_left
                  ·
                   intro hCont
                   refine two_ (i := 9) (j := 10) (Ni := some 15) (Nj := some 16) #[true, true, true, true, true, true, true, true, true, true, false, false, false] #[true, true, true, true, true, true, true, true, true, false, true, false, false] rfl rfl rfl rfl (two_of HT_.out (by kernel_rfl)) (by decide) (by decide) (fun K hK => ?_) (fun K hK => ?_)
                   ·
                    skip
                    refine box_step ?hg (N := 15) ?hd (cs := #[.int .i64 0, .int .i64 0, .int .i64 0, .int .i64 0, .int .i64 0]) (t := 38) ?hr ?_; (case hd => rfl); (case hg => rfl); (case hr => first | (go_simp; done) | (go_simp; rfl))
                    intro gb362 hg w87 hbox hb
                    have HS0_ := (hb.cell (World.block_lt_of_cell? _ _ (hHeld.1))).trans (hHeld.1)
                    have HS1_ := (hb.cell (World.block_lt_of_cell? _ _ (hHeld.2.1))).trans (hHeld.2.1)
                    have HS2_ := (hb.cell (World.block_lt_of_cell? _ _ (hHeld.2.2.1))).trans (hHeld.2.2.1)
                    have HS3_ := (hb.cell (World.block_lt_of_cell? _ _ (hHeld.2.2.2.1))).trans (hHeld.2.2.2.1)
                    have HS4_ := (hb.cell (World.block_lt_of_cell? _ _ (hHeld.2.2.2.2.1))).trans (hHeld.2.2.2.2.1)
                    have HS5_ := (hb.cell (World.block_lt_of_cell? _ _ (hHeld.2.2.2.2.2.1))).trans (hHeld.2.2.2.2.2.1)
                    have HS6_ := (hb.cell (World.block_lt_of_cell? _ _ (hHeld.2.2.2.2.2.2.1))).trans (hHeld.2.2.2.2.2.2.1)
                    have HS7_ := (hb.cell (World.block_lt_of_cell? _ _ (hHeld.2.2.2.2.2.2.2.1))).trans (hHeld.2.2.2.2.2.2.2.1)
                    have HS8_ := (hb.cell (World.block_lt_of_cell? _ _ (hHeld.2.2.2.2.2.2.2.2.1))).trans (hHeld.2.2.2.2.2.2.2.2.1)
                    have HS9_ := (hb.cell (World.block_lt_of_cell? _ _ (hHeld.2.2.2.2.2.2.2.2.2))).trans (hHeld.2.2.2.2.2.2.2.2.2)
                    have n0_ := Aside0.mk (Kd.R_below (Kd.R_elderB (by (with_reducible repeat (first | apply Kd.R_alloc | apply Kd.R_drewN | apply Kd.R_drew)); exact HO_6.out) gb362 (Nat.le_of_eq hg.symm)) hb)
                    have n1_ := Aside0.mk (below_step (by repeat (first | (with_reducible first | exact HB.out | apply below_alloc | apply pw_below_drewN | apply below_drew1) | exact HB.out)) hb)
                    have n2_ := Aside0.mk (hbox)
                    have n3_ := Aside0.mk ((by rw [hg]; exact (below_size (by repeat (first | (with_reducible first | exact HB.out | apply below_alloc | apply pw_below_drewN | apply below_drew1) | exact HB.out))) : w.heap.size ≤ gb362))
                    have n4_ := Aside0.mk ((by rw [hg]; exact (below_size (by repeat (first | (with_reducible first | exact HB.out | apply below_alloc | apply pw_below_drewN | apply below_drew1) | exact HB.out))) : w.heap.size ≤ gb362))
                    clear HO_6 HB
                    have HO_6 := n0_
                    have HB := n1_
                    have BK362 := n2_
                    have GW362 := n3_
                    have GE362 := n4_
                    clear n0_ n1_ n2_ n3_ n4_
                    clear hb hbox hg
                    refine hK.out _ _ ⟨HS0_, HS1_, HS2_, HS3_, HS4_, HS5_, HS6_, HS7_, HS8_, HS9_⟩ (fun hHeld => ?_)
                    clear hK K
                    refine norm_ (a' := ?_) ?_ ?_
                    rotate_left
                    ·
                     show Act.put _ (some 15) _ = _
                     simp only [Act.put, List.setIfInBounds_toArray, List.set_cons_zero, List.set_cons_succ, i64_w, i32_w]
                     rfl
                    refine one_ (i := 10) (N := some 16) #[true, true, true, true, true, true, true, true, true, true, true, false, false] rfl rfl (one_of HT_.out (by kernel_rfl)) (by decide) (fun K hK => ?_)
                    refine box_step ?hg (N := 16) ?hd (cs := #[.int .i64 0, .int .i64 0, .int .i64 0, .int .i64 0, .int .i64 0]) (t := 38) ?hr ?_; (case hd => rfl); (case hg => rfl); (case hr => first | (go_simp; done) | (go_simp; rfl))
                    intro gb363 hg w88 hbox hb
                    have HS0_ := (hb.cell (World.block_lt_of_cell? _ _ (hHeld.1))).trans (hHeld.1)
                    have HS1_ := (hb.cell (World.block_lt_of_cell? _ _ (hHeld.2.1))).trans (hHeld.2.1)
                    have HS2_ := (hb.cell (World.block_lt_of_cell? _ _ (hHeld.2.2.1))).trans (hHeld.2.2.1)
                    have HS3_ := (hb.cell (World.block_lt_of_cell? _ _ (hHeld.2.2.2.1))).trans (hHeld.2.2.2.1)
                    have HS4_ := (hb.cell (World.block_lt_of_cell? _ _ (hHeld.2.2.2.2.1))).trans (hHeld.2.2.2.2.1)
                    have HS5_ := (hb.cell (World.block_lt_of_cell? _ _ (hHeld.2.2.2.2.2.1))).trans (hHeld.2.2.2.2.2.1)
                    have HS6_ := (hb.cell (World.block_lt_of_cell? _ _ (hHeld.2.2.2.2.2.2.1))).trans (hHeld.2.2.2.2.2.2.1)
                    have HS7_ := (hb.cell (World.block_lt_of_cell? _ _ (hHeld.2.2.2.2.2.2.2.1))).trans (hHeld.2.2.2.2.2.2.2.1)
                    have HS8_ := (hb.cell (World.block_lt_of_cell? _ _ (hHeld.2.2.2.2.2.2.2.2.1))).trans (hHeld.2.2.2.2.2.2.2.2.1)
                    have HS9_ := (hb.cell (World.block_lt_of_cell? _ _ (hHeld.2.2.2.2.2.2.2.2.2))).trans (hHeld.2.2.2.2.2.2.2.2.2)
                    have n0_ := Aside0.mk (Kd.R_below (Kd.R_elderB (by (with_reducible repeat (first | apply Kd.R_alloc | apply Kd.R_drewN | apply Kd.R_drew)); exact HO_6.out) gb363 (Nat.le_of_eq hg.symm)) hb)
                    have n1_ := Aside0.mk (blk_below (g := gb362) (o := .cells #[.int .i64 0, .int .i64 0, .int .i64 0, .int .i64 0, .int .i64 0] 38 (0, 0)) (by (with_reducible repeat (first | refine blk_drewN ?_ _ | refine blk_drew ?_ | refine blk_alloc ?_ _)); exact BK362.out) hb)
                    have n2_ := Aside0.mk (below_step (by repeat (first | (with_reducible first | exact HB.out | apply below_alloc | apply pw_below_drewN | apply below_drew1 | refine below_set ?_ GE362.out) | exact HB.out)) hb)
                    have n3_ := Aside0.mk (hbox)
                    have n4_ := Aside0.mk ((by rw [hg]; exact (below_size (by repeat (first | (with_reducible first | exact HB.out | apply below_alloc | apply pw_below_drewN | apply below_drew1 | refine below_set ?_ GE362.out) | exact HB.out))) : w.heap.size ≤ gb363))
                    have n5_ := Aside0.mk ((by rw [hg]; exact (below_size (by repeat (first | (with_reducible first | exact HB.out | apply below_alloc | apply pw_below_drewN | apply below_drew1 | refine below_set ?_ GE362.out) | exact HB.out))) : w.heap.size ≤ gb363))
                    have n6_ := Aside0.mk ((by rw [hg]; exact Nat.ne_of_lt (blk_lt (g := gb362) (o := .cells #[.int .i64 0, .int .i64 0, .int .i64 0, .int .i64 0, .int .i64 0] 38 (0, 0)) (by (with_reducible repeat (first | refine blk_drewN ?_ _ | refine blk_drew ?_ | refine blk_alloc ?_ _)); exact BK362.out)) : gb362 ≠ gb363))
                    have n7_ := Aside0.mk ((by rw [hg]; exact Nat.ne_of_gt (blk_lt (g := gb362) (o := .cells #[.int .i64 0, .int .i64 0, .int .i64 0, .int .i64 0, .int .i64 0] 38 (0, 0)) (by (with_reducible repeat (first | refine blk_drewN ?_ _ | refine blk_drew ?_ | refine blk_alloc ?_ _)); exact BK362.out)) : gb363 ≠ gb362))
                    clear HO_6 BK362 HB
                    have HO_6 := n0_
                    have BK362 := n1_
                    have HB := n2_
                    have BK363 := n3_
                    have GW363 := n4_
                    have GE363 := n5_
                    have NB362_363 := n6_
                    have NB363_362 := n7_
                    clear n0_ n1_ n2_ n3_ n4_ n5_ n6_ n7_
                    clear hb hbox hg
                    refine hK.out _ _ ⟨HS0_, HS1_, HS2_, HS3_, HS4_, HS5_, HS6_, HS7_, HS8_, HS9_⟩ (fun hHeld => ?_)
                    clear hK K
                    refine norm_ (a' := ?_) ?_ ?_
                    rotate_left
                    ·
                     show Act.put _ (some 16) _ = _
                     simp only [Act.put, List.setIfInBounds_toArray, List.set_cons_zero, List.set_cons_succ, i64_w, i32_w]
                     rfl
                    exact norm_ (by simp only [putAll, Act.put, List.setIfInBounds_toArray, List.set_cons_zero, List.set_cons_succ]) (hCont (gb362, gb363) _ ⟨hHeld, (by (with_reducible repeat (first | apply Kd.R_alloc | apply Kd.R_drewN | apply Kd.R_drew)); exact Kd.R_mono HO_6.out (fun _ hk => ⟨hk.1.2, hk.2⟩)), (by (with_reducible repeat (first | refine blk_drewN ?_ _ | refine blk_drew ?_ | refine blk_alloc ?_ _)); exact BK362.out), (by (with_reducible repeat (first | refine blk_drewN ?_ _ | refine blk_drew ?_ | refine blk_alloc ?_ _)); exact BK363.out), GW362.out, GE362.out, NB363_362.out, NB362_363.out, GW363.out, GE363.out, (by repeat (first | (with_reducible first | exact HB.out | apply below_alloc | apply pw_below_drewN | apply below_drew1 | refine below_set ?_ GE362.out | refine below_set ?_ GE363.out) | exact HB.out))⟩)
                   ·
                    skip
                    refine box_step ?hg (N := 16) ?hd (cs := #[.int .i64 0, .int .i64 0, .int .i64 0, .int .i64 0, .int .i64 0]) (t := 38) ?hr ?_; (case hd => rfl); (case hg => rfl); (case hr => first | (go_simp; done) | (go_simp; rfl))
                    intro gb363 hg w87 hbox hb
                    have HS0_ := (hb.cell (World.block_lt_of_cell? _ _ (hHeld.1))).trans (hHeld.1)
                    have HS1_ := (hb.cell (World.block_lt_of_cell? _ _ (hHeld.2.1))).trans (hHeld.2.1)
                    have HS2_ := (hb.cell (World.block_lt_of_cell? _ _ (hHeld.2.2.1))).trans (hHeld.2.2.1)
                    have HS3_ := (hb.cell (World.block_lt_of_cell? _ _ (hHeld.2.2.2.1))).trans (hHeld.2.2.2.1)
                    have HS4_ := (hb.cell (World.block_lt_of_cell? _ _ (hHeld.2.2.2.2.1))).trans (hHeld.2.2.2.2.1)
                    have HS5_ := (hb.cell (World.block_lt_of_cell? _ _ (hHeld.2.2.2.2.2.1))).trans (hHeld.2.2.2.2.2.1)
                    have HS6_ := (hb.cell (World.block_lt_of_cell? _ _ (hHeld.2.2.2.2.2.2.1))).trans (hHeld.2.2.2.2.2.2.1)
                    have HS7_ := (hb.cell (World.block_lt_of_cell? _ _ (hHeld.2.2.2.2.2.2.2.1))).trans (hHeld.2.2.2.2.2.2.2.1)
                    have HS8_ := (hb.cell (World.block_lt_of_cell? _ _ (hHeld.2.2.2.2.2.2.2.2.1))).trans (hHeld.2.2.2.2.2.2.2.2.1)
                    have HS9_ := (hb.cell (World.block_lt_of_cell? _ _ (hHeld.2.2.2.2.2.2.2.2.2))).trans (hHeld.2.2.2.2.2.2.2.2.2)
                    have n0_ := Aside0.mk (Kd.R_below (Kd.R_elderB (by (with_reducible repeat (first | apply Kd.R_alloc | apply Kd.R_drewN | apply Kd.R_drew)); exact HO_6.out) gb363 (Nat.le_of_eq hg.symm)) hb)
                    have n1_ := Aside0.mk (below_step (by repeat (first | (with_reducible first | exact HB.out | apply below_alloc | apply pw_below_drewN | apply below_drew1) | exact HB.out)) hb)
                    have n2_ := Aside0.mk (hbox)
                    have n3_ := Aside0.mk ((by rw [hg]; exact (below_size (by repeat (first | (with_reducible first | exact HB.out | apply below_alloc | apply pw_below_drewN | apply below_drew1) | exact HB.out))) : w.heap.size ≤ gb363))
                    have n4_ := Aside0.mk ((by rw [hg]; exact (below_size (by repeat (first | (with_reducible first | exact HB.out | apply below_alloc | apply pw_below_drewN | apply below_drew1) | exact HB.out))) : w.heap.size ≤ gb363))
                    clear HO_6 HB
                    have HO_6 := n0_
                    have HB := n1_
                    have BK363 := n2_
                    have GW363 := n3_
                    have GE363 := n4_
                    clear n0_ n1_ n2_ n3_ n4_
                    clear hb hbox hg
                    refine hK.out _ _ ⟨HS0_, HS1_, HS2_, HS3_, HS4_, HS5_, HS6_, HS7_, HS8_, HS9_⟩ (fun hHeld => ?_)
                    clear hK K
                    refine norm_ (a' := ?_) ?_ ?_
                    rotate_left
                    ·
                     show Act.put _ (some 16) _ = _
                     simp only [Act.put, List.setIfInBounds_toArray, List.set_cons_zero, List.set_cons_succ, i64_w, i32_w]
                     rfl
                    refine one_ (i := 9) (N := some 15) #[true, true, true, true, true, true, true, true, true, true, true, false, false] rfl rfl (one_of HT_.out (by kernel_rfl)) (by decide) (fun K hK => ?_)
                    refine box_step ?hg (N := 15) ?hd (cs := #[.int .i64 0, .int .i64 0, .int .i64 0, .int .i64 0, .int .i64 0]) (t := 38) ?hr ?_; (case hd => rfl); (case hg => rfl); (case hr => first | (go_simp; done) | (go_simp; rfl))
                    intro gb362 hg w88 hbox hb
                    have HS0_ := (hb.cell (World.block_lt_of_cell? _ _ (hHeld.1))).trans (hHeld.1)
                    have HS1_ := (hb.cell (World.block_lt_of_cell? _ _ (hHeld.2.1))).trans (hHeld.2.1)
                    have HS2_ := (hb.cell (World.block_lt_of_cell? _ _ (hHeld.2.2.1))).trans (hHeld.2.2.1)
                    have HS3_ := (hb.cell (World.block_lt_of_cell? _ _ (hHeld.2.2.2.1))).trans (hHeld.2.2.2.1)
                    have HS4_ := (hb.cell (World.block_lt_of_cell? _ _ (hHeld.2.2.2.2.1))).trans (hHeld.2.2.2.2.1)
                    have HS5_ := (hb.cell (World.block_lt_of_cell? _ _ (hHeld.2.2.2.2.2.1))).trans (hHeld.2.2.2.2.2.1)
                    have HS6_ := (hb.cell (World.block_lt_of_cell? _ _ (hHeld.2.2.2.2.2.2.1))).trans (hHeld.2.2.2.2.2.2.1)
                    have HS7_ := (hb.cell (World.block_lt_of_cell? _ _ (hHeld.2.2.2.2.2.2.2.1))).trans (hHeld.2.2.2.2.2.2.2.1)
                    have HS8_ := (hb.cell (World.block_lt_of_cell? _ _ (hHeld.2.2.2.2.2.2.2.2.1))).trans (hHeld.2.2.2.2.2.2.2.2.1)
                    have HS9_ := (hb.cell (World.block_lt_of_cell? _ _ (hHeld.2.2.2.2.2.2.2.2.2))).trans (hHeld.2.2.2.2.2.2.2.2.2)
                    have n0_ := Aside0.mk (Kd.R_below (Kd.R_elderB (by (with_reducible repeat (first | apply Kd.R_alloc | apply Kd.R_drewN | apply Kd.R_drew)); exact HO_6.out) gb362 (Nat.le_of_eq hg.symm)) hb)
                    have n1_ := Aside0.mk (blk_below (g := gb363) (o := .cells #[.int .i64 0, .int .i64 0, .int .i64 0, .int .i64 0, .int .i64 0] 38 (0, 0)) (by (with_reducible repeat (first | refine blk_drewN ?_ _ | refine blk_drew ?_ | refine blk_alloc ?_ _)); exact BK363.out) hb)
                    have n2_ := Aside0.mk (below_step (by repeat (first | (with_reducible first | exact HB.out | apply below_alloc | apply pw_below_drewN | apply below_drew1 | refine below_set ?_ GE363.out) | exact HB.out)) hb)
                    have n3_ := Aside0.mk (hbox)
                    have n4_ := Aside0.mk ((by rw [hg]; exact (below_size (by repeat (first | (with_reducible first | exact HB.out | apply below_alloc | apply pw_below_drewN | apply below_drew1 | refine below_set ?_ GE363.out) | exact HB.out))) : w.heap.size ≤ gb362))
                    have n5_ := Aside0.mk ((by rw [hg]; exact (below_size (by repeat (first | (with_reducible first | exact HB.out | apply below_alloc | apply pw_below_drewN | apply below_drew1 | refine below_set ?_ GE363.out) | exact HB.out))) : w.heap.size ≤ gb362))
                    have n6_ := Aside0.mk ((by rw [hg]; exact Nat.ne_of_lt (blk_lt (g := gb363) (o := .cells #[.int .i64 0, .int .i64 0, .int .i64 0, .int .i64 0, .int .i64 0] 38 (0, 0)) (by (with_reducible repeat (first | refine blk_drewN ?_ _ | refine blk_drew ?_ | refine blk_alloc ?_ _)); exact BK363.out)) : gb363 ≠ gb362))
                    have n7_ := Aside0.mk ((by rw [hg]; exact Nat.ne_of_gt (blk_lt (g := gb363) (o := .cells #[.int .i64 0, .int .i64 0, .int .i64 0, .int .i64 0, .int .i64 0] 38 (0, 0)) (by (with_reducible repeat (first | refine blk_drewN ?_ _ | refine blk_drew ?_ | refine blk_alloc ?_ _)); exact BK363.out)) : gb362 ≠ gb363))
                    clear HO_6 BK363 HB
                    have HO_6 := n0_
                    have BK363 := n1_
                    have HB := n2_
                    have BK362 := n3_
                    have GW362 := n4_
                    have GE362 := n5_
                    have NB363_362 := n6_
                    have NB362_363 := n7_
                    clear n0_ n1_ n2_ n3_ n4_ n5_ n6_ n7_
                    clear hb hbox hg
                    refine hK.out _ _ ⟨HS0_, HS1_, HS2_, HS3_, HS4_, HS5_, HS6_, HS7_, HS8_, HS9_⟩ (fun hHeld => ?_)
                    clear hK K
                    refine norm_ (a' := ?_) ?_ ?_
                    rotate_left
                    ·
                     show Act.put _ (some 15) _ = _
                     simp only [Act.put, List.setIfInBounds_toArray, List.set_cons_zero, List.set_cons_succ, i64_w, i32_w]
                     rfl
                    exact norm_ (by simp only [putAll, Act.put, List.setIfInBounds_toArray, List.set_cons_zero, List.set_cons_succ]) (hCont (gb362, gb363) _ ⟨hHeld, (by (with_reducible repeat (first | apply Kd.R_alloc | apply Kd.R_drewN | apply Kd.R_drew)); exact Kd.R_mono HO_6.out (fun _ hk => ⟨hk.2, hk.1.2⟩)), (by (with_reducible repeat (first | refine blk_drewN ?_ _ | refine blk_drew ?_ | refine blk_alloc ?_ _)); exact BK362.out), (by (with_reducible repeat (first | refine blk_drewN ?_ _ | refine blk_drew ?_ | refine blk_alloc ?_ _)); exact BK363.out), GW362.out, GE362.out, NB363_362.out, NB362_363.out, GW363.out, GE363.out, (by repeat (first | (with_reducible first | exact HB.out | apply below_alloc | apply pw_below_drewN | apply below_drew1 | refine below_set ?_ GE363.out | refine below_set ?_ GE362.out) | exact HB.out))⟩)
                  rintro ⟨gb362, gb363⟩ w89 ⟨hS_, h0_, h1_, h2_, h3_, h4_, h5_, h6_, h7_, h8_, h9_⟩
                  have n0_ : Aside0 (Kd.R k38 38 w89 w.heap.size (fun k_ => k_ ≠ gb362 ∧ k_ ≠ gb363) (.slice (some ad360) t341.length co14) t341) := ⟨h0_⟩
                  have n1_ : Aside0 (w89.heap[gb362]? = some (.cells #[.int .i64 0, .int .i64 0, .int .i64 0, .int .i64 0, .int .i64 0] 38 (0, 0))) := ⟨h1_⟩
                  have n2_ : Aside0 (w89.heap[gb363]? = some (.cells #[.int .i64 0, .int .i64 0, .int .i64 0, .int .i64 0, .int .i64 0] 38 (0, 0))) := ⟨h2_⟩
                  have n3_ : Aside0 (w.heap.size ≤ gb362) := ⟨h3_⟩
                  have n4_ : Aside0 (w.heap.size ≤ gb362) := ⟨h4_⟩
                  have n5_ : Aside0 (gb363 ≠ gb362) := ⟨h5_⟩
                  have n6_ : Aside0 (gb362 ≠ gb363) := ⟨h6_⟩
                  have n7_ : Aside0 (w.heap.size ≤ gb363) := ⟨h7_⟩
                  have n8_ : Aside0 (w.heap.size ≤ gb363) := ⟨h8_⟩
                  have n9_ : Aside0 (Below w.heap.size w w89) := ⟨h9_⟩
                  clear HO_6
                  clear HB
                  clear h0_ h1_ h2_ h3_ h4_ h5_ h6_ h7_ h8_ h9_
                  have HO_6 := n0_
                  have BK362 := n1_
                  have BK363 := n2_
                  have GW362 := n3_
                  have GE362 := n4_
                  have NB363_362 := n5_
                  have NB362_363 := n6_
                  have GW363 := n7_
                  have GE363 := n8_
                  have HB := n9_
                  clear n0_ n1_ n2_ n3_ n4_ n5_ n6_ n7_ n8_ n9_
                  have hHeld : w89.cell? (ad360.add (((ji43)).toNat * 5)) = some (.int .i64 ((rd_T38 t341 (ji43)).f0)) ∧ w89.cell? ⟨(ad360.add (((ji43)).toNat * 5)).block, (ad360.add (((ji43)).toNat * 5)).off + 1, none⟩ = some (.int .i64 ((rd_T38 t341 (ji43)).f1.f0)) ∧ w89.cell? ⟨(ad360.add (((ji43)).toNat * 5)).block, (ad360.add (((ji43)).toNat * 5)).off + 2, none⟩ = some (.int .i64 ((rd_T38 t341 (ji43)).f1.f1)) ∧ w89.cell? ⟨(ad360.add (((ji43)).toNat * 5)).block, (ad360.add (((ji43)).toNat * 5)).off + 3, none⟩ = some (.int .i64 ((rd_T38 t341 (ji43)).f2.f0)) ∧ w89.cell? ⟨(ad360.add (((ji43)).toNat * 5)).block, (ad360.add (((ji43)).toNat * 5)).off + 4, none⟩ = some (.int .i64 ((rd_T38 t341 (ji43)).f2.f1)) ∧ w89.cell? (ad360.add ((x14_4).toNat * 5)) = some (.int .i64 ((rd_T38 t341 x14_4).f0)) ∧ w89.cell? ⟨(ad360.add ((x14_4).toNat * 5)).block, (ad360.add ((x14_4).toNat * 5)).off + 1, none⟩ = some (.int .i64 ((rd_T38 t341 x14_4).f1.f0)) ∧ w89.cell? ⟨(ad360.add ((x14_4).toNat * 5)).block, (ad360.add ((x14_4).toNat * 5)).off + 2, none⟩ = some (.int .i64 ((rd_T38 t341 x14_4).f1.f1)) ∧ w89.cell? ⟨(ad360.add ((x14_4).toNat * 5)).block, (ad360.add ((x14_4).toNat * 5)).off + 3, none⟩ = some (.int .i64 ((rd_T38 t341 x14_4).f2.f0)) ∧ w89.cell? ⟨(ad360.add ((x14_4).toNat * 5)).block, (ad360.add ((x14_4).toNat * 5)).off + 4, none⟩ = some (.int .i64 ((rd_T38 t341 x14_4).f2.f1)) := hS_
                  refine norm_ (a' := ?_) ?_ ?_
                  rotate_left
                  ·
                   simp only [putAll, Act.put, List.setIfInBounds_toArray, List.set_cons_zero, List.set_cons_succ]
                   rfl
                  refine one_ (i := 11) (N := none) #[true, true, true, true, true, true, true, true, true, true, true, true, false] rfl rfl (one_of HT_.out (by kernel_rfl)) (by decide) (fun K hK => ?_)
                  have hs90 : w89.cell? ⟨gb362, 0, none⟩ = some (.int .i64 0) := (blk_cell BK362.out 0).trans rfl
                  have hfs90 := blk_frozen BK362.out 0
                  have hns90_1 := NB363_362.out
                  have hms90_1 := NB362_363.out
                  have hs91 : w89.cell? ⟨gb362, 1, none⟩ = some (.int .i64 0) := (blk_cell BK362.out 1).trans rfl
                  have hfs91 := blk_frozen BK362.out 1
                  have hns91_1 := NB363_362.out
                  have hms91_1 := NB362_363.out
                  have hs92 : w89.cell? ⟨gb362, 2, none⟩ = some (.int .i64 0) := (blk_cell BK362.out 2).trans rfl
                  have hfs92 := blk_frozen BK362.out 2
                  have hns92_1 := NB363_362.out
                  have hms92_1 := NB362_363.out
                  have hs93 : w89.cell? ⟨gb362, 3, none⟩ = some (.int .i64 0) := (blk_cell BK362.out 3).trans rfl
                  have hfs93 := blk_frozen BK362.out 3
                  have hns93_1 := NB363_362.out
                  have hms93_1 := NB362_363.out
                  have hs94 : w89.cell? ⟨gb362, 4, none⟩ = some (.int .i64 0) := (blk_cell BK362.out 4).trans rfl
                  have hfs94 := blk_frozen BK362.out 4
                  have hns94_1 := NB363_362.out
                  have hms94_1 := NB362_363.out
                  refine skip_ (w1 := ?_) (by rfl) rfl ?_ ?_
                  rotate_left
                  ·
                   go_simp
                   rfl
                  refine hK.out _ _ ⟨((cell_far (p := ⟨gb362, _, none⟩) (by exact far_ (Kd.own_blk (Kd.R_away HO_6.out (fun _ hk => hk.1)))) _).trans (((cell_far (p := ⟨gb362, _, none⟩) (by exact far_ (Kd.own_blk (Kd.R_away HO_6.out (fun _ hk => hk.1)))) _).trans (((cell_far (p := ⟨gb362, _, none⟩) (by exact far_ (Kd.own_blk (Kd.R_away HO_6.out (fun _ hk => hk.1)))) _).trans (((cell_far (p := ⟨gb362, _, none⟩) (by exact far_ (Kd.own_blk (Kd.R_away HO_6.out (fun _ hk => hk.1)))) _).trans (((cell_far (p := ⟨gb362, _, none⟩) (by exact far_ (Kd.own_blk (Kd.R_away HO_6.out (fun _ hk => hk.1)))) _).trans (hHeld.1)))))))))), ((cell_far (p := ⟨gb362, _, none⟩) (by exact far_ (Kd.own_blk (Kd.R_away HO_6.out (fun _ hk => hk.1)))) _).trans (((cell_far (p := ⟨gb362, _, none⟩) (by exact far_ (Kd.own_blk (Kd.R_away HO_6.out (fun _ hk => hk.1)))) _).trans (((cell_far (p := ⟨gb362, _, none⟩) (by exact far_ (Kd.own_blk (Kd.R_away HO_6.out (fun _ hk => hk.1)))) _).trans (((cell_far (p := ⟨gb362, _, none⟩) (by exact far_ (Kd.own_blk (Kd.R_away HO_6.out (fun _ hk => hk.1)))) _).trans (((cell_far (p := ⟨gb362, _, none⟩) (by exact far_ (Kd.own_blk (Kd.R_away HO_6.out (fun _ hk => hk.1)))) _).trans (hHeld.2.1)))))))))), ((cell_far (p := ⟨gb362, _, none⟩) (by exact far_ (Kd.own_blk (Kd.R_away HO_6.out (fun _ hk => hk.1)))) _).trans (((cell_far (p := ⟨gb362, _, none⟩) (by exact far_ (Kd.own_blk (Kd.R_away HO_6.out (fun _ hk => hk.1)))) _).trans (((cell_far (p := ⟨gb362, _, none⟩) (by exact far_ (Kd.own_blk (Kd.R_away HO_6.out (fun _ hk => hk.1)))) _).trans (((cell_far (p := ⟨gb362, _, none⟩) (by exact far_ (Kd.own_blk (Kd.R_away HO_6.out (fun _ hk => hk.1)))) _).trans (((cell_far (p := ⟨gb362, _, none⟩) (by exact far_ (Kd.own_blk (Kd.R_away HO_6.out (fun _ hk => hk.1)))) _).trans (hHeld.2.2.1)))))))))), ((cell_far (p := ⟨gb362, _, none⟩) (by exact far_ (Kd.own_blk (Kd.R_away HO_6.out (fun _ hk => hk.1)))) _).trans (((cell_far (p := ⟨gb362, _, none⟩) (by exact far_ (Kd.own_blk (Kd.R_away HO_6.out (fun _ hk => hk.1)))) _).trans (((cell_far (p := ⟨gb362, _, none⟩) (by exact far_ (Kd.own_blk (Kd.R_away HO_6.out (fun _ hk => hk.1)))) _).trans (((cell_far (p := ⟨gb362, _, none⟩) (by exact far_ (Kd.own_blk (Kd.R_away HO_6.out (fun _ hk => hk.1)))) _).trans (((cell_far (p := ⟨gb362, _, none⟩) (by exact far_ (Kd.own_blk (Kd.R_away HO_6.out (fun _ hk => hk.1)))) _).trans (hHeld.2.2.2.1)))))))))), ((cell_far (p := ⟨gb362, _, none⟩) (by exact far_ (Kd.own_blk (Kd.R_away HO_6.out (fun _ hk => hk.1)))) _).trans (((cell_far (p := ⟨gb362, _, none⟩) (by exact far_ (Kd.own_blk (Kd.R_away HO_6.out (fun _ hk => hk.1)))) _).trans (((cell_far (p := ⟨gb362, _, none⟩) (by exact far_ (Kd.own_blk (Kd.R_away HO_6.out (fun _ hk => hk.1)))) _).trans (((cell_far (p := ⟨gb362, _, none⟩) (by exact far_ (Kd.own_blk (Kd.R_away HO_6.out (fun _ hk => hk.1)))) _).trans (((cell_far (p := ⟨gb362, _, none⟩) (by exact far_ (Kd.own_blk (Kd.R_away HO_6.out (fun _ hk => hk.1)))) _).trans (hHeld.2.2.2.2.1)))))))))), ((cell_far (p := ⟨gb362, _, none⟩) (by exact far_ (Kd.own_blk (Kd.R_away HO_6.out (fun _ hk => hk.1)))) _).trans (((cell_far (p := ⟨gb362, _, none⟩) (by exact far_ (Kd.own_blk (Kd.R_away HO_6.out (fun _ hk => hk.1)))) _).trans (((cell_far (p := ⟨gb362, _, none⟩) (by exact far_ (Kd.own_blk (Kd.R_away HO_6.out (fun _ hk => hk.1)))) _).trans (((cell_far (p := ⟨gb362, _, none⟩) (by exact far_ (Kd.own_blk (Kd.R_away HO_6.out (fun _ hk => hk.1)))) _).trans (((cell_far (p := ⟨gb362, _, none⟩) (by exact far_ (Kd.own_blk (Kd.R_away HO_6.out (fun _ hk => hk.1)))) _).trans (hHeld.2.2.2.2.2.1)))))))))), ((cell_far (p := ⟨gb362, _, none⟩) (by exact far_ (Kd.own_blk (Kd.R_away HO_6.out (fun _ hk => hk.1)))) _).trans (((cell_far (p := ⟨gb362, _, none⟩) (by exact far_ (Kd.own_blk (Kd.R_away HO_6.out (fun _ hk => hk.1)))) _).trans (((cell_far (p := ⟨gb362, _, none⟩) (by exact far_ (Kd.own_blk (Kd.R_away HO_6.out (fun _ hk => hk.1)))) _).trans (((cell_far (p := ⟨gb362, _, none⟩) (by exact far_ (Kd.own_blk (Kd.R_away HO_6.out (fun _ hk => hk.1)))) _).trans (((cell_far (p := ⟨gb362, _, none⟩) (by exact far_ (Kd.own_blk (Kd.R_away HO_6.out (fun _ hk => hk.1)))) _).trans (hHeld.2.2.2.2.2.2.1)))))))))), ((cell_far (p := ⟨gb362, _, none⟩) (by exact far_ (Kd.own_blk (Kd.R_away HO_6.out (fun _ hk => hk.1)))) _).trans (((cell_far (p := ⟨gb362, _, none⟩) (by exact far_ (Kd.own_blk (Kd.R_away HO_6.out (fun _ hk => hk.1)))) _).trans (((cell_far (p := ⟨gb362, _, none⟩) (by exact far_ (Kd.own_blk (Kd.R_away HO_6.out (fun _ hk => hk.1)))) _).trans (((cell_far (p := ⟨gb362, _, none⟩) (by exact far_ (Kd.own_blk (Kd.R_away HO_6.out (fun _ hk => hk.1)))) _).trans (((cell_far (p := ⟨gb362, _, none⟩) (by exact far_ (Kd.own_blk (Kd.R_away HO_6.out (fun _ hk => hk.1)))) _).trans (hHeld.2.2.2.2.2.2.2.1)))))))))), ((cell_far (p := ⟨gb362, _, none⟩) (by exact far_ (Kd.own_blk (Kd.R_away HO_6.out (fun _ hk => hk.1)))) _).trans (((cell_far (p := ⟨gb362, _, none⟩) (by exact far_ (Kd.own_blk (Kd.R_away HO_6.out (fun _ hk => hk.1)))) _).trans (((cell_far (p := ⟨gb362, _, none⟩) (by exact far_ (Kd.own_blk (Kd.R_away HO_6.out (fun _ hk => hk.1)))) _).trans (((cell_far (p := ⟨gb362, _, none⟩) (by exact far_ (Kd.own_blk (Kd.R_away HO_6.out (fun _ hk => hk.1)))) _).trans (((cell_far (p := ⟨gb362, _, none⟩) (by exact far_ (Kd.own_blk (Kd.R_away HO_6.out (fun _ hk => hk.1)))) _).trans (hHeld.2.2.2.2.2.2.2.2.1)))))))))), ((cell_far (p := ⟨gb362, _, none⟩) (by exact far_ (Kd.own_blk (Kd.R_away HO_6.out (fun _ hk => hk.1)))) _).trans (((cell_far (p := ⟨gb362, _, none⟩) (by exact far_ (Kd.own_blk (Kd.R_away HO_6.out (fun _ hk => hk.1)))) _).trans (((cell_far (p := ⟨gb362, _, none⟩) (by exact far_ (Kd.own_blk (Kd.R_away HO_6.out (fun _ hk => hk.1)))) _).trans (((cell_far (p := ⟨gb362, _, none⟩) (by exact far_ (Kd.own_blk (Kd.R_away HO_6.out (fun _ hk => hk.1)))) _).trans (((cell_far (p := ⟨gb362, _, none⟩) (by exact far_ (Kd.own_blk (Kd.R_away HO_6.out (fun _ hk => hk.1)))) _).trans (hHeld.2.2.2.2.2.2.2.2.2))))))))))⟩ (fun hHeld => ?_)
                  clear hK K
                  refine one_ (i := 12) (N := none) #[true, true, true, true, true, true, true, true, true, true, true, true, true] rfl rfl (one_of HT_.out (by kernel_rfl)) (by decide) (fun K hK => ?_)
                  have hs95 : w89.cell? ⟨gb363, 0, none⟩ = some (.int .i64 0) := (blk_cell BK363.out 0).trans rfl
                  have hfs95 := blk_frozen BK363.out 0
                  have hns95_0 := NB362_363.out
                  have hms95_0 := NB363_362.out
                  have hs96 : w89.cell? ⟨gb363, 1, none⟩ = some (.int .i64 0) := (blk_cell BK363.out 1).trans rfl
                  have hfs96 := blk_frozen BK363.out 1
                  have hns96_0 := NB362_363.out
                  have hms96_0 := NB363_362.out
                  have hs97 : w89.cell? ⟨gb363, 2, none⟩ = some (.int .i64 0) := (blk_cell BK363.out 2).trans rfl
                  have hfs97 := blk_frozen BK363.out 2
                  have hns97_0 := NB362_363.out
                  have hms97_0 := NB363_362.out
                  have hs98 : w89.cell? ⟨gb363, 3, none⟩ = some (.int .i64 0) := (blk_cell BK363.out 3).trans rfl
                  have hfs98 := blk_frozen BK363.out 3
                  have hns98_0 := NB362_363.out
                  have hms98_0 := NB363_362.out
                  have hs99 : w89.cell? ⟨gb363, 4, none⟩ = some (.int .i64 0) := (blk_cell BK363.out 4).trans rfl
                  have hfs99 := blk_frozen BK363.out 4
                  have hns99_0 := NB362_363.out
                  have hms99_0 := NB363_362.out
                  refine skip_ (w1 := ?_) (by rfl) rfl ?_ ?_
                  rotate_left
                  ·
                   go_simp
                   rfl
                  refine hK.out _ _ ⟨((cell_far (p := ⟨gb363, _, none⟩) (by exact far_ (Kd.own_blk (Kd.R_away HO_6.out (fun _ hk => hk.2)))) _).trans (((cell_far (p := ⟨gb363, _, none⟩) (by exact far_ (Kd.own_blk (Kd.R_away HO_6.out (fun _ hk => hk.2)))) _).trans (((cell_far (p := ⟨gb363, _, none⟩) (by exact far_ (Kd.own_blk (Kd.R_away HO_6.out (fun _ hk => hk.2)))) _).trans (((cell_far (p := ⟨gb363, _, none⟩) (by exact far_ (Kd.own_blk (Kd.R_away HO_6.out (fun _ hk => hk.2)))) _).trans (((cell_far (p := ⟨gb363, _, none⟩) (by exact far_ (Kd.own_blk (Kd.R_away HO_6.out (fun _ hk => hk.2)))) _).trans (hHeld.1)))))))))), ((cell_far (p := ⟨gb363, _, none⟩) (by exact far_ (Kd.own_blk (Kd.R_away HO_6.out (fun _ hk => hk.2)))) _).trans (((cell_far (p := ⟨gb363, _, none⟩) (by exact far_ (Kd.own_blk (Kd.R_away HO_6.out (fun _ hk => hk.2)))) _).trans (((cell_far (p := ⟨gb363, _, none⟩) (by exact far_ (Kd.own_blk (Kd.R_away HO_6.out (fun _ hk => hk.2)))) _).trans (((cell_far (p := ⟨gb363, _, none⟩) (by exact far_ (Kd.own_blk (Kd.R_away HO_6.out (fun _ hk => hk.2)))) _).trans (((cell_far (p := ⟨gb363, _, none⟩) (by exact far_ (Kd.own_blk (Kd.R_away HO_6.out (fun _ hk => hk.2)))) _).trans (hHeld.2.1)))))))))), ((cell_far (p := ⟨gb363, _, none⟩) (by exact far_ (Kd.own_blk (Kd.R_away HO_6.out (fun _ hk => hk.2)))) _).trans (((cell_far (p := ⟨gb363, _, none⟩) (by exact far_ (Kd.own_blk (Kd.R_away HO_6.out (fun _ hk => hk.2)))) _).trans (((cell_far (p := ⟨gb363, _, none⟩) (by exact far_ (Kd.own_blk (Kd.R_away HO_6.out (fun _ hk => hk.2)))) _).trans (((cell_far (p := ⟨gb363, _, none⟩) (by exact far_ (Kd.own_blk (Kd.R_away HO_6.out (fun _ hk => hk.2)))) _).trans (((cell_far (p := ⟨gb363, _, none⟩) (by exact far_ (Kd.own_blk (Kd.R_away HO_6.out (fun _ hk => hk.2)))) _).trans (hHeld.2.2.1)))))))))), ((cell_far (p := ⟨gb363, _, none⟩) (by exact far_ (Kd.own_blk (Kd.R_away HO_6.out (fun _ hk => hk.2)))) _).trans (((cell_far (p := ⟨gb363, _, none⟩) (by exact far_ (Kd.own_blk (Kd.R_away HO_6.out (fun _ hk => hk.2)))) _).trans (((cell_far (p := ⟨gb363, _, none⟩) (by exact far_ (Kd.own_blk (Kd.R_away HO_6.out (fun _ hk => hk.2)))) _).trans (((cell_far (p := ⟨gb363, _, none⟩) (by exact far_ (Kd.own_blk (Kd.R_away HO_6.out (fun _ hk => hk.2)))) _).trans (((cell_far (p := ⟨gb363, _, none⟩) (by exact far_ (Kd.own_blk (Kd.R_away HO_6.out (fun _ hk => hk.2)))) _).trans (hHeld.2.2.2.1)))))))))), ((cell_far (p := ⟨gb363, _, none⟩) (by exact far_ (Kd.own_blk (Kd.R_away HO_6.out (fun _ hk => hk.2)))) _).trans (((cell_far (p := ⟨gb363, _, none⟩) (by exact far_ (Kd.own_blk (Kd.R_away HO_6.out (fun _ hk => hk.2)))) _).trans (((cell_far (p := ⟨gb363, _, none⟩) (by exact far_ (Kd.own_blk (Kd.R_away HO_6.out (fun _ hk => hk.2)))) _).trans (((cell_far (p := ⟨gb363, _, none⟩) (by exact far_ (Kd.own_blk (Kd.R_away HO_6.out (fun _ hk => hk.2)))) _).trans (((cell_far (p := ⟨gb363, _, none⟩) (by exact far_ (Kd.own_blk (Kd.R_away HO_6.out (fun _ hk => hk.2)))) _).trans (hHeld.2.2.2.2.1)))))))))), ((cell_far (p := ⟨gb363, _, none⟩) (by exact far_ (Kd.own_blk (Kd.R_away HO_6.out (fun _ hk => hk.2)))) _).trans (((cell_far (p := ⟨gb363, _, none⟩) (by exact far_ (Kd.own_blk (Kd.R_away HO_6.out (fun _ hk => hk.2)))) _).trans (((cell_far (p := ⟨gb363, _, none⟩) (by exact far_ (Kd.own_blk (Kd.R_away HO_6.out (fun _ hk => hk.2)))) _).trans (((cell_far (p := ⟨gb363, _, none⟩) (by exact far_ (Kd.own_blk (Kd.R_away HO_6.out (fun _ hk => hk.2)))) _).trans (((cell_far (p := ⟨gb363, _, none⟩) (by exact far_ (Kd.own_blk (Kd.R_away HO_6.out (fun _ hk => hk.2)))) _).trans (hHeld.2.2.2.2.2.1)))))))))), ((cell_far (p := ⟨gb363, _, none⟩) (by exact far_ (Kd.own_blk (Kd.R_away HO_6.out (fun _ hk => hk.2)))) _).trans (((cell_far (p := ⟨gb363, _, none⟩) (by exact far_ (Kd.own_blk (Kd.R_away HO_6.out (fun _ hk => hk.2)))) _).trans (((cell_far (p := ⟨gb363, _, none⟩) (by exact far_ (Kd.own_blk (Kd.R_away HO_6.out (fun _ hk => hk.2)))) _).trans (((cell_far (p := ⟨gb363, _, none⟩) (by exact far_ (Kd.own_blk (Kd.R_away HO_6.out (fun _ hk => hk.2)))) _).trans (((cell_far (p := ⟨gb363, _, none⟩) (by exact far_ (Kd.own_blk (Kd.R_away HO_6.out (fun _ hk => hk.2)))) _).trans (hHeld.2.2.2.2.2.2.1)))))))))), ((cell_far (p := ⟨gb363, _, none⟩) (by exact far_ (Kd.own_blk (Kd.R_away HO_6.out (fun _ hk => hk.2)))) _).trans (((cell_far (p := ⟨gb363, _, none⟩) (by exact far_ (Kd.own_blk (Kd.R_away HO_6.out (fun _ hk => hk.2)))) _).trans (((cell_far (p := ⟨gb363, _, none⟩) (by exact far_ (Kd.own_blk (Kd.R_away HO_6.out (fun _ hk => hk.2)))) _).trans (((cell_far (p := ⟨gb363, _, none⟩) (by exact far_ (Kd.own_blk (Kd.R_away HO_6.out (fun _ hk => hk.2)))) _).trans (((cell_far (p := ⟨gb363, _, none⟩) (by exact far_ (Kd.own_blk (Kd.R_away HO_6.out (fun _ hk => hk.2)))) _).trans (hHeld.2.2.2.2.2.2.2.1)))))))))), ((cell_far (p := ⟨gb363, _, none⟩) (by exact far_ (Kd.own_blk (Kd.R_away HO_6.out (fun _ hk => hk.2)))) _).trans (((cell_far (p := ⟨gb363, _, none⟩) (by exact far_ (Kd.own_blk (Kd.R_away HO_6.out (fun _ hk => hk.2)))) _).trans (((cell_far (p := ⟨gb363, _, none⟩) (by exact far_ (Kd.own_blk (Kd.R_away HO_6.out (fun _ hk => hk.2)))) _).trans (((cell_far (p := ⟨gb363, _, none⟩) (by exact far_ (Kd.own_blk (Kd.R_away HO_6.out (fun _ hk => hk.2)))) _).trans (((cell_far (p := ⟨gb363, _, none⟩) (by exact far_ (Kd.own_blk (Kd.R_away HO_6.out (fun _ hk => hk.2)))) _).trans (hHeld.2.2.2.2.2.2.2.2.1)))))))))), ((cell_far (p := ⟨gb363, _, none⟩) (by exact far_ (Kd.own_blk (Kd.R_away HO_6.out (fun _ hk => hk.2)))) _).trans (((cell_far (p := ⟨gb363, _, none⟩) (by exact far_ (Kd.own_blk (Kd.R_away HO_6.out (fun _ hk => hk.2)))) _).trans (((cell_far (p := ⟨gb363, _, none⟩) (by exact far_ (Kd.own_blk (Kd.R_away HO_6.out (fun _ hk => hk.2)))) _).trans (((cell_far (p := ⟨gb363, _, none⟩) (by exact far_ (Kd.own_blk (Kd.R_away HO_6.out (fun _ hk => hk.2)))) _).trans (((cell_far (p := ⟨gb363, _, none⟩) (by exact far_ (Kd.own_blk (Kd.R_away HO_6.out (fun _ hk => hk.2)))) _).trans (hHeld.2.2.2.2.2.2.2.2.2))))))))))⟩ (fun hHeld => ?_)
                  clear hK K
                  refine done_ (done_of HT_.out (by kernel_rfl)) ?_
                  have hnb100 := NB362_363.out
                  have hnc100 := NB363_362.out
                  have hcz101_0 : w89.cell? ⟨gb362, 0, none⟩ = some (.int .i64 0) := (blk_cell BK362.out 0).trans rfl
                  have hcz101_1 : w89.cell? ⟨gb362, 1, none⟩ = some (.int .i64 0) := (blk_cell BK362.out 1).trans rfl
                  have hcz101_2 : w89.cell? ⟨gb362, 2, none⟩ = some (.int .i64 0) := (blk_cell BK362.out 2).trans rfl
                  have hcz101_3 : w89.cell? ⟨gb362, 3, none⟩ = some (.int .i64 0) := (blk_cell BK362.out 3).trans rfl
                  have hcz101_4 : w89.cell? ⟨gb362, 4, none⟩ = some (.int .i64 0) := (blk_cell BK362.out 4).trans rfl
                  have hfz101_0 := blk_frozen BK362.out 0
                  have hfz101_1 := blk_frozen BK362.out 1
                  have hfz101_2 := blk_frozen BK362.out 2
                  have hfz101_3 := blk_frozen BK362.out 3
                  have hfz101_4 := blk_frozen BK362.out 4
                  have hcz102_0 : w89.cell? ⟨gb363, 0, none⟩ = some (.int .i64 0) := (blk_cell BK363.out 0).trans rfl
                  have hcz102_1 : w89.cell? ⟨gb363, 1, none⟩ = some (.int .i64 0) := (blk_cell BK363.out 1).trans rfl
                  have hcz102_2 : w89.cell? ⟨gb363, 2, none⟩ = some (.int .i64 0) := (blk_cell BK363.out 2).trans rfl
                  have hcz102_3 : w89.cell? ⟨gb363, 3, none⟩ = some (.int .i64 0) := (blk_cell BK363.out 3).trans rfl
                  have hcz102_4 : w89.cell? ⟨gb363, 4, none⟩ = some (.int .i64 0) := (blk_cell BK363.out 4).trans rfl
                  have hfz102_0 := blk_frozen BK363.out 0
                  have hfz102_1 := blk_frozen BK363.out 1
                  have hfz102_2 := blk_frozen BK363.out 2
                  have hfz102_3 := blk_frozen BK363.out 3
                  have hfz102_4 := blk_frozen BK363.out 4
                  try go_wp2
                  go_roundg k4
                  case measure => have := HJ3.out; have := HJ11.out; have := HK3.out; have := HK4.out; omega
                  case rel => exact ⟨(wrap64 (x14_4 + 1)), (by first | rfl | (simp; done) | (simp [*]; done)), H', ⟨by have := HJ3.out; have := HJ11.out; have := HK3.out; have := HK4.out; omega⟩, ⟨by (with_reducible repeat (first | apply Kd.R_alloc | apply Kd.R_drewN | apply Kd.R_drew)); exact Kd.R_mono (Kd.R_far (p := ⟨gb363, 4, none⟩) (Kd.R_far (p := ⟨gb363, 3, none⟩) (Kd.R_far (p := ⟨gb363, 2, none⟩) (Kd.R_far (p := ⟨gb363, 1, none⟩) (Kd.R_far (p := ⟨gb363, 0, none⟩) (Kd.R_far (p := ⟨gb362, 4, none⟩) (Kd.R_far (p := ⟨gb362, 3, none⟩) (Kd.R_far (p := ⟨gb362, 2, none⟩) (Kd.R_far (p := ⟨gb362, 1, none⟩) (Kd.R_far (p := ⟨gb362, 0, none⟩) (Kd.R_mono (Kd.R_mono HO_6.out (fun k_ hk => (⟨hk, hk.1⟩ : _ ∧ k_ ≠ gb362))) (fun k_ hk => (⟨hk, hk.1.2⟩ : _ ∧ k_ ≠ gb363))) (fun _ hk => hk.1.2) (.int .i64 ((rd_T38 t341 (ji43)).f0))) (fun _ hk => hk.1.2) (.int .i64 ((rd_T38 t341 (ji43)).f1.f0))) (fun _ hk => hk.1.2) (.int .i64 ((rd_T38 t341 (ji43)).f1.f1))) (fun _ hk => hk.1.2) (.int .i64 ((rd_T38 t341 (ji43)).f2.f0))) (fun _ hk => hk.1.2) (.int .i64 ((rd_T38 t341 (ji43)).f2.f1))) (fun _ hk => hk.2) (.int .i64 ((rd_T38 t341 x14_4).f0))) (fun _ hk => hk.2) (.int .i64 ((rd_T38 t341 x14_4).f1.f0))) (fun _ hk => hk.2) (.int .i64 ((rd_T38 t341 x14_4).f1.f1))) (fun _ hk => hk.2) (.int .i64 ((rd_T38 t341 x14_4).f2.f0))) (fun _ hk => hk.2) (.int .i64 ((rd_T38 t341 x14_4).f2.f1))) (fun _ hk => trivial)⟩, ⟨by repeat (first | (with_reducible first | exact HB.out | apply below_alloc | apply pw_below_drewN | apply below_drew1 | refine below_set ?_ GE362.out | refine below_set ?_ GE363.out) | exact HB.out)⟩⟩
               ·
                rw [if_neg c46] at H
                exact absurd H (by simp)
              ·
               rw [if_neg c45] at H
               exact absurd H (by simp)
             ·
              rw [if_neg c44] at H
              exact absurd H (by simp)
            ·
             rw [if_neg c42] at H
             have c42b0 : decide (x14_4 < (t341.length : Int)) = false := decide_eq_false c42
             clear c42
             by_cases c103 : t340 = true
             ·
              subst c103
              have H1 : (some (t349 == x12_3)) = some r := by rw [if_pos rfl] at H; exact H
              clear H
              have H := H1
              clear H1
              obtain rfl := Option.some.inj H
              go_wp2
              go_ret
              exact ⟨by first | rfl | (simp [errW_none, errW_some] <;> rfl) | (simp [*, errW_none, errW_some] <;> rfl), by repeat (first | (with_reducible first | exact HB.out | apply below_alloc | apply pw_below_drewN | apply below_drew1) | exact HB.out)⟩
             ·
              replace c103 := Bool.eq_false_iff.mpr c103
              subst c103
              have H1 : (some false) = some r := by rw [if_neg (show ¬ (false = true) by decide)] at H; exact H
              clear H
              have H := H1
              clear H1
              exact absurd ((Option.some.inj H).trans hR_) (by decide)

end Go.Proofs.Ytbeldjhpbomonaa.Si
