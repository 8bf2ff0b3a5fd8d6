/- Contracts of functions of the program, each over a plain Lean function of the same answers: written by pdrive.py, a program of this session that drives the kit's printer with some functions given by hand; conditions: as each theorem says. -/
import Derived.Test.YtbeldjhpbomonaaSix0
import Derived.Test.YtbeldjhpbomonaaSix2
import Derived.Test.YtbeldjhpbomonaaSix11
import Derived.Test.YtbeldjhpbomonaaSix15
import Derived.Test.YtbeldjhpbomonaaFar
namespace Go.Proofs.Ytbeldjhpbomonaa.Si
open Go.RowKit Go.Proofs.YtbeldjhpbomonaaFar Go.Proofs.YtbeldjhpbomonaaW.PrintWords Go.Proofs.YtbeldjhpbomonaaW.PrintLast Go.Proofs.YtbeldjhpbomonaaW.PrintMore
attribute [local go_sem] max2_int min2_int max_two min_two max_three min_three max_four min_four   -- for this text's walks alone
set_option linter.unusedVariables false
set_option linter.unusedSimpArgs false

attribute [local go_sem high] eqA33
/-! ### tailwaterlaw34_SinkLate: function 4 -/
mutual
def tailwaterlaw34_SinkLate.j0 : Nat → List (S33) → Bool → Bool → Option (Bool)
  | 0, _, _, _ => none
  | k + 1, x0, x3, x20 => if x20 = true then (some x3) else ((sink_Late.f x0).bind fun bt324 => (if bt324.2 = 0 then (tailwaterlaw34_SinkLate.j1 k x0 x3 bt324.1 ((bt324.1.length : Int) != (x0.length : Int))) else (tailwaterlaw34_SinkLate.j1 k x0 x3 bt324.1 true)))
def tailwaterlaw34_SinkLate.j1 : Nat → List (S33) → Bool → List (S33) → Bool → Option (Bool)
  | 0, _, _, _, _ => none
  | k + 1, x0, x3, x4, x35 => if x35 = true then (some false) else (tailwaterlaw34_SinkLate.l0 k x0 x3 x4 1)
def tailwaterlaw34_SinkLate.l0 : Nat → List (S33) → Bool → List (S33) → Int → Option (Bool)
  | 0, _, _, _, _ => none
  | k + 1, x0, x3, x4, x6 => if x6 < (x4.length : Int) then (if 0 ≤ (wrap64 (x6 - 1)) then (if (wrap64 (x6 - 1)) < (x4.length : Int) then (if 0 ≤ x6 then (if ((rd_T33 x4 (wrap64 (x6 - 1))).f1) > ((rd_T33 x4 x6).f1) then (some false) else (if ((rd_T33 x4 (wrap64 (x6 - 1))).f1) = ((rd_T33 x4 x6).f1) then (if ((rd_T33 x4 (wrap64 (x6 - 1))).f0) > ((rd_T33 x4 x6).f0) then (some false) else (if ((rd_T33 x4 (wrap64 (x6 - 1))).f0) = ((rd_T33 x4 x6).f0) then (if ((rd_T33 x4 (wrap64 (x6 - 1))).f2) > ((rd_T33 x4 x6).f2) then (some false) else (tailwaterlaw34_SinkLate.l0 k x0 x3 x4 (wrap64 (x6 + 1)))) else (tailwaterlaw34_SinkLate.l0 k x0 x3 x4 (wrap64 (x6 + 1))))) else (tailwaterlaw34_SinkLate.l0 k x0 x3 x4 (wrap64 (x6 + 1))))) else (none)) else (none)) else (none)) else (tailwaterlaw34_SinkLate.l1 k x0 x3 x4 0)
def tailwaterlaw34_SinkLate.l1 : Nat → List (S33) → Bool → List (S33) → Int → Option (Bool)
  | 0, _, _, _, _ => none
  | k + 1, x0, x3, x4, x9 => if x9 < (x0.length : Int) then (tailwaterlaw34_SinkLate.l2 k x0 x3 x4 x9 0 0 0) else (some x3)
def tailwaterlaw34_SinkLate.l2 : Nat → List (S33) → Bool → List (S33) → Int → Int → Int → Int → Option (Bool)
  | 0, _, _, _, _, _, _, _ => none
  | k + 1, x0, x3, x4, x9, x10, x11, x12 => if x12 < (x0.length : Int) then (if 0 ≤ x12 then (if 0 ≤ x9 then (if x9 < (x0.length : Int) then (if (((rd_T33 x0 x12).f0) == ((rd_T33 x0 x9).f0) && (((rd_T33 x0 x12).f1) == ((rd_T33 x0 x9).f1) && (((rd_T33 x0 x12).f2) == ((rd_T33 x0 x9).f2)))) = true then (if x12 < (x4.length : Int) then (if (((rd_T33 x4 x12).f0) == ((rd_T33 x0 x9).f0) && (((rd_T33 x4 x12).f1) == ((rd_T33 x0 x9).f1) && (((rd_T33 x4 x12).f2) == ((rd_T33 x0 x9).f2)))) = true then (tailwaterlaw34_SinkLate.l2 k x0 x3 x4 x9 (wrap64 (x10 + 1)) (wrap64 (x11 + 1)) (wrap64 (x12 + 1))) else (tailwaterlaw34_SinkLate.l2 k x0 x3 x4 x9 (wrap64 (x10 + 1)) x11 (wrap64 (x12 + 1)))) else (none)) else (if x12 < (x4.length : Int) then (if (((rd_T33 x4 x12).f0) == ((rd_T33 x0 x9).f0) && (((rd_T33 x4 x12).f1) == ((rd_T33 x0 x9).f1) && (((rd_T33 x4 x12).f2) == ((rd_T33 x0 x9).f2)))) = true then (tailwaterlaw34_SinkLate.l2 k x0 x3 x4 x9 x10 (wrap64 (x11 + 1)) (wrap64 (x12 + 1))) else (tailwaterlaw34_SinkLate.l2 k x0 x3 x4 x9 x10 x11 (wrap64 (x12 + 1)))) else (none))) else (none)) else (none)) else (none)) else (if x10 = x11 then (tailwaterlaw34_SinkLate.l1 k x0 x3 x4 (wrap64 (x9 + 1))) else (some false))
end
def tailwaterlaw34_SinkLate.f (k : Nat) (l0 : List (S33)) : Option (Bool) := (tailwaterlaw34_alive.f k).bind fun t323 => (if (l0.length : Int) > 60 then (tailwaterlaw34_SinkLate.j0 k l0 t323 true) else (tailwaterlaw34_SinkLate.j0 k l0 t323 (!t323)))
theorem tailwaterlaw34_SinkLate.mono_l : ∀ k, (∀ y0 y1 y2, LeO (tailwaterlaw34_SinkLate.j0 k y0 y1 y2) (tailwaterlaw34_SinkLate.j0 (k + 1) y0 y1 y2)) ∧ (∀ y0 y1 y2 y3, LeO (tailwaterlaw34_SinkLate.j1 k y0 y1 y2 y3) (tailwaterlaw34_SinkLate.j1 (k + 1) y0 y1 y2 y3)) ∧ (∀ y0 y1 y2 y3, LeO (tailwaterlaw34_SinkLate.l0 k y0 y1 y2 y3) (tailwaterlaw34_SinkLate.l0 (k + 1) y0 y1 y2 y3)) ∧ (∀ y0 y1 y2 y3, LeO (tailwaterlaw34_SinkLate.l1 k y0 y1 y2 y3) (tailwaterlaw34_SinkLate.l1 (k + 1) y0 y1 y2 y3)) ∧ (∀ y0 y1 y2 y3 y4 y5 y6, LeO (tailwaterlaw34_SinkLate.l2 k y0 y1 y2 y3 y4 y5 y6) (tailwaterlaw34_SinkLate.l2 (k + 1) y0 y1 y2 y3 y4 y5 y6))
  | 0 => ⟨fun _ _ _ r h => by simp [tailwaterlaw34_SinkLate.j0] at h, fun _ _ _ _ r h => by simp [tailwaterlaw34_SinkLate.j1] at h, fun _ _ _ _ r h => by simp [tailwaterlaw34_SinkLate.l0] at h, fun _ _ _ _ r h => by simp [tailwaterlaw34_SinkLate.l1] at h, fun _ _ _ _ _ _ _ r h => by simp [tailwaterlaw34_SinkLate.l2] at h⟩
  | k + 1 => by
    obtain ⟨ih0, ih1, ih2, ih3, ih4⟩ := tailwaterlaw34_SinkLate.mono_l k
    refine ⟨?_, ?_, ?_, ?_, ?_⟩
    · intro y0 y1 y2
      unfold tailwaterlaw34_SinkLate.j0
      repeat' first
      | (with_reducible exact ih0 _ _ _)
      | (with_reducible exact ih1 _ _ _ _)
      | (with_reducible exact ih2 _ _ _ _)
      | (with_reducible exact ih3 _ _ _ _)
      | (with_reducible exact ih4 _ _ _ _ _ _ _)
      | (with_reducible exact tailwaterlaw34_alive.mono _)
      | (with_reducible exact LeO.refl _)
      | (with_reducible exact LeO.none _)
      | (with_reducible refine LeO.ite ?_ ?_)
      | (with_reducible refine LeO.bind ?_ (fun _ => ?_))
      | exact ih0 _ _ _
      | exact ih1 _ _ _ _
      | exact ih2 _ _ _ _
      | exact ih3 _ _ _ _
      | exact ih4 _ _ _ _ _ _ _
      | exact tailwaterlaw34_alive.mono _
      | exact LeO.none _
      | refine LeO.ite ?_ ?_
      | refine LeO.bind ?_ (fun _ => ?_)
    · intro y0 y1 y2 y3
      unfold tailwaterlaw34_SinkLate.j1
      repeat' first
      | (with_reducible exact ih0 _ _ _)
      | (with_reducible exact ih1 _ _ _ _)
      | (with_reducible exact ih2 _ _ _ _)
      | (with_reducible exact ih3 _ _ _ _)
      | (with_reducible exact ih4 _ _ _ _ _ _ _)
      | (with_reducible exact tailwaterlaw34_alive.mono _)
      | (with_reducible exact LeO.refl _)
      | (with_reducible exact LeO.none _)
      | (with_reducible refine LeO.ite ?_ ?_)
      | (with_reducible refine LeO.bind ?_ (fun _ => ?_))
      | exact ih0 _ _ _
      | exact ih1 _ _ _ _
      | exact ih2 _ _ _ _
      | exact ih3 _ _ _ _
      | exact ih4 _ _ _ _ _ _ _
      | exact tailwaterlaw34_alive.mono _
      | exact LeO.none _
      | refine LeO.ite ?_ ?_
      | refine LeO.bind ?_ (fun _ => ?_)
    · intro y0 y1 y2 y3
      unfold tailwaterlaw34_SinkLate.l0
      repeat' first
      | (with_reducible exact ih0 _ _ _)
      | (with_reducible exact ih1 _ _ _ _)
      | (with_reducible exact ih2 _ _ _ _)
      | (with_reducible exact ih3 _ _ _ _)
      | (with_reducible exact ih4 _ _ _ _ _ _ _)
      | (with_reducible exact tailwaterlaw34_alive.mono _)
      | (with_reducible exact LeO.refl _)
      | (with_reducible exact LeO.none _)
      | (with_reducible refine LeO.ite ?_ ?_)
      | (with_reducible refine LeO.bind ?_ (fun _ => ?_))
      | exact ih0 _ _ _
      | exact ih1 _ _ _ _
      | exact ih2 _ _ _ _
      | exact ih3 _ _ _ _
      | exact ih4 _ _ _ _ _ _ _
      | exact tailwaterlaw34_alive.mono _
      | exact LeO.none _
      | refine LeO.ite ?_ ?_
      | refine LeO.bind ?_ (fun _ => ?_)
    · intro y0 y1 y2 y3
      unfold tailwaterlaw34_SinkLate.l1
      repeat' first
      | (with_reducible exact ih0 _ _ _)
      | (with_reducible exact ih1 _ _ _ _)
      | (with_reducible exact ih2 _ _ _ _)
      | (with_reducible exact ih3 _ _ _ _)
      | (with_reducible exact ih4 _ _ _ _ _ _ _)
      | (with_reducible exact tailwaterlaw34_alive.mono _)
      | (with_reducible exact LeO.refl _)
      | (with_reducible exact LeO.none _)
      | (with_reducible refine LeO.ite ?_ ?_)
      | (with_reducible refine LeO.bind ?_ (fun _ => ?_))
      | exact ih0 _ _ _
      | exact ih1 _ _ _ _
      | exact ih2 _ _ _ _
      | exact ih3 _ _ _ _
      | exact ih4 _ _ _ _ _ _ _
      | exact tailwaterlaw34_alive.mono _
      | exact LeO.none _
      | refine LeO.ite ?_ ?_
      | refine LeO.bind ?_ (fun _ => ?_)
    · intro y0 y1 y2 y3 y4 y5 y6
      unfold tailwaterlaw34_SinkLate.l2
      repeat' first
      | (with_reducible exact ih0 _ _ _)
      | (with_reducible exact ih1 _ _ _ _)
      | (with_reducible exact ih2 _ _ _ _)
      | (with_reducible exact ih3 _ _ _ _)
      | (with_reducible exact ih4 _ _ _ _ _ _ _)
      | (with_reducible exact tailwaterlaw34_alive.mono _)
      | (with_reducible exact LeO.refl _)
      | (with_reducible exact LeO.none _)
      | (with_reducible refine LeO.ite ?_ ?_)
      | (with_reducible refine LeO.bind ?_ (fun _ => ?_))
      | exact ih0 _ _ _
      | exact ih1 _ _ _ _
      | exact ih2 _ _ _ _
      | exact ih3 _ _ _ _
      | exact ih4 _ _ _ _ _ _ _
      | exact tailwaterlaw34_alive.mono _
      | exact LeO.none _
      | refine LeO.ite ?_ ?_
      | refine LeO.bind ?_ (fun _ => ?_)
theorem tailwaterlaw34_SinkLate.mono : ∀ a0 k, LeO (tailwaterlaw34_SinkLate.f k a0) (tailwaterlaw34_SinkLate.f (k + 1) a0) := by
  intro a0 k
  obtain ⟨ih0, ih1, ih2, ih3, ih4⟩ := tailwaterlaw34_SinkLate.mono_l k
  unfold tailwaterlaw34_SinkLate.f
  repeat' first
      | (with_reducible exact ih0 _ _ _)
      | (with_reducible exact ih1 _ _ _ _)
      | (with_reducible exact ih2 _ _ _ _)
      | (with_reducible exact ih3 _ _ _ _)
      | (with_reducible exact ih4 _ _ _ _ _ _ _)
      | (with_reducible exact tailwaterlaw34_alive.mono _)
      | (with_reducible exact LeO.refl _)
      | (with_reducible exact LeO.none _)
      | (with_reducible refine LeO.ite ?_ ?_)
      | (with_reducible refine LeO.bind ?_ (fun _ => ?_))
      | exact ih0 _ _ _
      | exact ih1 _ _ _ _
      | exact ih2 _ _ _ _
      | exact ih3 _ _ _ _
      | exact ih4 _ _ _ _ _ _ _
      | exact tailwaterlaw34_alive.mono _
      | exact LeO.none _
      | refine LeO.ite ?_ ?_
      | refine LeO.bind ?_ (fun _ => ?_)
def tailwaterlaw34_SinkLate.T10 : Bool × List (List Nat × List Nat) := (true, [([], []), ([], []), ([1], [1]), ([0, 2], [0, 2]), ([3], [3]), ([], []), ([], []), ([5, 6], [5, 6]), ([7], [7]), ([], []), ([], []), ([9, 4, 0, 1, 2, 3, 4, 9, 10], [4, 9]), ([10, 8, 11, 0, 1, 2, 3, 4, 5, 6, 7, 8, 9, 10, 11], [8, 10])])
def tailwaterlaw34_SinkLate.B10 : List Nat := [0, 0, 2, 7, 15, 0, 0, 96, 224, 0, 0, 1567, 4095]
theorem tailwaterlaw34_SinkLate.tab10 : rtab .any (opsOf Try.f4 10) = tailwaterlaw34_SinkLate.T10 := by kernel_rfl
theorem tailwaterlaw34_SinkLate.bits10 : waitsOk tailwaterlaw34_SinkLate.T10.2 tailwaterlaw34_SinkLate.B10 = true := by kernel_rfl
def tailwaterlaw34_SinkLate.T20 : Bool × List (List Nat × List Nat) := (true, [([], []), ([], []), ([0, 1], [0, 1]), ([2], [2]), ([], []), ([], []), ([4, 5], [4, 5]), ([6], [6]), ([3, 7], [3, 7])])
def tailwaterlaw34_SinkLate.B20 : List Nat := [0, 0, 3, 7, 0, 0, 48, 112, 255]
theorem tailwaterlaw34_SinkLate.tab20 : rtab .any (opsOf Try.f4 20) = tailwaterlaw34_SinkLate.T20 := by kernel_rfl
theorem tailwaterlaw34_SinkLate.bits20 : waitsOk tailwaterlaw34_SinkLate.T20.2 tailwaterlaw34_SinkLate.B20 = true := by kernel_rfl
def tailwaterlaw34_SinkLate.T22 : Bool × List (List Nat × List Nat) := (true, [([], []), ([], []), ([0, 1], [0, 1]), ([2], [2]), ([], []), ([], []), ([4, 5], [4, 5]), ([6], [6]), ([3, 7], [3, 7])])
def tailwaterlaw34_SinkLate.B22 : List Nat := [0, 0, 3, 7, 0, 0, 48, 112, 255]
theorem tailwaterlaw34_SinkLate.tab22 : rtab .any (opsOf Try.f4 22) = tailwaterlaw34_SinkLate.T22 := by kernel_rfl
theorem tailwaterlaw34_SinkLate.bits22 : waitsOk tailwaterlaw34_SinkLate.T22.2 tailwaterlaw34_SinkLate.B22 = true := by kernel_rfl
set_option maxHeartbeats 8000000 in
set_option maxRecDepth 100000 in
theorem tailwaterlaw34_SinkLate.calls (k : Nat) (A0 : Option Addr) (c0 : Nat) (l0 : List (S33)) (r : Bool) (w : World) (hr0 : Kd.C k33 w A0 l0.length l0) (hc0 : l0.length ≤ c0) (h : tailwaterlaw34_SinkLate.f k l0 = some r) (hR_ : r = true) :
    Calls Try.prog 4 #[.slice A0 l0.length c0] w fun e w' => e = .returned (.bool r) ∧ Below w.heap.size w w' := by
  have hu33 := Try.underlying33
  have HR0 := Aside0.mk hr0
  have HC0 := Aside0.mk hc0
  clear hr0 hc0
  have HB := Aside0.mk (Below.refl w.heap.size w)
  have H : ((tailwaterlaw34_alive.f k).bind fun t323 => (if (l0.length : Int) > 60 then (tailwaterlaw34_SinkLate.j0 k l0 t323 true) else (tailwaterlaw34_SinkLate.j0 k l0 t323 (!t323)))) = some r := h
  clear h
  replace H := Option.bind_eq_some_iff.mp H
  obtain ⟨t323, A20, H⟩ := H
  replace H : (if (l0.length : Int) > 60 then (tailwaterlaw34_SinkLate.j0 k l0 t323 true) else (tailwaterlaw34_SinkLate.j0 k l0 t323 (!t323))) = some r := H
  have A2 := Aside0.mk A20
  clear A20
  have HC3 := Aside0.mk H
  clear H
  go_enter Try.func4, Try.ntmps4
  go_upto_region 2 with (first | ((with_reducible refine gate_callee (f := 22) rfl ?_); refine goesL_ (some 13) rfl rfl Try.func22 (by kernel_rfl) rfl #[] rfl (by (try simp only [List.map_toArray, List.map_cons, List.map_nil]); first | done | rfl | (simp only [List.length_drop, List.length_take]; rfl)) ?_; (with_reducible refine (tailwaterlaw34_alive.calls k  t323 _ A2.out).mono ?_); rintro e w4 ⟨rfl, hb⟩; refine ⟨_, rfl, ?_⟩; have n0_ := Aside0.mk (below_step (by repeat (first | (with_reducible first | exact HB.out | apply below_alloc | apply pw_below_drewN | apply below_drew1) | exact HB.out)) hb); clear HB; have HB := n0_; clear n0_; (try clear hb); (try clear hb2); (try clear hk); (try clear hi)))
  (try simp only [Act.put, List.setIfInBounds_toArray, List.set_cons_zero, List.set_cons_succ])
  go_cut [20] (fun v20 wc => ∃ (kq : Nat) (x20_2 : Bool), v20 = .bool x20_2 ∧ Aside0 (tailwaterlaw34_SinkLate.j0 kq l0 t323 x20_2 = some r) ∧ Aside0 (kq ≤ k) ∧ Aside0 (Below w.heap.size w wc))
  case first =>
    have H := HC3.out
    clear HC3
    by_cases c5 : (l0.length : Int) > 60
    · rw [if_pos c5] at H
      have c5b0 : decide (60 < (l0.length : Int)) = true := decide_eq_true c5
      have c5b1 : decide (60 < l0.length) = true := decide_eq_true (by omega)
      clear c5
      (first | rw [c5b0] | (simp only [i64_w, i32_w]; rw [c5b0]) | skip)
      have H' := Aside0.mk H
      clear H
      go_wp2
      go_meet
      case rel => exact ⟨_, (true), (by first | rfl | (simp; done) | (simp [*]; done)), H', ⟨by first | omega | exact Nat.le_refl _⟩, ⟨by repeat (first | (with_reducible first | exact HB.out | apply below_alloc | apply pw_below_drewN | apply below_drew1) | exact HB.out)⟩⟩
    · rw [if_neg c5] at H
      have c5b0 : decide (60 < (l0.length : Int)) = false := decide_eq_false c5
      have c5b1 : decide (60 < l0.length) = false := decide_eq_false (by omega)
      clear c5
      (first | rw [c5b0] | (simp only [i64_w, i32_w]; rw [c5b0]) | skip)
      have H' := Aside0.mk H
      clear H
      go_wp2
      go_meet
      case rel => exact ⟨_, (!t323), (by first | rfl | (simp; done) | (simp [*]; done)), H', ⟨by first | omega | exact Nat.le_refl _⟩, ⟨by repeat (first | (with_reducible first | exact HB.out | apply below_alloc | apply pw_below_drewN | apply below_drew1) | exact HB.out)⟩⟩
  case rest =>
    clear HC3
    try clear c2
    try clear p2
    try clear c4
    try clear c5
    try clear c5b0
    try clear c5b1
    obtain ⟨kq, x20_2, rfl, HA, HJ2, HB⟩ := hcut
    cases kq with
    | zero => exact absurd HA.out (by simp [tailwaterlaw34_SinkLate.j0])
    | succ kj2 =>
      have H := HA.out
      clear HA
      simp only [tailwaterlaw34_SinkLate.j0] at H
      by_cases c6 : x20_2 = true
      · subst c6
        have H1 : (some t323) = some r := by rw [if_pos rfl] at H; exact H
        clear H
        have H := H1
        clear H1
        obtain rfl := Option.some.inj H
        go_wp2
        go_ret
        exact ⟨by first | rfl | (simp [errW_none, errW_some] <;> rfl) | (simp [*, errW_none, errW_some] <;> rfl), by repeat (first | (with_reducible first | exact HB.out | apply below_alloc | apply pw_below_drewN | apply below_drew1) | exact HB.out)⟩
      · replace c6 := Bool.eq_false_iff.mpr c6
        subst c6
        have H1 : ((sink_Late.f l0).bind fun bt324 => (if bt324.2 = 0 then (tailwaterlaw34_SinkLate.j1 kj2 l0 t323 bt324.1 ((bt324.1.length : Int) != (l0.length : Int))) else (tailwaterlaw34_SinkLate.j1 kj2 l0 t323 bt324.1 true))) = some r := by rw [if_neg (show ¬ (false = true) by decide)] at H; exact H
        clear H
        have H := H1
        clear H1
        replace H := Option.bind_eq_some_iff.mp H
        obtain ⟨⟨t324, t325⟩, A70, H⟩ := H
        replace H : (if t325 = 0 then (tailwaterlaw34_SinkLate.j1 kj2 l0 t323 t324 ((t324.length : Int) != (l0.length : Int))) else (tailwaterlaw34_SinkLate.j1 kj2 l0 t323 t324 true)) = some r := H
        have A7 := Aside0.mk A70
        clear A70
        have HC8 := Aside0.mk H
        clear H
        go_upto_region 5 with (first | ((with_reducible refine gate_callee (f := 23) rfl ?_); refine goesL_ (some 24) rfl rfl Try.func23 (by kernel_rfl) rfl #[.slice A0 l0.length c0] rfl (by (try simp only [List.map_toArray, List.map_cons, List.map_nil]); first | done | rfl | (simp only [List.length_drop, List.length_take]; rfl)) ?_; (with_reducible refine (sink_Late.calls _ _ l0 t324 t325 _ ?side1 ?side2 A7.out).mono ?_); (case side1 => repeat (first | exact (Kd.C_below HR0.out HB.out) | (with_reducible refine Kd.C_alloc ?_ _) | (with_reducible refine Kd.C_drewN ?_ _) | (with_reducible refine Kd.C_drew ?_))); (case side2 => exact HC0.out); rintro e w9 ⟨v326, rfl, ho0, hb⟩; refine ⟨_, rfl, ?_⟩; have n0_ := Aside0.mk (Kd.R_lower ho0 (below_size (by repeat (first | (with_reducible first | exact HB.out | apply below_alloc | apply pw_below_drewN | apply below_drew1) | exact HB.out)))); have n1_ := Aside0.mk (below_step (by repeat (first | (with_reducible first | exact HB.out | apply below_alloc | apply pw_below_drewN | apply below_drew1) | exact HB.out)) hb); clear HB; have HO327 := n0_; have HB := n1_; clear n0_ n1_; (try clear hb); (try clear hb2); (try clear hk); (try clear hi); (try clear ho0)))
        (try simp only [Act.put, List.setIfInBounds_toArray, List.set_cons_zero, List.set_cons_succ])
        go_cut [35] (fun v35 wc => ∃ (kq : Nat) (x35_7 : Bool), v35 = .bool x35_7 ∧ Aside0 (tailwaterlaw34_SinkLate.j1 kq l0 t323 t324 x35_7 = some r) ∧ Aside0 (kq ≤ kj2) ∧ Aside0 (Kd.R k33 33 wc w.heap.size (fun _ => True) v326 t324) ∧ Aside0 (Below w.heap.size w wc))
        case first =>
          have H := HC8.out
          clear HC8
          by_cases c10 : t325 = 0
          · rw [if_pos c10] at H
            have c10b0 : (t325 == 0) = true := beq_iff_eq.mpr c10
            have c10b1 : (t325 != 0) = false := bne_eq_false_iff_eq.mpr c10
            clear c10
            (first | rw [c10b0] | (simp only [i64_w, i32_w]; rw [c10b0]) | skip)
            have H' := Aside0.mk H
            clear H
            obtain ⟨Ao11, co11, eo11⟩ := Kd.R_slice HO327.out
            subst eo11
            go_wp2
            go_meet
            case rel => exact ⟨_, (((t324.length : Int) != (l0.length : Int))), (by first | rfl | (simp; done) | (simp [*]; done)), H', ⟨by have := HJ2.out; first | omega | exact Nat.le_refl _⟩, ⟨by (with_reducible repeat (first | apply Kd.R_alloc | apply Kd.R_drewN | apply Kd.R_drew)); exact HO327.out⟩, ⟨by repeat (first | (with_reducible first | exact HB.out | apply below_alloc | apply pw_below_drewN | apply below_drew1) | exact HB.out)⟩⟩
          · rw [if_neg c10] at H
            have c10b0 : (t325 == 0) = false := beq_eq_false_iff_ne.mpr c10
            have c10b1 : (t325 != 0) = true := bne_iff_ne.mpr c10
            (first | rw [c10b0] | (simp only [i64_w, i32_w]; rw [c10b0]) | skip)
            have H' := Aside0.mk H
            clear H
            go_wp2
            go_meet
            case rel => exact ⟨_, (true), (by first | rfl | (simp; done) | (simp [*]; done)), H', ⟨by have := HJ2.out; first | omega | exact Nat.le_refl _⟩, ⟨by (with_reducible repeat (first | apply Kd.R_alloc | apply Kd.R_drewN | apply Kd.R_drew)); exact HO327.out⟩, ⟨by repeat (first | (with_reducible first | exact HB.out | apply below_alloc | apply pw_below_drewN | apply below_drew1) | exact HB.out)⟩⟩
        case rest =>
          clear HC8
          try clear c1
          try clear c2
          try clear p2
          try clear c4
          try clear c5
          try clear c5b0
          try clear c5b1
          try clear c6
          try clear c10
          try clear c10b0
          try clear c10b1
          try clear p2
          obtain ⟨kq, x35_7, rfl, HA, HJ7, HO_4, HB⟩ := hcut
          cases kq with
          | zero => exact absurd HA.out (by simp [tailwaterlaw34_SinkLate.j1])
          | succ kj7 =>
            have H := HA.out
            clear HA
            simp only [tailwaterlaw34_SinkLate.j1] at H
            by_cases c12 : x35_7 = true
            · subst c12
              have H1 : (some false) = some r := by rw [if_pos rfl] at H; exact H
              clear H
              have H := H1
              clear H1
              exact absurd ((Option.some.inj H).trans hR_) (by decide)
            · replace c12 := Bool.eq_false_iff.mpr c12
              subst c12
              have H1 : (tailwaterlaw34_SinkLate.l0 kj7 l0 t323 t324 1) = some r := by rw [if_neg (show ¬ (false = true) by decide)] at H; exact H
              clear H
              have H := H1
              clear H1
              have H' := Aside0.mk H
              clear H
              go_wp2
              go_loopg [6] kj7 (fun kq v6 w' => ∃ (x6_3 : Int), v6 = .int .i64 x6_3 ∧ Aside0 (tailwaterlaw34_SinkLate.l0 kq l0 t323 t324 x6_3 = some r) ∧ Aside0 (kq ≤ kj7) ∧ Aside0 (Kd.R k33 33 w' w.heap.size (fun _ => True) v326 t324) ∧ Aside0 (Below w.heap.size w w'))
              case atStart => exact ⟨(1), (by first | rfl | (simp; done) | (simp [*]; done)), H', ⟨Nat.le_refl _⟩, ⟨by (with_reducible repeat (first | apply Kd.R_alloc | apply Kd.R_drewN | apply Kd.R_drew)); exact HO_4.out⟩, ⟨by repeat (first | (with_reducible first | exact HB.out | apply below_alloc | apply pw_below_drewN | apply below_drew1) | exact HB.out)⟩⟩
              case round =>
                clear H'
                try clear c1
                try clear c2
                try clear p2
                try clear c4
                try clear c5
                try clear c5b0
                try clear c5b1
                try clear c6
                try clear c10
                try clear c10b0
                try clear c10b1
                try clear c12
                try clear p2
                obtain ⟨x6_3, rfl, HA, HK3, HO_4, HB⟩ := hrel
                cases gk with
                | zero => exact absurd HA.out (by simp [tailwaterlaw34_SinkLate.l0])
                | succ k3 =>
                  have H := HA.out
                  clear HA
                  simp only [tailwaterlaw34_SinkLate.l0] at H
                  by_cases c13 : x6_3 < (t324.length : Int)
                  · rw [if_pos c13] at H
                    have c13b0 : decide (x6_3 < (t324.length : Int)) = true := decide_eq_true c13
                    clear c13
                    obtain ⟨ji14, hji14⟩ : ∃ j_ : Int, (wrap64 (x6_3 - 1)) = j_ := ⟨_, rfl⟩
                    replace H : (if 0 ≤ (ji14) then (if (ji14) < (t324.length : Int) then (if 0 ≤ x6_3 then (if ((rd_T33 t324 (ji14)).f1) > ((rd_T33 t324 x6_3).f1) then (some false) else (if ((rd_T33 t324 (ji14)).f1) = ((rd_T33 t324 x6_3).f1) then (if ((rd_T33 t324 (ji14)).f0) > ((rd_T33 t324 x6_3).f0) then (some false) else (if ((rd_T33 t324 (ji14)).f0) = ((rd_T33 t324 x6_3).f0) then (if ((rd_T33 t324 (ji14)).f2) > ((rd_T33 t324 x6_3).f2) then (some false) else (tailwaterlaw34_SinkLate.l0 k3 l0 t323 t324 (wrap64 (x6_3 + 1)))) else (tailwaterlaw34_SinkLate.l0 k3 l0 t323 t324 (wrap64 (x6_3 + 1))))) else (tailwaterlaw34_SinkLate.l0 k3 l0 t323 t324 (wrap64 (x6_3 + 1))))) else (none)) else (none)) else (none)) = some r := by first | (rw [hji14] at H; exact H) | (simp only [hji14] at H ⊢; exact H)
                    have hji14w : (IntKind.i64.wrap (x6_3 - 1)) = ji14 := (i64_w _).trans hji14
                    by_cases c15 : 0 ≤ (ji14)
                    · rw [if_pos c15] at H
                      have c15b0 : decide (0 ≤ (ji14)) = true := decide_eq_true c15
                      clear c15
                      by_cases c16 : (ji14) < (t324.length : Int)
                      · rw [if_pos c16] at H
                        have c16b0 : decide ((ji14) < (t324.length : Int)) = true := decide_eq_true c16
                        clear c16
                        by_cases c17 : 0 ≤ x6_3
                        · rw [if_pos c17] at H
                          have c17b0 : decide (0 ≤ x6_3) = true := decide_eq_true c17
                          clear c17
                          by_cases c18 : ((rd_T33 t324 (ji14)).f1) > ((rd_T33 t324 x6_3).f1)
                          · rw [if_pos c18] at H
                            have c18b0 : decide (((rd_T33 t324 x6_3).f1) < ((rd_T33 t324 (ji14)).f1)) = true := decide_eq_true c18
                            clear c18
                            exact absurd ((Option.some.inj H).trans hR_) (by decide)
                          · rw [if_neg c18] at H
                            have c18b0 : decide (((rd_T33 t324 x6_3).f1) < ((rd_T33 t324 (ji14)).f1)) = false := decide_eq_false c18
                            clear c18
                            by_cases c19 : ((rd_T33 t324 (ji14)).f1) = ((rd_T33 t324 x6_3).f1)
                            · rw [if_pos c19] at H
                              have c19b0 : (((rd_T33 t324 (ji14)).f1) == ((rd_T33 t324 x6_3).f1)) = true := beq_iff_eq.mpr c19
                              have c19b1 : (((rd_T33 t324 (ji14)).f1) != ((rd_T33 t324 x6_3).f1)) = false := bne_eq_false_iff_eq.mpr c19
                              clear c19
                              by_cases c20 : ((rd_T33 t324 (ji14)).f0) > ((rd_T33 t324 x6_3).f0)
                              · rw [if_pos c20] at H
                                have c20b0 : decide (((rd_T33 t324 x6_3).f0) < ((rd_T33 t324 (ji14)).f0)) = true := decide_eq_true c20
                                clear c20
                                exact absurd ((Option.some.inj H).trans hR_) (by decide)
                              · rw [if_neg c20] at H
                                have c20b0 : decide (((rd_T33 t324 x6_3).f0) < ((rd_T33 t324 (ji14)).f0)) = false := decide_eq_false c20
                                clear c20
                                by_cases c21 : ((rd_T33 t324 (ji14)).f0) = ((rd_T33 t324 x6_3).f0)
                                · rw [if_pos c21] at H
                                  have c21b0 : (((rd_T33 t324 (ji14)).f0) == ((rd_T33 t324 x6_3).f0)) = true := beq_iff_eq.mpr c21
                                  have c21b1 : (((rd_T33 t324 (ji14)).f0) != ((rd_T33 t324 x6_3).f0)) = false := bne_eq_false_iff_eq.mpr c21
                                  clear c21
                                  by_cases c22 : ((rd_T33 t324 (ji14)).f2) > ((rd_T33 t324 x6_3).f2)
                                  · rw [if_pos c22] at H
                                    have c22b0 : decide (((rd_T33 t324 x6_3).f2) < ((rd_T33 t324 (ji14)).f2)) = true := decide_eq_true c22
                                    clear c22
                                    exact absurd ((Option.some.inj H).trans hR_) (by decide)
                                  · rw [if_neg c22] at H
                                    have c22b0 : decide (((rd_T33 t324 x6_3).f2) < ((rd_T33 t324 (ji14)).f2)) = false := decide_eq_false c22
                                    clear c22
                                    have H' := Aside0.mk H
                                    clear H
                                    obtain ⟨Ao23, co23, eo23⟩ := Kd.R_slice HO_4.out
                                    subst eo23
                                    try go_wp2
                                    have n0_ := Aside0.mk (Kd.R_drew HO_4.out)
                                    have n1_ := Aside0.mk (below_drew1 HB.out)
                                    clear HO_4 HB
                                    have HO_4 := n0_
                                    have HB := n1_
                                    clear n0_ n1_
                                    have p328 : 0 ≤ ((ji14) : Int) := of_decide_eq_true (by first | (with_reducible assumption) | assumption)
                                    have q328 : (ji14) < (t324.length : Int) := of_decide_eq_true (by first | (with_reducible assumption) | assumption)
                                    obtain ⟨ad328, e328, hx328_0, hx328_1, hx328_2⟩ := at_T33 (Kd.R_reads' HO_4.out).2.2 (ji14) p328 q328
                                    cases e328
                                    replace p328 := eq_true p328
                                    replace q328 := eq_true q328
                                    have p329 : 0 ≤ (x6_3 : Int) := of_decide_eq_true (by first | (with_reducible assumption) | assumption)
                                    have q329 : x6_3 < (t324.length : Int) := of_decide_eq_true (by first | (with_reducible assumption) | assumption)
                                    obtain ⟨ad329, e329, hx329_0, hx329_1, hx329_2⟩ := at_T33 (Kd.R_reads' HO_4.out).2.2 x6_3 p329 q329
                                    obtain rfl : ad328 = ad329 := (by injection e329)
                                    replace p329 := eq_true p329
                                    replace q329 := eq_true q329
                                    refine start_ (n := 13) (S := fun w' => w'.cell? (ad328.add (((ji14)).toNat * 3)) = some (.int .i64 ((rd_T33 t324 (ji14)).f0)) ∧ w'.cell? ⟨(ad328.add (((ji14)).toNat * 3)).block, (ad328.add (((ji14)).toNat * 3)).off + 1, none⟩ = some (.int .i64 ((rd_T33 t324 (ji14)).f1)) ∧ w'.cell? ⟨(ad328.add (((ji14)).toNat * 3)).block, (ad328.add (((ji14)).toNat * 3)).off + 2, none⟩ = some (.int .i64 ((rd_T33 t324 (ji14)).f2)) ∧ w'.cell? (ad328.add ((x6_3).toNat * 3)) = some (.int .i64 ((rd_T33 t324 x6_3).f0)) ∧ w'.cell? ⟨(ad328.add ((x6_3).toNat * 3)).block, (ad328.add ((x6_3).toNat * 3)).off + 1, none⟩ = some (.int .i64 ((rd_T33 t324 x6_3).f1)) ∧ w'.cell? ⟨(ad328.add ((x6_3).toNat * 3)).block, (ad328.add ((x6_3).toNat * 3)).off + 2, none⟩ = some (.int .i64 ((rd_T33 t324 x6_3).f2))) (ds := []) #[false, false, false, false, false, false, false, false, false, false, false, false, false] (by kernel_rfl) rfl rfl ⟨hx328_0, hx328_1, hx328_2, hx329_0, hx329_1, hx329_2⟩ (fun hHeld => ?_); refine with_tabW tailwaterlaw34_SinkLate.tab10 tailwaterlaw34_SinkLate.bits10 (fun HT_ HW_ => ?_)
                                    generalize wr.drew = w24 at HO_4 HB hx328_0 hx328_1 hx328_2 hx329_0 hx329_1 hx329_2 hHeld ⊢
                                    refine pure_ (i := 0) (N := some 42) (v := ?_) (a' := ?_) #[true, false, false, false, false, false, false, false, false, false, false, false, false] rfl rfl (any_of HT_.out (by kernel_rfl)) (fun _ _ _ h => h) (Or.inl ⟨by rfl, ?_⟩) ?_ ?_
                                    rotate_left
                                    · intro w'
                                      go_simp
                                      with_reducible rfl
                                    rotate_left
                                    · simp only [Act.put, List.setIfInBounds_toArray, List.set_cons_zero, List.set_cons_succ, i64_w, i32_w]
                                      rfl
                                    refine pure_ (i := 1) (N := some 43) (v := ?_) (a' := ?_) #[true, true, false, false, false, false, false, false, false, false, false, false, false] rfl rfl (any_of HT_.out (by kernel_rfl)) (fun _ _ _ h => h) (Or.inl ⟨by rfl, ?_⟩) ?_ ?_
                                    rotate_left
                                    · intro w'
                                      go_simp
                                      with_reducible rfl
                                    rotate_left
                                    · simp only [Act.put, List.setIfInBounds_toArray, List.set_cons_zero, List.set_cons_succ, i64_w, i32_w]
                                      rfl
                                    refine pure_ (i := 2) (N := some 44) (v := ?_) (a' := ?_) #[true, true, true, false, false, false, false, false, false, false, false, false, false] rfl rfl (any_of HT_.out (by kernel_rfl)) (fun _ _ _ h => h) (Or.inl ⟨by rfl, ?_⟩) ?_ ?_
                                    rotate_left
                                    · intro w'
                                      go_simp
                                      with_reducible rfl
                                    rotate_left
                                    · simp only [Act.put, List.setIfInBounds_toArray, List.set_cons_zero, List.set_cons_succ, i64_w, i32_w]
                                      rfl
                                    refine pure_ (i := 3) (N := some 45) (v := ?_) (a' := ?_) #[true, true, true, true, false, false, false, false, false, false, false, false, false] rfl rfl (any_of HT_.out (by kernel_rfl)) (fun _ _ _ h => h) (Or.inl ⟨by rfl, ?_⟩) ?_ ?_
                                    rotate_left
                                    · intro w'
                                      go_simp
                                      with_reducible rfl
                                    rotate_left
                                    · simp only [Act.put, List.setIfInBounds_toArray, List.set_cons_zero, List.set_cons_succ, i64_w, i32_w]
                                      rfl
                                    refine pure_ (i := 5) (N := some 47) (v := ?_) (a' := ?_) #[true, true, true, true, false, true, false, false, false, false, false, false, false] rfl rfl (any_of HT_.out (by kernel_rfl)) (fun _ _ _ h => h) (Or.inl ⟨by rfl, ?_⟩) ?_ ?_
                                    rotate_left
                                    · intro w'
                                      go_simp
                                      with_reducible rfl
                                    rotate_left
                                    · simp only [Act.put, List.setIfInBounds_toArray, List.set_cons_zero, List.set_cons_succ, i64_w, i32_w]
                                      rfl
                                    refine pure_ (i := 6) (N := some 48) (v := ?_) (a' := ?_) #[true, true, true, true, false, true, true, false, false, false, false, false, false] rfl rfl (any_of HT_.out (by kernel_rfl)) (fun _ _ _ h => h) (Or.inl ⟨by rfl, ?_⟩) ?_ ?_
                                    rotate_left
                                    · intro w'
                                      go_simp
                                      with_reducible rfl
                                    rotate_left
                                    · simp only [Act.put, List.setIfInBounds_toArray, List.set_cons_zero, List.set_cons_succ, i64_w, i32_w]
                                      rfl
                                    refine pure_ (i := 7) (N := some 49) (v := ?_) (a' := ?_) #[true, true, true, true, false, true, true, true, false, false, false, false, false] rfl rfl (any_of HT_.out (by kernel_rfl)) (fun _ _ _ h => h) (Or.inl ⟨by rfl, ?_⟩) ?_ ?_
                                    rotate_left
                                    · intro w'
                                      go_simp
                                      with_reducible rfl
                                    rotate_left
                                    · simp only [Act.put, List.setIfInBounds_toArray, List.set_cons_zero, List.set_cons_succ, i64_w, i32_w]
                                      rfl
                                    refine take_ (i := 4) (N := some 46) (v := ?_) (a' := ?_) #[true, true, true, true, true, true, true, true, false, false, false, false, false] rfl rfl (take_ofW HT_.out HW_.out (by kernel_rfl)) (fun _ _ _ h => h) (Or.inl ⟨by rfl, ?_⟩) hHeld ?_ ?_
                                    rotate_left
                                    · rintro w' ⟨s0, s1, s2, s3, s4, s5⟩
                                      go_simp
                                      with_reducible rfl
                                    rotate_left
                                    · simp only [Act.put, List.setIfInBounds_toArray, List.set_cons_zero, List.set_cons_succ, i64_w, i32_w]
                                      rfl
                                    refine take_ (i := 8) (N := some 50) (v := ?_) (a' := ?_) #[true, true, true, true, true, true, true, true, true, false, false, false, false] rfl rfl (take_ofW HT_.out HW_.out (by kernel_rfl)) (fun _ _ _ h => h) (Or.inl ⟨by rfl, ?_⟩) hHeld ?_ ?_
                                    rotate_left
                                    · rintro w' ⟨s0, s1, s2, s3, s4, s5⟩
                                      go_simp
                                      with_reducible rfl
                                    rotate_left
                                    · simp only [Act.put, List.setIfInBounds_toArray, List.set_cons_zero, List.set_cons_succ, i64_w, i32_w]
                                      rfl
                                    refine join_ (σ := Nat × Nat) 2 #[true, true, true, true, true, true, true, true, true, true, true, false, false] (fun s_ => [(7, .pointer (some ⟨s_.1, 0, none⟩)), (8, .pointer (some ⟨s_.2, 0, none⟩))]) (fun s_ w' => (w'.cell? (ad328.add (((ji14)).toNat * 3)) = some (.int .i64 ((rd_T33 t324 (ji14)).f0)) ∧ w'.cell? ⟨(ad328.add (((ji14)).toNat * 3)).block, (ad328.add (((ji14)).toNat * 3)).off + 1, none⟩ = some (.int .i64 ((rd_T33 t324 (ji14)).f1)) ∧ w'.cell? ⟨(ad328.add (((ji14)).toNat * 3)).block, (ad328.add (((ji14)).toNat * 3)).off + 2, none⟩ = some (.int .i64 ((rd_T33 t324 (ji14)).f2)) ∧ w'.cell? (ad328.add ((x6_3).toNat * 3)) = some (.int .i64 ((rd_T33 t324 x6_3).f0)) ∧ w'.cell? ⟨(ad328.add ((x6_3).toNat * 3)).block, (ad328.add ((x6_3).toNat * 3)).off + 1, none⟩ = some (.int .i64 ((rd_T33 t324 x6_3).f1)) ∧ w'.cell? ⟨(ad328.add ((x6_3).toNat * 3)).block, (ad328.add ((x6_3).toNat * 3)).off + 2, none⟩ = some (.int .i64 ((rd_T33 t324 x6_3).f2))) ∧ (Kd.R k33 33 w' w.heap.size (fun k_ => k_ ≠ s_.1 ∧ k_ ≠ s_.2) (.slice (some ad328) t324.length co23) t324) ∧ (w'.heap[s_.1]? = some (.cells #[.int .i64 0, .int .i64 0, .int .i64 0] 33 (0, 0))) ∧ (w'.heap[s_.2]? = some (.cells #[.int .i64 0, .int .i64 0, .int .i64 0] 33 (0, 0))) ∧ (w.heap.size ≤ s_.1) ∧ (w.heap.size ≤ s_.1) ∧ (s_.2 ≠ s_.1) ∧ (s_.1 ≠ s_.2) ∧ (w.heap.size ≤ s_.2) ∧ (w.heap.size ≤ s_.2) ∧ (Below w.heap.size w w')) ?_ ?_
                                    rotate_left
                                    · intro hCont
                                      refine two_ (i := 9) (j := 10) (Ni := some 7) (Nj := some 8) #[true, true, true, true, true, true, true, true, true, true, false, false, false] #[true, true, true, true, true, true, true, true, true, false, true, false, false] rfl rfl rfl rfl (two_of HT_.out (by kernel_rfl)) (by decide) (by decide) (fun K hK => ?_) (fun K hK => ?_)
                                      · skip
                                        refine box_step ?hg (N := 7) ?hd (cs := #[.int .i64 0, .int .i64 0, .int .i64 0]) (t := 33) ?hr ?_; (case hd => rfl); (case hg => rfl); (case hr => first | (go_simp; done) | (go_simp; rfl))
                                        intro gb330 hg w25 hbox hb
                                        have HS0_ := (hb.cell (World.block_lt_of_cell? _ _ (hHeld.1))).trans (hHeld.1)
                                        have HS1_ := (hb.cell (World.block_lt_of_cell? _ _ (hHeld.2.1))).trans (hHeld.2.1)
                                        have HS2_ := (hb.cell (World.block_lt_of_cell? _ _ (hHeld.2.2.1))).trans (hHeld.2.2.1)
                                        have HS3_ := (hb.cell (World.block_lt_of_cell? _ _ (hHeld.2.2.2.1))).trans (hHeld.2.2.2.1)
                                        have HS4_ := (hb.cell (World.block_lt_of_cell? _ _ (hHeld.2.2.2.2.1))).trans (hHeld.2.2.2.2.1)
                                        have HS5_ := (hb.cell (World.block_lt_of_cell? _ _ (hHeld.2.2.2.2.2))).trans (hHeld.2.2.2.2.2)
                                        have n0_ := Aside0.mk (Kd.R_below (Kd.R_elderB (by (with_reducible repeat (first | apply Kd.R_alloc | apply Kd.R_drewN | apply Kd.R_drew)); exact HO_4.out) gb330 (Nat.le_of_eq hg.symm)) hb)
                                        have n1_ := Aside0.mk (below_step (by repeat (first | (with_reducible first | exact HB.out | apply below_alloc | apply pw_below_drewN | apply below_drew1) | exact HB.out)) hb)
                                        have n2_ := Aside0.mk (hbox)
                                        have n3_ := Aside0.mk ((by rw [hg]; exact (below_size (by repeat (first | (with_reducible first | exact HB.out | apply below_alloc | apply pw_below_drewN | apply below_drew1) | exact HB.out))) : w.heap.size ≤ gb330))
                                        have n4_ := Aside0.mk ((by rw [hg]; exact (below_size (by repeat (first | (with_reducible first | exact HB.out | apply below_alloc | apply pw_below_drewN | apply below_drew1) | exact HB.out))) : w.heap.size ≤ gb330))
                                        clear HO_4 HB
                                        have HO_4 := n0_
                                        have HB := n1_
                                        have BK330 := n2_
                                        have GW330 := n3_
                                        have GE330 := n4_
                                        clear n0_ n1_ n2_ n3_ n4_
                                        clear hb hbox hg
                                        refine hK.out _ _ ⟨HS0_, HS1_, HS2_, HS3_, HS4_, HS5_⟩ (fun hHeld => ?_)
                                        clear hK K
                                        refine norm_ (a' := ?_) ?_ ?_
                                        rotate_left
                                        · show Act.put _ (some 7) _ = _
                                          simp only [Act.put, List.setIfInBounds_toArray, List.set_cons_zero, List.set_cons_succ, i64_w, i32_w]
                                          rfl
                                        refine one_ (i := 10) (N := some 8) #[true, true, true, true, true, true, true, true, true, true, true, false, false] rfl rfl (one_of HT_.out (by kernel_rfl)) (by decide) (fun K hK => ?_)
                                        refine box_step ?hg (N := 8) ?hd (cs := #[.int .i64 0, .int .i64 0, .int .i64 0]) (t := 33) ?hr ?_; (case hd => rfl); (case hg => rfl); (case hr => first | (go_simp; done) | (go_simp; rfl))
                                        intro gb331 hg w26 hbox hb
                                        have HS0_ := (hb.cell (World.block_lt_of_cell? _ _ (hHeld.1))).trans (hHeld.1)
                                        have HS1_ := (hb.cell (World.block_lt_of_cell? _ _ (hHeld.2.1))).trans (hHeld.2.1)
                                        have HS2_ := (hb.cell (World.block_lt_of_cell? _ _ (hHeld.2.2.1))).trans (hHeld.2.2.1)
                                        have HS3_ := (hb.cell (World.block_lt_of_cell? _ _ (hHeld.2.2.2.1))).trans (hHeld.2.2.2.1)
                                        have HS4_ := (hb.cell (World.block_lt_of_cell? _ _ (hHeld.2.2.2.2.1))).trans (hHeld.2.2.2.2.1)
                                        have HS5_ := (hb.cell (World.block_lt_of_cell? _ _ (hHeld.2.2.2.2.2))).trans (hHeld.2.2.2.2.2)
                                        have n0_ := Aside0.mk (Kd.R_below (Kd.R_elderB (by (with_reducible repeat (first | apply Kd.R_alloc | apply Kd.R_drewN | apply Kd.R_drew)); exact HO_4.out) gb331 (Nat.le_of_eq hg.symm)) hb)
                                        have n1_ := Aside0.mk (blk_below (g := gb330) (o := .cells #[.int .i64 0, .int .i64 0, .int .i64 0] 33 (0, 0)) (by (with_reducible repeat (first | refine blk_drewN ?_ _ | refine blk_drew ?_ | refine blk_alloc ?_ _)); exact BK330.out) hb)
                                        have n2_ := Aside0.mk (below_step (by repeat (first | (with_reducible first | exact HB.out | apply below_alloc | apply pw_below_drewN | apply below_drew1 | refine below_set ?_ GE330.out) | exact HB.out)) hb)
                                        have n3_ := Aside0.mk (hbox)
                                        have n4_ := Aside0.mk ((by rw [hg]; exact (below_size (by repeat (first | (with_reducible first | exact HB.out | apply below_alloc | apply pw_below_drewN | apply below_drew1 | refine below_set ?_ GE330.out) | exact HB.out))) : w.heap.size ≤ gb331))
                                        have n5_ := Aside0.mk ((by rw [hg]; exact (below_size (by repeat (first | (with_reducible first | exact HB.out | apply below_alloc | apply pw_below_drewN | apply below_drew1 | refine below_set ?_ GE330.out) | exact HB.out))) : w.heap.size ≤ gb331))
                                        have n6_ := Aside0.mk ((by rw [hg]; exact Nat.ne_of_lt (blk_lt (g := gb330) (o := .cells #[.int .i64 0, .int .i64 0, .int .i64 0] 33 (0, 0)) (by (with_reducible repeat (first | refine blk_drewN ?_ _ | refine blk_drew ?_ | refine blk_alloc ?_ _)); exact BK330.out)) : gb330 ≠ gb331))
                                        have n7_ := Aside0.mk ((by rw [hg]; exact Nat.ne_of_gt (blk_lt (g := gb330) (o := .cells #[.int .i64 0, .int .i64 0, .int .i64 0] 33 (0, 0)) (by (with_reducible repeat (first | refine blk_drewN ?_ _ | refine blk_drew ?_ | refine blk_alloc ?_ _)); exact BK330.out)) : gb331 ≠ gb330))
                                        clear HO_4 BK330 HB
                                        have HO_4 := n0_
                                        have BK330 := n1_
                                        have HB := n2_
                                        have BK331 := n3_
                                        have GW331 := n4_
                                        have GE331 := n5_
                                        have NB330_331 := n6_
                                        have NB331_330 := n7_
                                        clear n0_ n1_ n2_ n3_ n4_ n5_ n6_ n7_
                                        clear hb hbox hg
                                        refine hK.out _ _ ⟨HS0_, HS1_, HS2_, HS3_, HS4_, HS5_⟩ (fun hHeld => ?_)
                                        clear hK K
                                        refine norm_ (a' := ?_) ?_ ?_
                                        rotate_left
                                        · show Act.put _ (some 8) _ = _
                                          simp only [Act.put, List.setIfInBounds_toArray, List.set_cons_zero, List.set_cons_succ, i64_w, i32_w]
                                          rfl
                                        exact norm_ (by simp only [putAll, Act.put, List.setIfInBounds_toArray, List.set_cons_zero, List.set_cons_succ]) (hCont (gb330, gb331) _ ⟨hHeld, (by (with_reducible repeat (first | apply Kd.R_alloc | apply Kd.R_drewN | apply Kd.R_drew)); exact Kd.R_mono HO_4.out (fun _ hk => ⟨hk.1.2, hk.2⟩)), (by (with_reducible repeat (first | refine blk_drewN ?_ _ | refine blk_drew ?_ | refine blk_alloc ?_ _)); exact BK330.out), (by (with_reducible repeat (first | refine blk_drewN ?_ _ | refine blk_drew ?_ | refine blk_alloc ?_ _)); exact BK331.out), GW330.out, GE330.out, NB331_330.out, NB330_331.out, GW331.out, GE331.out, (by repeat (first | (with_reducible first | exact HB.out | apply below_alloc | apply pw_below_drewN | apply below_drew1 | refine below_set ?_ GE330.out | refine below_set ?_ GE331.out) | exact HB.out))⟩)
                                      · skip
                                        refine box_step ?hg (N := 8) ?hd (cs := #[.int .i64 0, .int .i64 0, .int .i64 0]) (t := 33) ?hr ?_; (case hd => rfl); (case hg => rfl); (case hr => first | (go_simp; done) | (go_simp; rfl))
                                        intro gb331 hg w25 hbox hb
                                        have HS0_ := (hb.cell (World.block_lt_of_cell? _ _ (hHeld.1))).trans (hHeld.1)
                                        have HS1_ := (hb.cell (World.block_lt_of_cell? _ _ (hHeld.2.1))).trans (hHeld.2.1)
                                        have HS2_ := (hb.cell (World.block_lt_of_cell? _ _ (hHeld.2.2.1))).trans (hHeld.2.2.1)
                                        have HS3_ := (hb.cell (World.block_lt_of_cell? _ _ (hHeld.2.2.2.1))).trans (hHeld.2.2.2.1)
                                        have HS4_ := (hb.cell (World.block_lt_of_cell? _ _ (hHeld.2.2.2.2.1))).trans (hHeld.2.2.2.2.1)
                                        have HS5_ := (hb.cell (World.block_lt_of_cell? _ _ (hHeld.2.2.2.2.2))).trans (hHeld.2.2.2.2.2)
                                        have n0_ := Aside0.mk (Kd.R_below (Kd.R_elderB (by (with_reducible repeat (first | apply Kd.R_alloc | apply Kd.R_drewN | apply Kd.R_drew)); exact HO_4.out) gb331 (Nat.le_of_eq hg.symm)) hb)
                                        have n1_ := Aside0.mk (below_step (by repeat (first | (with_reducible first | exact HB.out | apply below_alloc | apply pw_below_drewN | apply below_drew1) | exact HB.out)) hb)
                                        have n2_ := Aside0.mk (hbox)
                                        have n3_ := Aside0.mk ((by rw [hg]; exact (below_size (by repeat (first | (with_reducible first | exact HB.out | apply below_alloc | apply pw_below_drewN | apply below_drew1) | exact HB.out))) : w.heap.size ≤ gb331))
                                        have n4_ := Aside0.mk ((by rw [hg]; exact (below_size (by repeat (first | (with_reducible first | exact HB.out | apply below_alloc | apply pw_below_drewN | apply below_drew1) | exact HB.out))) : w.heap.size ≤ gb331))
                                        clear HO_4 HB
                                        have HO_4 := n0_
                                        have HB := n1_
                                        have BK331 := n2_
                                        have GW331 := n3_
                                        have GE331 := n4_
                                        clear n0_ n1_ n2_ n3_ n4_
                                        clear hb hbox hg
                                        refine hK.out _ _ ⟨HS0_, HS1_, HS2_, HS3_, HS4_, HS5_⟩ (fun hHeld => ?_)
                                        clear hK K
                                        refine norm_ (a' := ?_) ?_ ?_
                                        rotate_left
                                        · show Act.put _ (some 8) _ = _
                                          simp only [Act.put, List.setIfInBounds_toArray, List.set_cons_zero, List.set_cons_succ, i64_w, i32_w]
                                          rfl
                                        refine one_ (i := 9) (N := some 7) #[true, true, true, true, true, true, true, true, true, true, true, false, false] rfl rfl (one_of HT_.out (by kernel_rfl)) (by decide) (fun K hK => ?_)
                                        refine box_step ?hg (N := 7) ?hd (cs := #[.int .i64 0, .int .i64 0, .int .i64 0]) (t := 33) ?hr ?_; (case hd => rfl); (case hg => rfl); (case hr => first | (go_simp; done) | (go_simp; rfl))
                                        intro gb330 hg w26 hbox hb
                                        have HS0_ := (hb.cell (World.block_lt_of_cell? _ _ (hHeld.1))).trans (hHeld.1)
                                        have HS1_ := (hb.cell (World.block_lt_of_cell? _ _ (hHeld.2.1))).trans (hHeld.2.1)
                                        have HS2_ := (hb.cell (World.block_lt_of_cell? _ _ (hHeld.2.2.1))).trans (hHeld.2.2.1)
                                        have HS3_ := (hb.cell (World.block_lt_of_cell? _ _ (hHeld.2.2.2.1))).trans (hHeld.2.2.2.1)
                                        have HS4_ := (hb.cell (World.block_lt_of_cell? _ _ (hHeld.2.2.2.2.1))).trans (hHeld.2.2.2.2.1)
                                        have HS5_ := (hb.cell (World.block_lt_of_cell? _ _ (hHeld.2.2.2.2.2))).trans (hHeld.2.2.2.2.2)
                                        have n0_ := Aside0.mk (Kd.R_below (Kd.R_elderB (by (with_reducible repeat (first | apply Kd.R_alloc | apply Kd.R_drewN | apply Kd.R_drew)); exact HO_4.out) gb330 (Nat.le_of_eq hg.symm)) hb)
                                        have n1_ := Aside0.mk (blk_below (g := gb331) (o := .cells #[.int .i64 0, .int .i64 0, .int .i64 0] 33 (0, 0)) (by (with_reducible repeat (first | refine blk_drewN ?_ _ | refine blk_drew ?_ | refine blk_alloc ?_ _)); exact BK331.out) hb)
                                        have n2_ := Aside0.mk (below_step (by repeat (first | (with_reducible first | exact HB.out | apply below_alloc | apply pw_below_drewN | apply below_drew1 | refine below_set ?_ GE331.out) | exact HB.out)) hb)
                                        have n3_ := Aside0.mk (hbox)
                                        have n4_ := Aside0.mk ((by rw [hg]; exact (below_size (by repeat (first | (with_reducible first | exact HB.out | apply below_alloc | apply pw_below_drewN | apply below_drew1 | refine below_set ?_ GE331.out) | exact HB.out))) : w.heap.size ≤ gb330))
                                        have n5_ := Aside0.mk ((by rw [hg]; exact (below_size (by repeat (first | (with_reducible first | exact HB.out | apply below_alloc | apply pw_below_drewN | apply below_drew1 | refine below_set ?_ GE331.out) | exact HB.out))) : w.heap.size ≤ gb330))
                                        have n6_ := Aside0.mk ((by rw [hg]; exact Nat.ne_of_lt (blk_lt (g := gb331) (o := .cells #[.int .i64 0, .int .i64 0, .int .i64 0] 33 (0, 0)) (by (with_reducible repeat (first | refine blk_drewN ?_ _ | refine blk_drew ?_ | refine blk_alloc ?_ _)); exact BK331.out)) : gb331 ≠ gb330))
                                        have n7_ := Aside0.mk ((by rw [hg]; exact Nat.ne_of_gt (blk_lt (g := gb331) (o := .cells #[.int .i64 0, .int .i64 0, .int .i64 0] 33 (0, 0)) (by (with_reducible repeat (first | refine blk_drewN ?_ _ | refine blk_drew ?_ | refine blk_alloc ?_ _)); exact BK331.out)) : gb330 ≠ gb331))
                                        clear HO_4 BK331 HB
                                        have HO_4 := n0_
                                        have BK331 := n1_
                                        have HB := n2_
                                        have BK330 := n3_
                                        have GW330 := n4_
                                        have GE330 := n5_
                                        have NB331_330 := n6_
                                        have NB330_331 := n7_
                                        clear n0_ n1_ n2_ n3_ n4_ n5_ n6_ n7_
                                        clear hb hbox hg
                                        refine hK.out _ _ ⟨HS0_, HS1_, HS2_, HS3_, HS4_, HS5_⟩ (fun hHeld => ?_)
                                        clear hK K
                                        refine norm_ (a' := ?_) ?_ ?_
                                        rotate_left
                                        · show Act.put _ (some 7) _ = _
                                          simp only [Act.put, List.setIfInBounds_toArray, List.set_cons_zero, List.set_cons_succ, i64_w, i32_w]
                                          rfl
                                        exact norm_ (by simp only [putAll, Act.put, List.setIfInBounds_toArray, List.set_cons_zero, List.set_cons_succ]) (hCont (gb330, gb331) _ ⟨hHeld, (by (with_reducible repeat (first | apply Kd.R_alloc | apply Kd.R_drewN | apply Kd.R_drew)); exact Kd.R_mono HO_4.out (fun _ hk => ⟨hk.2, hk.1.2⟩)), (by (with_reducible repeat (first | refine blk_drewN ?_ _ | refine blk_drew ?_ | refine blk_alloc ?_ _)); exact BK330.out), (by (with_reducible repeat (first | refine blk_drewN ?_ _ | refine blk_drew ?_ | refine blk_alloc ?_ _)); exact BK331.out), GW330.out, GE330.out, NB331_330.out, NB330_331.out, GW331.out, GE331.out, (by repeat (first | (with_reducible first | exact HB.out | apply below_alloc | apply pw_below_drewN | apply below_drew1 | refine below_set ?_ GE331.out | refine below_set ?_ GE330.out) | exact HB.out))⟩)
                                    rintro ⟨gb330, gb331⟩ w27 ⟨hS_, h0_, h1_, h2_, h3_, h4_, h5_, h6_, h7_, h8_, h9_⟩
                                    have n0_ : Aside0 (Kd.R k33 33 w27 w.heap.size (fun k_ => k_ ≠ gb330 ∧ k_ ≠ gb331) (.slice (some ad328) t324.length co23) t324) := ⟨h0_⟩
                                    have n1_ : Aside0 (w27.heap[gb330]? = some (.cells #[.int .i64 0, .int .i64 0, .int .i64 0] 33 (0, 0))) := ⟨h1_⟩
                                    have n2_ : Aside0 (w27.heap[gb331]? = some (.cells #[.int .i64 0, .int .i64 0, .int .i64 0] 33 (0, 0))) := ⟨h2_⟩
                                    have n3_ : Aside0 (w.heap.size ≤ gb330) := ⟨h3_⟩
                                    have n4_ : Aside0 (w.heap.size ≤ gb330) := ⟨h4_⟩
                                    have n5_ : Aside0 (gb331 ≠ gb330) := ⟨h5_⟩
                                    have n6_ : Aside0 (gb330 ≠ gb331) := ⟨h6_⟩
                                    have n7_ : Aside0 (w.heap.size ≤ gb331) := ⟨h7_⟩
                                    have n8_ : Aside0 (w.heap.size ≤ gb331) := ⟨h8_⟩
                                    have n9_ : Aside0 (Below w.heap.size w w27) := ⟨h9_⟩
                                    clear HO_4
                                    clear HB
                                    clear h0_ h1_ h2_ h3_ h4_ h5_ h6_ h7_ h8_ h9_
                                    have HO_4 := n0_
                                    have BK330 := n1_
                                    have BK331 := n2_
                                    have GW330 := n3_
                                    have GE330 := n4_
                                    have NB331_330 := n5_
                                    have NB330_331 := n6_
                                    have GW331 := n7_
                                    have GE331 := n8_
                                    have HB := n9_
                                    clear n0_ n1_ n2_ n3_ n4_ n5_ n6_ n7_ n8_ n9_
                                    have hHeld : w27.cell? (ad328.add (((ji14)).toNat * 3)) = some (.int .i64 ((rd_T33 t324 (ji14)).f0)) ∧ w27.cell? ⟨(ad328.add (((ji14)).toNat * 3)).block, (ad328.add (((ji14)).toNat * 3)).off + 1, none⟩ = some (.int .i64 ((rd_T33 t324 (ji14)).f1)) ∧ w27.cell? ⟨(ad328.add (((ji14)).toNat * 3)).block, (ad328.add (((ji14)).toNat * 3)).off + 2, none⟩ = some (.int .i64 ((rd_T33 t324 (ji14)).f2)) ∧ w27.cell? (ad328.add ((x6_3).toNat * 3)) = some (.int .i64 ((rd_T33 t324 x6_3).f0)) ∧ w27.cell? ⟨(ad328.add ((x6_3).toNat * 3)).block, (ad328.add ((x6_3).toNat * 3)).off + 1, none⟩ = some (.int .i64 ((rd_T33 t324 x6_3).f1)) ∧ w27.cell? ⟨(ad328.add ((x6_3).toNat * 3)).block, (ad328.add ((x6_3).toNat * 3)).off + 2, none⟩ = some (.int .i64 ((rd_T33 t324 x6_3).f2)) := hS_
                                    refine norm_ (a' := ?_) ?_ ?_
                                    rotate_left
                                    · simp only [putAll, Act.put, List.setIfInBounds_toArray, List.set_cons_zero, List.set_cons_succ]
                                      rfl
                                    refine one_ (i := 11) (N := none) #[true, true, true, true, true, true, true, true, true, true, true, true, false] rfl rfl (one_of HT_.out (by kernel_rfl)) (by decide) (fun K hK => ?_)
                                    have hs28 : w27.cell? ⟨gb330, 0, none⟩ = some (.int .i64 0) := (blk_cell BK330.out 0).trans rfl
                                    have hfs28 := blk_frozen BK330.out 0
                                    have hns28_1 := NB331_330.out
                                    have hms28_1 := NB330_331.out
                                    have hs29 : w27.cell? ⟨gb330, 1, none⟩ = some (.int .i64 0) := (blk_cell BK330.out 1).trans rfl
                                    have hfs29 := blk_frozen BK330.out 1
                                    have hns29_1 := NB331_330.out
                                    have hms29_1 := NB330_331.out
                                    have hs30 : w27.cell? ⟨gb330, 2, none⟩ = some (.int .i64 0) := (blk_cell BK330.out 2).trans rfl
                                    have hfs30 := blk_frozen BK330.out 2
                                    have hns30_1 := NB331_330.out
                                    have hms30_1 := NB330_331.out
                                    refine skip_ (w1 := ?_) (by rfl) rfl ?_ ?_
                                    rotate_left
                                    · go_simp
                                      rfl
                                    refine hK.out _ _ ⟨((cell_far (p := ⟨gb330, _, none⟩) (by exact far_ (Kd.own_blk (Kd.R_away HO_4.out (fun _ hk => hk.1)))) _).trans (((cell_far (p := ⟨gb330, _, none⟩) (by exact far_ (Kd.own_blk (Kd.R_away HO_4.out (fun _ hk => hk.1)))) _).trans (((cell_far (p := ⟨gb330, _, none⟩) (by exact far_ (Kd.own_blk (Kd.R_away HO_4.out (fun _ hk => hk.1)))) _).trans (hHeld.1)))))), ((cell_far (p := ⟨gb330, _, none⟩) (by exact far_ (Kd.own_blk (Kd.R_away HO_4.out (fun _ hk => hk.1)))) _).trans (((cell_far (p := ⟨gb330, _, none⟩) (by exact far_ (Kd.own_blk (Kd.R_away HO_4.out (fun _ hk => hk.1)))) _).trans (((cell_far (p := ⟨gb330, _, none⟩) (by exact far_ (Kd.own_blk (Kd.R_away HO_4.out (fun _ hk => hk.1)))) _).trans (hHeld.2.1)))))), ((cell_far (p := ⟨gb330, _, none⟩) (by exact far_ (Kd.own_blk (Kd.R_away HO_4.out (fun _ hk => hk.1)))) _).trans (((cell_far (p := ⟨gb330, _, none⟩) (by exact far_ (Kd.own_blk (Kd.R_away HO_4.out (fun _ hk => hk.1)))) _).trans (((cell_far (p := ⟨gb330, _, none⟩) (by exact far_ (Kd.own_blk (Kd.R_away HO_4.out (fun _ hk => hk.1)))) _).trans (hHeld.2.2.1)))))), ((cell_far (p := ⟨gb330, _, none⟩) (by exact far_ (Kd.own_blk (Kd.R_away HO_4.out (fun _ hk => hk.1)))) _).trans (((cell_far (p := ⟨gb330, _, none⟩) (by exact far_ (Kd.own_blk (Kd.R_away HO_4.out (fun _ hk => hk.1)))) _).trans (((cell_far (p := ⟨gb330, _, none⟩) (by exact far_ (Kd.own_blk (Kd.R_away HO_4.out (fun _ hk => hk.1)))) _).trans (hHeld.2.2.2.1)))))), ((cell_far (p := ⟨gb330, _, none⟩) (by exact far_ (Kd.own_blk (Kd.R_away HO_4.out (fun _ hk => hk.1)))) _).trans (((cell_far (p := ⟨gb330, _, none⟩) (by exact far_ (Kd.own_blk (Kd.R_away HO_4.out (fun _ hk => hk.1)))) _).trans (((cell_far (p := ⟨gb330, _, none⟩) (by exact far_ (Kd.own_blk (Kd.R_away HO_4.out (fun _ hk => hk.1)))) _).trans (hHeld.2.2.2.2.1)))))), ((cell_far (p := ⟨gb330, _, none⟩) (by exact far_ (Kd.own_blk (Kd.R_away HO_4.out (fun _ hk => hk.1)))) _).trans (((cell_far (p := ⟨gb330, _, none⟩) (by exact far_ (Kd.own_blk (Kd.R_away HO_4.out (fun _ hk => hk.1)))) _).trans (((cell_far (p := ⟨gb330, _, none⟩) (by exact far_ (Kd.own_blk (Kd.R_away HO_4.out (fun _ hk => hk.1)))) _).trans (hHeld.2.2.2.2.2))))))⟩ (fun hHeld => ?_)
                                    clear hK K
                                    refine one_ (i := 12) (N := none) #[true, true, true, true, true, true, true, true, true, true, true, true, true] rfl rfl (one_of HT_.out (by kernel_rfl)) (by decide) (fun K hK => ?_)
                                    have hs31 : w27.cell? ⟨gb331, 0, none⟩ = some (.int .i64 0) := (blk_cell BK331.out 0).trans rfl
                                    have hfs31 := blk_frozen BK331.out 0
                                    have hns31_0 := NB330_331.out
                                    have hms31_0 := NB331_330.out
                                    have hs32 : w27.cell? ⟨gb331, 1, none⟩ = some (.int .i64 0) := (blk_cell BK331.out 1).trans rfl
                                    have hfs32 := blk_frozen BK331.out 1
                                    have hns32_0 := NB330_331.out
                                    have hms32_0 := NB331_330.out
                                    have hs33 : w27.cell? ⟨gb331, 2, none⟩ = some (.int .i64 0) := (blk_cell BK331.out 2).trans rfl
                                    have hfs33 := blk_frozen BK331.out 2
                                    have hns33_0 := NB330_331.out
                                    have hms33_0 := NB331_330.out
                                    refine skip_ (w1 := ?_) (by rfl) rfl ?_ ?_
                                    rotate_left
                                    · go_simp
                                      rfl
                                    refine hK.out _ _ ⟨((cell_far (p := ⟨gb331, _, none⟩) (by exact far_ (Kd.own_blk (Kd.R_away HO_4.out (fun _ hk => hk.2)))) _).trans (((cell_far (p := ⟨gb331, _, none⟩) (by exact far_ (Kd.own_blk (Kd.R_away HO_4.out (fun _ hk => hk.2)))) _).trans (((cell_far (p := ⟨gb331, _, none⟩) (by exact far_ (Kd.own_blk (Kd.R_away HO_4.out (fun _ hk => hk.2)))) _).trans (hHeld.1)))))), ((cell_far (p := ⟨gb331, _, none⟩) (by exact far_ (Kd.own_blk (Kd.R_away HO_4.out (fun _ hk => hk.2)))) _).trans (((cell_far (p := ⟨gb331, _, none⟩) (by exact far_ (Kd.own_blk (Kd.R_away HO_4.out (fun _ hk => hk.2)))) _).trans (((cell_far (p := ⟨gb331, _, none⟩) (by exact far_ (Kd.own_blk (Kd.R_away HO_4.out (fun _ hk => hk.2)))) _).trans (hHeld.2.1)))))), ((cell_far (p := ⟨gb331, _, none⟩) (by exact far_ (Kd.own_blk (Kd.R_away HO_4.out (fun _ hk => hk.2)))) _).trans (((cell_far (p := ⟨gb331, _, none⟩) (by exact far_ (Kd.own_blk (Kd.R_away HO_4.out (fun _ hk => hk.2)))) _).trans (((cell_far (p := ⟨gb331, _, none⟩) (by exact far_ (Kd.own_blk (Kd.R_away HO_4.out (fun _ hk => hk.2)))) _).trans (hHeld.2.2.1)))))), ((cell_far (p := ⟨gb331, _, none⟩) (by exact far_ (Kd.own_blk (Kd.R_away HO_4.out (fun _ hk => hk.2)))) _).trans (((cell_far (p := ⟨gb331, _, none⟩) (by exact far_ (Kd.own_blk (Kd.R_away HO_4.out (fun _ hk => hk.2)))) _).trans (((cell_far (p := ⟨gb331, _, none⟩) (by exact far_ (Kd.own_blk (Kd.R_away HO_4.out (fun _ hk => hk.2)))) _).trans (hHeld.2.2.2.1)))))), ((cell_far (p := ⟨gb331, _, none⟩) (by exact far_ (Kd.own_blk (Kd.R_away HO_4.out (fun _ hk => hk.2)))) _).trans (((cell_far (p := ⟨gb331, _, none⟩) (by exact far_ (Kd.own_blk (Kd.R_away HO_4.out (fun _ hk => hk.2)))) _).trans (((cell_far (p := ⟨gb331, _, none⟩) (by exact far_ (Kd.own_blk (Kd.R_away HO_4.out (fun _ hk => hk.2)))) _).trans (hHeld.2.2.2.2.1)))))), ((cell_far (p := ⟨gb331, _, none⟩) (by exact far_ (Kd.own_blk (Kd.R_away HO_4.out (fun _ hk => hk.2)))) _).trans (((cell_far (p := ⟨gb331, _, none⟩) (by exact far_ (Kd.own_blk (Kd.R_away HO_4.out (fun _ hk => hk.2)))) _).trans (((cell_far (p := ⟨gb331, _, none⟩) (by exact far_ (Kd.own_blk (Kd.R_away HO_4.out (fun _ hk => hk.2)))) _).trans (hHeld.2.2.2.2.2))))))⟩ (fun hHeld => ?_)
                                    clear hK K
                                    refine done_ (done_of HT_.out (by kernel_rfl)) ?_
                                    have hnb34 := NB330_331.out
                                    have hnc34 := NB331_330.out
                                    have hcz35_0 : w27.cell? ⟨gb330, 0, none⟩ = some (.int .i64 0) := (blk_cell BK330.out 0).trans rfl
                                    have hcz35_1 : w27.cell? ⟨gb330, 1, none⟩ = some (.int .i64 0) := (blk_cell BK330.out 1).trans rfl
                                    have hcz35_2 : w27.cell? ⟨gb330, 2, none⟩ = some (.int .i64 0) := (blk_cell BK330.out 2).trans rfl
                                    have hfz35_0 := blk_frozen BK330.out 0
                                    have hfz35_1 := blk_frozen BK330.out 1
                                    have hfz35_2 := blk_frozen BK330.out 2
                                    have hcz36_0 : w27.cell? ⟨gb331, 0, none⟩ = some (.int .i64 0) := (blk_cell BK331.out 0).trans rfl
                                    have hcz36_1 : w27.cell? ⟨gb331, 1, none⟩ = some (.int .i64 0) := (blk_cell BK331.out 1).trans rfl
                                    have hcz36_2 : w27.cell? ⟨gb331, 2, none⟩ = some (.int .i64 0) := (blk_cell BK331.out 2).trans rfl
                                    have hfz36_0 := blk_frozen BK331.out 0
                                    have hfz36_1 := blk_frozen BK331.out 1
                                    have hfz36_2 := blk_frozen BK331.out 2
                                    try go_wp2
                                    go_roundg k3
                                    case measure => have := HJ2.out; have := HJ7.out; have := HK3.out; omega
                                    case rel => exact ⟨(wrap64 (x6_3 + 1)), (by first | rfl | (simp; done) | (simp [*]; done)), H', ⟨by have := HJ2.out; have := HJ7.out; have := HK3.out; omega⟩, ⟨by (with_reducible repeat (first | apply Kd.R_alloc | apply Kd.R_drewN | apply Kd.R_drew)); exact Kd.R_mono (Kd.R_far (p := ⟨gb331, 2, none⟩) (Kd.R_far (p := ⟨gb331, 1, none⟩) (Kd.R_far (p := ⟨gb331, 0, none⟩) (Kd.R_far (p := ⟨gb330, 2, none⟩) (Kd.R_far (p := ⟨gb330, 1, none⟩) (Kd.R_far (p := ⟨gb330, 0, none⟩) (Kd.R_mono (Kd.R_mono HO_4.out (fun k_ hk => (⟨hk, hk.1⟩ : _ ∧ k_ ≠ gb330))) (fun k_ hk => (⟨hk, hk.1.2⟩ : _ ∧ k_ ≠ gb331))) (fun _ hk => hk.1.2) (.int .i64 ((rd_T33 t324 (ji14)).f0))) (fun _ hk => hk.1.2) (.int .i64 ((rd_T33 t324 (ji14)).f1))) (fun _ hk => hk.1.2) (.int .i64 ((rd_T33 t324 (ji14)).f2))) (fun _ hk => hk.2) (.int .i64 ((rd_T33 t324 x6_3).f0))) (fun _ hk => hk.2) (.int .i64 ((rd_T33 t324 x6_3).f1))) (fun _ hk => hk.2) (.int .i64 ((rd_T33 t324 x6_3).f2))) (fun _ hk => trivial)⟩, ⟨by repeat (first | (with_reducible first | exact HB.out | apply below_alloc | apply pw_below_drewN | apply below_drew1 | refine below_set ?_ GE330.out | refine below_set ?_ GE331.out) | exact HB.out)⟩⟩
                                · rw [if_neg c21] at H
                                  have c21b0 : (((rd_T33 t324 (ji14)).f0) == ((rd_T33 t324 x6_3).f0)) = false := beq_eq_false_iff_ne.mpr c21
                                  have c21b1 : (((rd_T33 t324 (ji14)).f0) != ((rd_T33 t324 x6_3).f0)) = true := bne_iff_ne.mpr c21
                                  have H' := Aside0.mk H
                                  clear H
                                  obtain ⟨Ao37, co37, eo37⟩ := Kd.R_slice HO_4.out
                                  subst eo37
                                  try go_wp2
                                  have n0_ := Aside0.mk (Kd.R_drew HO_4.out)
                                  have n1_ := Aside0.mk (below_drew1 HB.out)
                                  clear HO_4 HB
                                  have HO_4 := n0_
                                  have HB := n1_
                                  clear n0_ n1_
                                  have p328 : 0 ≤ ((ji14) : Int) := of_decide_eq_true (by first | (with_reducible assumption) | assumption)
                                  have q328 : (ji14) < (t324.length : Int) := of_decide_eq_true (by first | (with_reducible assumption) | assumption)
                                  obtain ⟨ad328, e328, hx328_0, hx328_1, hx328_2⟩ := at_T33 (Kd.R_reads' HO_4.out).2.2 (ji14) p328 q328
                                  cases e328
                                  replace p328 := eq_true p328
                                  replace q328 := eq_true q328
                                  have p329 : 0 ≤ (x6_3 : Int) := of_decide_eq_true (by first | (with_reducible assumption) | assumption)
                                  have q329 : x6_3 < (t324.length : Int) := of_decide_eq_true (by first | (with_reducible assumption) | assumption)
                                  obtain ⟨ad329, e329, hx329_0, hx329_1, hx329_2⟩ := at_T33 (Kd.R_reads' HO_4.out).2.2 x6_3 p329 q329
                                  obtain rfl : ad328 = ad329 := (by injection e329)
                                  replace p329 := eq_true p329
                                  replace q329 := eq_true q329
                                  refine start_ (n := 13) (S := fun w' => w'.cell? (ad328.add (((ji14)).toNat * 3)) = some (.int .i64 ((rd_T33 t324 (ji14)).f0)) ∧ w'.cell? ⟨(ad328.add (((ji14)).toNat * 3)).block, (ad328.add (((ji14)).toNat * 3)).off + 1, none⟩ = some (.int .i64 ((rd_T33 t324 (ji14)).f1)) ∧ w'.cell? ⟨(ad328.add (((ji14)).toNat * 3)).block, (ad328.add (((ji14)).toNat * 3)).off + 2, none⟩ = some (.int .i64 ((rd_T33 t324 (ji14)).f2)) ∧ w'.cell? (ad328.add ((x6_3).toNat * 3)) = some (.int .i64 ((rd_T33 t324 x6_3).f0)) ∧ w'.cell? ⟨(ad328.add ((x6_3).toNat * 3)).block, (ad328.add ((x6_3).toNat * 3)).off + 1, none⟩ = some (.int .i64 ((rd_T33 t324 x6_3).f1)) ∧ w'.cell? ⟨(ad328.add ((x6_3).toNat * 3)).block, (ad328.add ((x6_3).toNat * 3)).off + 2, none⟩ = some (.int .i64 ((rd_T33 t324 x6_3).f2))) (ds := []) #[false, false, false, false, false, false, false, false, false, false, false, false, false] (by kernel_rfl) rfl rfl ⟨hx328_0, hx328_1, hx328_2, hx329_0, hx329_1, hx329_2⟩ (fun hHeld => ?_); refine with_tabW tailwaterlaw34_SinkLate.tab10 tailwaterlaw34_SinkLate.bits10 (fun HT_ HW_ => ?_)
                                  generalize wr.drew = w38 at HO_4 HB hx328_0 hx328_1 hx328_2 hx329_0 hx329_1 hx329_2 hHeld ⊢
                                  refine pure_ (i := 0) (N := some 42) (v := ?_) (a' := ?_) #[true, false, false, false, false, false, false, false, false, false, false, false, false] rfl rfl (any_of HT_.out (by kernel_rfl)) (fun _ _ _ h => h) (Or.inl ⟨by rfl, ?_⟩) ?_ ?_
                                  rotate_left
                                  · intro w'
                                    go_simp
                                    with_reducible rfl
                                  rotate_left
                                  · simp only [Act.put, List.setIfInBounds_toArray, List.set_cons_zero, List.set_cons_succ, i64_w, i32_w]
                                    rfl
                                  refine pure_ (i := 1) (N := some 43) (v := ?_) (a' := ?_) #[true, true, false, false, false, false, false, false, false, false, false, false, false] rfl rfl (any_of HT_.out (by kernel_rfl)) (fun _ _ _ h => h) (Or.inl ⟨by rfl, ?_⟩) ?_ ?_
                                  rotate_left
                                  · intro w'
                                    go_simp
                                    with_reducible rfl
                                  rotate_left
                                  · simp only [Act.put, List.setIfInBounds_toArray, List.set_cons_zero, List.set_cons_succ, i64_w, i32_w]
                                    rfl
                                  refine pure_ (i := 2) (N := some 44) (v := ?_) (a' := ?_) #[true, true, true, false, false, false, false, false, false, false, false, false, false] rfl rfl (any_of HT_.out (by kernel_rfl)) (fun _ _ _ h => h) (Or.inl ⟨by rfl, ?_⟩) ?_ ?_
                                  rotate_left
                                  · intro w'
                                    go_simp
                                    with_reducible rfl
                                  rotate_left
                                  · simp only [Act.put, List.setIfInBounds_toArray, List.set_cons_zero, List.set_cons_succ, i64_w, i32_w]
                                    rfl
                                  refine pure_ (i := 3) (N := some 45) (v := ?_) (a' := ?_) #[true, true, true, true, false, false, false, false, false, false, false, false, false] rfl rfl (any_of HT_.out (by kernel_rfl)) (fun _ _ _ h => h) (Or.inl ⟨by rfl, ?_⟩) ?_ ?_
                                  rotate_left
                                  · intro w'
                                    go_simp
                                    with_reducible rfl
                                  rotate_left
                                  · simp only [Act.put, List.setIfInBounds_toArray, List.set_cons_zero, List.set_cons_succ, i64_w, i32_w]
                                    rfl
                                  refine pure_ (i := 5) (N := some 47) (v := ?_) (a' := ?_) #[true, true, true, true, false, true, false, false, false, false, false, false, false] rfl rfl (any_of HT_.out (by kernel_rfl)) (fun _ _ _ h => h) (Or.inl ⟨by rfl, ?_⟩) ?_ ?_
                                  rotate_left
                                  · intro w'
                                    go_simp
                                    with_reducible rfl
                                  rotate_left
                                  · simp only [Act.put, List.setIfInBounds_toArray, List.set_cons_zero, List.set_cons_succ, i64_w, i32_w]
                                    rfl
                                  refine pure_ (i := 6) (N := some 48) (v := ?_) (a' := ?_) #[true, true, true, true, false, true, true, false, false, false, false, false, false] rfl rfl (any_of HT_.out (by kernel_rfl)) (fun _ _ _ h => h) (Or.inl ⟨by rfl, ?_⟩) ?_ ?_
                                  rotate_left
                                  · intro w'
                                    go_simp
                                    with_reducible rfl
                                  rotate_left
                                  · simp only [Act.put, List.setIfInBounds_toArray, List.set_cons_zero, List.set_cons_succ, i64_w, i32_w]
                                    rfl
                                  refine pure_ (i := 7) (N := some 49) (v := ?_) (a' := ?_) #[true, true, true, true, false, true, true, true, false, false, false, false, false] rfl rfl (any_of HT_.out (by kernel_rfl)) (fun _ _ _ h => h) (Or.inl ⟨by rfl, ?_⟩) ?_ ?_
                                  rotate_left
                                  · intro w'
                                    go_simp
                                    with_reducible rfl
                                  rotate_left
                                  · simp only [Act.put, List.setIfInBounds_toArray, List.set_cons_zero, List.set_cons_succ, i64_w, i32_w]
                                    rfl
                                  refine take_ (i := 4) (N := some 46) (v := ?_) (a' := ?_) #[true, true, true, true, true, true, true, true, false, false, false, false, false] rfl rfl (take_ofW HT_.out HW_.out (by kernel_rfl)) (fun _ _ _ h => h) (Or.inl ⟨by rfl, ?_⟩) hHeld ?_ ?_
                                  rotate_left
                                  · rintro w' ⟨s0, s1, s2, s3, s4, s5⟩
                                    go_simp
                                    with_reducible rfl
                                  rotate_left
                                  · simp only [Act.put, List.setIfInBounds_toArray, List.set_cons_zero, List.set_cons_succ, i64_w, i32_w]
                                    rfl
                                  refine take_ (i := 8) (N := some 50) (v := ?_) (a' := ?_) #[true, true, true, true, true, true, true, true, true, false, false, false, false] rfl rfl (take_ofW HT_.out HW_.out (by kernel_rfl)) (fun _ _ _ h => h) (Or.inl ⟨by rfl, ?_⟩) hHeld ?_ ?_
                                  rotate_left
                                  · rintro w' ⟨s0, s1, s2, s3, s4, s5⟩
                                    go_simp
                                    with_reducible rfl
                                  rotate_left
                                  · simp only [Act.put, List.setIfInBounds_toArray, List.set_cons_zero, List.set_cons_succ, i64_w, i32_w]
                                    rfl
                                  refine join_ (σ := Nat × Nat) 2 #[true, true, true, true, true, true, true, true, true, true, true, false, false] (fun s_ => [(7, .pointer (some ⟨s_.1, 0, none⟩)), (8, .pointer (some ⟨s_.2, 0, none⟩))]) (fun s_ w' => (w'.cell? (ad328.add (((ji14)).toNat * 3)) = some (.int .i64 ((rd_T33 t324 (ji14)).f0)) ∧ w'.cell? ⟨(ad328.add (((ji14)).toNat * 3)).block, (ad328.add (((ji14)).toNat * 3)).off + 1, none⟩ = some (.int .i64 ((rd_T33 t324 (ji14)).f1)) ∧ w'.cell? ⟨(ad328.add (((ji14)).toNat * 3)).block, (ad328.add (((ji14)).toNat * 3)).off + 2, none⟩ = some (.int .i64 ((rd_T33 t324 (ji14)).f2)) ∧ w'.cell? (ad328.add ((x6_3).toNat * 3)) = some (.int .i64 ((rd_T33 t324 x6_3).f0)) ∧ w'.cell? ⟨(ad328.add ((x6_3).toNat * 3)).block, (ad328.add ((x6_3).toNat * 3)).off + 1, none⟩ = some (.int .i64 ((rd_T33 t324 x6_3).f1)) ∧ w'.cell? ⟨(ad328.add ((x6_3).toNat * 3)).block, (ad328.add ((x6_3).toNat * 3)).off + 2, none⟩ = some (.int .i64 ((rd_T33 t324 x6_3).f2))) ∧ (Kd.R k33 33 w' w.heap.size (fun k_ => k_ ≠ s_.1 ∧ k_ ≠ s_.2) (.slice (some ad328) t324.length co37) t324) ∧ (w'.heap[s_.1]? = some (.cells #[.int .i64 0, .int .i64 0, .int .i64 0] 33 (0, 0))) ∧ (w'.heap[s_.2]? = some (.cells #[.int .i64 0, .int .i64 0, .int .i64 0] 33 (0, 0))) ∧ (w.heap.size ≤ s_.1) ∧ (w.heap.size ≤ s_.1) ∧ (s_.2 ≠ s_.1) ∧ (s_.1 ≠ s_.2) ∧ (w.heap.size ≤ s_.2) ∧ (w.heap.size ≤ s_.2) ∧ (Below w.heap.size w w')) ?_ ?_
                                  rotate_left
                                  · intro hCont
                                    refine two_ (i := 9) (j := 10) (Ni := some 7) (Nj := some 8) #[true, true, true, true, true, true, true, true, true, true, false, false, false] #[true, true, true, true, true, true, true, true, true, false, true, false, false] rfl rfl rfl rfl (two_of HT_.out (by kernel_rfl)) (by decide) (by decide) (fun K hK => ?_) (fun K hK => ?_)
                                    · skip
                                      refine box_step ?hg (N := 7) ?hd (cs := #[.int .i64 0, .int .i64 0, .int .i64 0]) (t := 33) ?hr ?_; (case hd => rfl); (case hg => rfl); (case hr => first | (go_simp; done) | (go_simp; rfl))
                                      intro gb330 hg w39 hbox hb
                                      have HS0_ := (hb.cell (World.block_lt_of_cell? _ _ (hHeld.1))).trans (hHeld.1)
                                      have HS1_ := (hb.cell (World.block_lt_of_cell? _ _ (hHeld.2.1))).trans (hHeld.2.1)
                                      have HS2_ := (hb.cell (World.block_lt_of_cell? _ _ (hHeld.2.2.1))).trans (hHeld.2.2.1)
                                      have HS3_ := (hb.cell (World.block_lt_of_cell? _ _ (hHeld.2.2.2.1))).trans (hHeld.2.2.2.1)
                                      have HS4_ := (hb.cell (World.block_lt_of_cell? _ _ (hHeld.2.2.2.2.1))).trans (hHeld.2.2.2.2.1)
                                      have HS5_ := (hb.cell (World.block_lt_of_cell? _ _ (hHeld.2.2.2.2.2))).trans (hHeld.2.2.2.2.2)
                                      have n0_ := Aside0.mk (Kd.R_below (Kd.R_elderB (by (with_reducible repeat (first | apply Kd.R_alloc | apply Kd.R_drewN | apply Kd.R_drew)); exact HO_4.out) gb330 (Nat.le_of_eq hg.symm)) hb)
                                      have n1_ := Aside0.mk (below_step (by repeat (first | (with_reducible first | exact HB.out | apply below_alloc | apply pw_below_drewN | apply below_drew1) | exact HB.out)) hb)
                                      have n2_ := Aside0.mk (hbox)
                                      have n3_ := Aside0.mk ((by rw [hg]; exact (below_size (by repeat (first | (with_reducible first | exact HB.out | apply below_alloc | apply pw_below_drewN | apply below_drew1) | exact HB.out))) : w.heap.size ≤ gb330))
                                      have n4_ := Aside0.mk ((by rw [hg]; exact (below_size (by repeat (first | (with_reducible first | exact HB.out | apply below_alloc | apply pw_below_drewN | apply below_drew1) | exact HB.out))) : w.heap.size ≤ gb330))
                                      clear HO_4 HB
                                      have HO_4 := n0_
                                      have HB := n1_
                                      have BK330 := n2_
                                      have GW330 := n3_
                                      have GE330 := n4_
                                      clear n0_ n1_ n2_ n3_ n4_
                                      clear hb hbox hg
                                      refine hK.out _ _ ⟨HS0_, HS1_, HS2_, HS3_, HS4_, HS5_⟩ (fun hHeld => ?_)
                                      clear hK K
                                      refine norm_ (a' := ?_) ?_ ?_
                                      rotate_left
                                      · show Act.put _ (some 7) _ = _
                                        simp only [Act.put, List.setIfInBounds_toArray, List.set_cons_zero, List.set_cons_succ, i64_w, i32_w]
                                        rfl
                                      refine one_ (i := 10) (N := some 8) #[true, true, true, true, true, true, true, true, true, true, true, false, false] rfl rfl (one_of HT_.out (by kernel_rfl)) (by decide) (fun K hK => ?_)
                                      refine box_step ?hg (N := 8) ?hd (cs := #[.int .i64 0, .int .i64 0, .int .i64 0]) (t := 33) ?hr ?_; (case hd => rfl); (case hg => rfl); (case hr => first | (go_simp; done) | (go_simp; rfl))
                                      intro gb331 hg w40 hbox hb
                                      have HS0_ := (hb.cell (World.block_lt_of_cell? _ _ (hHeld.1))).trans (hHeld.1)
                                      have HS1_ := (hb.cell (World.block_lt_of_cell? _ _ (hHeld.2.1))).trans (hHeld.2.1)
                                      have HS2_ := (hb.cell (World.block_lt_of_cell? _ _ (hHeld.2.2.1))).trans (hHeld.2.2.1)
                                      have HS3_ := (hb.cell (World.block_lt_of_cell? _ _ (hHeld.2.2.2.1))).trans (hHeld.2.2.2.1)
                                      have HS4_ := (hb.cell (World.block_lt_of_cell? _ _ (hHeld.2.2.2.2.1))).trans (hHeld.2.2.2.2.1)
                                      have HS5_ := (hb.cell (World.block_lt_of_cell? _ _ (hHeld.2.2.2.2.2))).trans (hHeld.2.2.2.2.2)
                                      have n0_ := Aside0.mk (Kd.R_below (Kd.R_elderB (by (with_reducible repeat (first | apply Kd.R_alloc | apply Kd.R_drewN | apply Kd.R_drew)); exact HO_4.out) gb331 (Nat.le_of_eq hg.symm)) hb)
                                      have n1_ := Aside0.mk (blk_below (g := gb330) (o := .cells #[.int .i64 0, .int .i64 0, .int .i64 0] 33 (0, 0)) (by (with_reducible repeat (first | refine blk_drewN ?_ _ | refine blk_drew ?_ | refine blk_alloc ?_ _)); exact BK330.out) hb)
                                      have n2_ := Aside0.mk (below_step (by repeat (first | (with_reducible first | exact HB.out | apply below_alloc | apply pw_below_drewN | apply below_drew1 | refine below_set ?_ GE330.out) | exact HB.out)) hb)
                                      have n3_ := Aside0.mk (hbox)
                                      have n4_ := Aside0.mk ((by rw [hg]; exact (below_size (by repeat (first | (with_reducible first | exact HB.out | apply below_alloc | apply pw_below_drewN | apply below_drew1 | refine below_set ?_ GE330.out) | exact HB.out))) : w.heap.size ≤ gb331))
                                      have n5_ := Aside0.mk ((by rw [hg]; exact (below_size (by repeat (first | (with_reducible first | exact HB.out | apply below_alloc | apply pw_below_drewN | apply below_drew1 | refine below_set ?_ GE330.out) | exact HB.out))) : w.heap.size ≤ gb331))
                                      have n6_ := Aside0.mk ((by rw [hg]; exact Nat.ne_of_lt (blk_lt (g := gb330) (o := .cells #[.int .i64 0, .int .i64 0, .int .i64 0] 33 (0, 0)) (by (with_reducible repeat (first | refine blk_drewN ?_ _ | refine blk_drew ?_ | refine blk_alloc ?_ _)); exact BK330.out)) : gb330 ≠ gb331))
                                      have n7_ := Aside0.mk ((by rw [hg]; exact Nat.ne_of_gt (blk_lt (g := gb330) (o := .cells #[.int .i64 0, .int .i64 0, .int .i64 0] 33 (0, 0)) (by (with_reducible repeat (first | refine blk_drewN ?_ _ | refine blk_drew ?_ | refine blk_alloc ?_ _)); exact BK330.out)) : gb331 ≠ gb330))
                                      clear HO_4 BK330 HB
                                      have HO_4 := n0_
                                      have BK330 := n1_
                                      have HB := n2_
                                      have BK331 := n3_
                                      have GW331 := n4_
                                      have GE331 := n5_
                                      have NB330_331 := n6_
                                      have NB331_330 := n7_
                                      clear n0_ n1_ n2_ n3_ n4_ n5_ n6_ n7_
                                      clear hb hbox hg
                                      refine hK.out _ _ ⟨HS0_, HS1_, HS2_, HS3_, HS4_, HS5_⟩ (fun hHeld => ?_)
                                      clear hK K
                                      refine norm_ (a' := ?_) ?_ ?_
                                      rotate_left
                                      · show Act.put _ (some 8) _ = _
                                        simp only [Act.put, List.setIfInBounds_toArray, List.set_cons_zero, List.set_cons_succ, i64_w, i32_w]
                                        rfl
                                      exact norm_ (by simp only [putAll, Act.put, List.setIfInBounds_toArray, List.set_cons_zero, List.set_cons_succ]) (hCont (gb330, gb331) _ ⟨hHeld, (by (with_reducible repeat (first | apply Kd.R_alloc | apply Kd.R_drewN | apply Kd.R_drew)); exact Kd.R_mono HO_4.out (fun _ hk => ⟨hk.1.2, hk.2⟩)), (by (with_reducible repeat (first | refine blk_drewN ?_ _ | refine blk_drew ?_ | refine blk_alloc ?_ _)); exact BK330.out), (by (with_reducible repeat (first | refine blk_drewN ?_ _ | refine blk_drew ?_ | refine blk_alloc ?_ _)); exact BK331.out), GW330.out, GE330.out, NB331_330.out, NB330_331.out, GW331.out, GE331.out, (by repeat (first | (with_reducible first | exact HB.out | apply below_alloc | apply pw_below_drewN | apply below_drew1 | refine below_set ?_ GE330.out | refine below_set ?_ GE331.out) | exact HB.out))⟩)
                                    · skip
                                      refine box_step ?hg (N := 8) ?hd (cs := #[.int .i64 0, .int .i64 0, .int .i64 0]) (t := 33) ?hr ?_; (case hd => rfl); (case hg => rfl); (case hr => first | (go_simp; done) | (go_simp; rfl))
                                      intro gb331 hg w39 hbox hb
                                      have HS0_ := (hb.cell (World.block_lt_of_cell? _ _ (hHeld.1))).trans (hHeld.1)
                                      have HS1_ := (hb.cell (World.block_lt_of_cell? _ _ (hHeld.2.1))).trans (hHeld.2.1)
                                      have HS2_ := (hb.cell (World.block_lt_of_cell? _ _ (hHeld.2.2.1))).trans (hHeld.2.2.1)
                                      have HS3_ := (hb.cell (World.block_lt_of_cell? _ _ (hHeld.2.2.2.1))).trans (hHeld.2.2.2.1)
                                      have HS4_ := (hb.cell (World.block_lt_of_cell? _ _ (hHeld.2.2.2.2.1))).trans (hHeld.2.2.2.2.1)
                                      have HS5_ := (hb.cell (World.block_lt_of_cell? _ _ (hHeld.2.2.2.2.2))).trans (hHeld.2.2.2.2.2)
                                      have n0_ := Aside0.mk (Kd.R_below (Kd.R_elderB (by (with_reducible repeat (first | apply Kd.R_alloc | apply Kd.R_drewN | apply Kd.R_drew)); exact HO_4.out) gb331 (Nat.le_of_eq hg.symm)) hb)
                                      have n1_ := Aside0.mk (below_step (by repeat (first | (with_reducible first | exact HB.out | apply below_alloc | apply pw_below_drewN | apply below_drew1) | exact HB.out)) hb)
                                      have n2_ := Aside0.mk (hbox)
                                      have n3_ := Aside0.mk ((by rw [hg]; exact (below_size (by repeat (first | (with_reducible first | exact HB.out | apply below_alloc | apply pw_below_drewN | apply below_drew1) | exact HB.out))) : w.heap.size ≤ gb331))
                                      have n4_ := Aside0.mk ((by rw [hg]; exact (below_size (by repeat (first | (with_reducible first | exact HB.out | apply below_alloc | apply pw_below_drewN | apply below_drew1) | exact HB.out))) : w.heap.size ≤ gb331))
                                      clear HO_4 HB
                                      have HO_4 := n0_
                                      have HB := n1_
                                      have BK331 := n2_
                                      have GW331 := n3_
                                      have GE331 := n4_
                                      clear n0_ n1_ n2_ n3_ n4_
                                      clear hb hbox hg
                                      refine hK.out _ _ ⟨HS0_, HS1_, HS2_, HS3_, HS4_, HS5_⟩ (fun hHeld => ?_)
                                      clear hK K
                                      refine norm_ (a' := ?_) ?_ ?_
                                      rotate_left
                                      · show Act.put _ (some 8) _ = _
                                        simp only [Act.put, List.setIfInBounds_toArray, List.set_cons_zero, List.set_cons_succ, i64_w, i32_w]
                                        rfl
                                      refine one_ (i := 9) (N := some 7) #[true, true, true, true, true, true, true, true, true, true, true, false, false] rfl rfl (one_of HT_.out (by kernel_rfl)) (by decide) (fun K hK => ?_)
                                      refine box_step ?hg (N := 7) ?hd (cs := #[.int .i64 0, .int .i64 0, .int .i64 0]) (t := 33) ?hr ?_; (case hd => rfl); (case hg => rfl); (case hr => first | (go_simp; done) | (go_simp; rfl))
                                      intro gb330 hg w40 hbox hb
                                      have HS0_ := (hb.cell (World.block_lt_of_cell? _ _ (hHeld.1))).trans (hHeld.1)
                                      have HS1_ := (hb.cell (World.block_lt_of_cell? _ _ (hHeld.2.1))).trans (hHeld.2.1)
                                      have HS2_ := (hb.cell (World.block_lt_of_cell? _ _ (hHeld.2.2.1))).trans (hHeld.2.2.1)
                                      have HS3_ := (hb.cell (World.block_lt_of_cell? _ _ (hHeld.2.2.2.1))).trans (hHeld.2.2.2.1)
                                      have HS4_ := (hb.cell (World.block_lt_of_cell? _ _ (hHeld.2.2.2.2.1))).trans (hHeld.2.2.2.2.1)
                                      have HS5_ := (hb.cell (World.block_lt_of_cell? _ _ (hHeld.2.2.2.2.2))).trans (hHeld.2.2.2.2.2)
                                      have n0_ := Aside0.mk (Kd.R_below (Kd.R_elderB (by (with_reducible repeat (first | apply Kd.R_alloc | apply Kd.R_drewN | apply Kd.R_drew)); exact HO_4.out) gb330 (Nat.le_of_eq hg.symm)) hb)
                                      have n1_ := Aside0.mk (blk_below (g := gb331) (o := .cells #[.int .i64 0, .int .i64 0, .int .i64 0] 33 (0, 0)) (by (with_reducible repeat (first | refine blk_drewN ?_ _ | refine blk_drew ?_ | refine blk_alloc ?_ _)); exact BK331.out) hb)
                                      have n2_ := Aside0.mk (below_step (by repeat (first | (with_reducible first | exact HB.out | apply below_alloc | apply pw_below_drewN | apply below_drew1 | refine below_set ?_ GE331.out) | exact HB.out)) hb)
                                      have n3_ := Aside0.mk (hbox)
                                      have n4_ := Aside0.mk ((by rw [hg]; exact (below_size (by repeat (first | (with_reducible first | exact HB.out | apply below_alloc | apply pw_below_drewN | apply below_drew1 | refine below_set ?_ GE331.out) | exact HB.out))) : w.heap.size ≤ gb330))
                                      have n5_ := Aside0.mk ((by rw [hg]; exact (below_size (by repeat (first | (with_reducible first | exact HB.out | apply below_alloc | apply pw_below_drewN | apply below_drew1 | refine below_set ?_ GE331.out) | exact HB.out))) : w.heap.size ≤ gb330))
                                      have n6_ := Aside0.mk ((by rw [hg]; exact Nat.ne_of_lt (blk_lt (g := gb331) (o := .cells #[.int .i64 0, .int .i64 0, .int .i64 0] 33 (0, 0)) (by (with_reducible repeat (first | refine blk_drewN ?_ _ | refine blk_drew ?_ | refine blk_alloc ?_ _)); exact BK331.out)) : gb331 ≠ gb330))
                                      have n7_ := Aside0.mk ((by rw [hg]; exact Nat.ne_of_gt (blk_lt (g := gb331) (o := .cells #[.int .i64 0, .int .i64 0, .int .i64 0] 33 (0, 0)) (by (with_reducible repeat (first | refine blk_drewN ?_ _ | refine blk_drew ?_ | refine blk_alloc ?_ _)); exact BK331.out)) : gb330 ≠ gb331))
                                      clear HO_4 BK331 HB
                                      have HO_4 := n0_
                                      have BK331 := n1_
                                      have HB := n2_
                                      have BK330 := n3_
                                      have GW330 := n4_
                                      have GE330 := n5_
                                      have NB331_330 := n6_
                                      have NB330_331 := n7_
                                      clear n0_ n1_ n2_ n3_ n4_ n5_ n6_ n7_
                                      clear hb hbox hg
                                      refine hK.out _ _ ⟨HS0_, HS1_, HS2_, HS3_, HS4_, HS5_⟩ (fun hHeld => ?_)
                                      clear hK K
                                      refine norm_ (a' := ?_) ?_ ?_
                                      rotate_left
                                      · show Act.put _ (some 7) _ = _
                                        simp only [Act.put, List.setIfInBounds_toArray, List.set_cons_zero, List.set_cons_succ, i64_w, i32_w]
                                        rfl
                                      exact norm_ (by simp only [putAll, Act.put, List.setIfInBounds_toArray, List.set_cons_zero, List.set_cons_succ]) (hCont (gb330, gb331) _ ⟨hHeld, (by (with_reducible repeat (first | apply Kd.R_alloc | apply Kd.R_drewN | apply Kd.R_drew)); exact Kd.R_mono HO_4.out (fun _ hk => ⟨hk.2, hk.1.2⟩)), (by (with_reducible repeat (first | refine blk_drewN ?_ _ | refine blk_drew ?_ | refine blk_alloc ?_ _)); exact BK330.out), (by (with_reducible repeat (first | refine blk_drewN ?_ _ | refine blk_drew ?_ | refine blk_alloc ?_ _)); exact BK331.out), GW330.out, GE330.out, NB331_330.out, NB330_331.out, GW331.out, GE331.out, (by repeat (first | (with_reducible first | exact HB.out | apply below_alloc | apply pw_below_drewN | apply below_drew1 | refine below_set ?_ GE331.out | refine below_set ?_ GE330.out) | exact HB.out))⟩)
                                  rintro ⟨gb330, gb331⟩ w41 ⟨hS_, h0_, h1_, h2_, h3_, h4_, h5_, h6_, h7_, h8_, h9_⟩
                                  have n0_ : Aside0 (Kd.R k33 33 w41 w.heap.size (fun k_ => k_ ≠ gb330 ∧ k_ ≠ gb331) (.slice (some ad328) t324.length co37) t324) := ⟨h0_⟩
                                  have n1_ : Aside0 (w41.heap[gb330]? = some (.cells #[.int .i64 0, .int .i64 0, .int .i64 0] 33 (0, 0))) := ⟨h1_⟩
                                  have n2_ : Aside0 (w41.heap[gb331]? = some (.cells #[.int .i64 0, .int .i64 0, .int .i64 0] 33 (0, 0))) := ⟨h2_⟩
                                  have n3_ : Aside0 (w.heap.size ≤ gb330) := ⟨h3_⟩
                                  have n4_ : Aside0 (w.heap.size ≤ gb330) := ⟨h4_⟩
                                  have n5_ : Aside0 (gb331 ≠ gb330) := ⟨h5_⟩
                                  have n6_ : Aside0 (gb330 ≠ gb331) := ⟨h6_⟩
                                  have n7_ : Aside0 (w.heap.size ≤ gb331) := ⟨h7_⟩
                                  have n8_ : Aside0 (w.heap.size ≤ gb331) := ⟨h8_⟩
                                  have n9_ : Aside0 (Below w.heap.size w w41) := ⟨h9_⟩
                                  clear HO_4
                                  clear HB
                                  clear h0_ h1_ h2_ h3_ h4_ h5_ h6_ h7_ h8_ h9_
                                  have HO_4 := n0_
                                  have BK330 := n1_
                                  have BK331 := n2_
                                  have GW330 := n3_
                                  have GE330 := n4_
                                  have NB331_330 := n5_
                                  have NB330_331 := n6_
                                  have GW331 := n7_
                                  have GE331 := n8_
                                  have HB := n9_
                                  clear n0_ n1_ n2_ n3_ n4_ n5_ n6_ n7_ n8_ n9_
                                  have hHeld : w41.cell? (ad328.add (((ji14)).toNat * 3)) = some (.int .i64 ((rd_T33 t324 (ji14)).f0)) ∧ w41.cell? ⟨(ad328.add (((ji14)).toNat * 3)).block, (ad328.add (((ji14)).toNat * 3)).off + 1, none⟩ = some (.int .i64 ((rd_T33 t324 (ji14)).f1)) ∧ w41.cell? ⟨(ad328.add (((ji14)).toNat * 3)).block, (ad328.add (((ji14)).toNat * 3)).off + 2, none⟩ = some (.int .i64 ((rd_T33 t324 (ji14)).f2)) ∧ w41.cell? (ad328.add ((x6_3).toNat * 3)) = some (.int .i64 ((rd_T33 t324 x6_3).f0)) ∧ w41.cell? ⟨(ad328.add ((x6_3).toNat * 3)).block, (ad328.add ((x6_3).toNat * 3)).off + 1, none⟩ = some (.int .i64 ((rd_T33 t324 x6_3).f1)) ∧ w41.cell? ⟨(ad328.add ((x6_3).toNat * 3)).block, (ad328.add ((x6_3).toNat * 3)).off + 2, none⟩ = some (.int .i64 ((rd_T33 t324 x6_3).f2)) := hS_
                                  refine norm_ (a' := ?_) ?_ ?_
                                  rotate_left
                                  · simp only [putAll, Act.put, List.setIfInBounds_toArray, List.set_cons_zero, List.set_cons_succ]
                                    rfl
                                  refine one_ (i := 11) (N := none) #[true, true, true, true, true, true, true, true, true, true, true, true, false] rfl rfl (one_of HT_.out (by kernel_rfl)) (by decide) (fun K hK => ?_)
                                  have hs42 : w41.cell? ⟨gb330, 0, none⟩ = some (.int .i64 0) := (blk_cell BK330.out 0).trans rfl
                                  have hfs42 := blk_frozen BK330.out 0
                                  have hns42_1 := NB331_330.out
                                  have hms42_1 := NB330_331.out
                                  have hs43 : w41.cell? ⟨gb330, 1, none⟩ = some (.int .i64 0) := (blk_cell BK330.out 1).trans rfl
                                  have hfs43 := blk_frozen BK330.out 1
                                  have hns43_1 := NB331_330.out
                                  have hms43_1 := NB330_331.out
                                  have hs44 : w41.cell? ⟨gb330, 2, none⟩ = some (.int .i64 0) := (blk_cell BK330.out 2).trans rfl
                                  have hfs44 := blk_frozen BK330.out 2
                                  have hns44_1 := NB331_330.out
                                  have hms44_1 := NB330_331.out
                                  refine skip_ (w1 := ?_) (by rfl) rfl ?_ ?_
                                  rotate_left
                                  · go_simp
                                    rfl
                                  refine hK.out _ _ ⟨((cell_far (p := ⟨gb330, _, none⟩) (by exact far_ (Kd.own_blk (Kd.R_away HO_4.out (fun _ hk => hk.1)))) _).trans (((cell_far (p := ⟨gb330, _, none⟩) (by exact far_ (Kd.own_blk (Kd.R_away HO_4.out (fun _ hk => hk.1)))) _).trans (((cell_far (p := ⟨gb330, _, none⟩) (by exact far_ (Kd.own_blk (Kd.R_away HO_4.out (fun _ hk => hk.1)))) _).trans (hHeld.1)))))), ((cell_far (p := ⟨gb330, _, none⟩) (by exact far_ (Kd.own_blk (Kd.R_away HO_4.out (fun _ hk => hk.1)))) _).trans (((cell_far (p := ⟨gb330, _, none⟩) (by exact far_ (Kd.own_blk (Kd.R_away HO_4.out (fun _ hk => hk.1)))) _).trans (((cell_far (p := ⟨gb330, _, none⟩) (by exact far_ (Kd.own_blk (Kd.R_away HO_4.out (fun _ hk => hk.1)))) _).trans (hHeld.2.1)))))), ((cell_far (p := ⟨gb330, _, none⟩) (by exact far_ (Kd.own_blk (Kd.R_away HO_4.out (fun _ hk => hk.1)))) _).trans (((cell_far (p := ⟨gb330, _, none⟩) (by exact far_ (Kd.own_blk (Kd.R_away HO_4.out (fun _ hk => hk.1)))) _).trans (((cell_far (p := ⟨gb330, _, none⟩) (by exact far_ (Kd.own_blk (Kd.R_away HO_4.out (fun _ hk => hk.1)))) _).trans (hHeld.2.2.1)))))), ((cell_far (p := ⟨gb330, _, none⟩) (by exact far_ (Kd.own_blk (Kd.R_away HO_4.out (fun _ hk => hk.1)))) _).trans (((cell_far (p := ⟨gb330, _, none⟩) (by exact far_ (Kd.own_blk (Kd.R_away HO_4.out (fun _ hk => hk.1)))) _).trans (((cell_far (p := ⟨gb330, _, none⟩) (by exact far_ (Kd.own_blk (Kd.R_away HO_4.out (fun _ hk => hk.1)))) _).trans (hHeld.2.2.2.1)))))), ((cell_far (p := ⟨gb330, _, none⟩) (by exact far_ (Kd.own_blk (Kd.R_away HO_4.out (fun _ hk => hk.1)))) _).trans (((cell_far (p := ⟨gb330, _, none⟩) (by exact far_ (Kd.own_blk (Kd.R_away HO_4.out (fun _ hk => hk.1)))) _).trans (((cell_far (p := ⟨gb330, _, none⟩) (by exact far_ (Kd.own_blk (Kd.R_away HO_4.out (fun _ hk => hk.1)))) _).trans (hHeld.2.2.2.2.1)))))), ((cell_far (p := ⟨gb330, _, none⟩) (by exact far_ (Kd.own_blk (Kd.R_away HO_4.out (fun _ hk => hk.1)))) _).trans (((cell_far (p := ⟨gb330, _, none⟩) (by exact far_ (Kd.own_blk (Kd.R_away HO_4.out (fun _ hk => hk.1)))) _).trans (((cell_far (p := ⟨gb330, _, none⟩) (by exact far_ (Kd.own_blk (Kd.R_away HO_4.out (fun _ hk => hk.1)))) _).trans (hHeld.2.2.2.2.2))))))⟩ (fun hHeld => ?_)
                                  clear hK K
                                  refine one_ (i := 12) (N := none) #[true, true, true, true, true, true, true, true, true, true, true, true, true] rfl rfl (one_of HT_.out (by kernel_rfl)) (by decide) (fun K hK => ?_)
                                  have hs45 : w41.cell? ⟨gb331, 0, none⟩ = some (.int .i64 0) := (blk_cell BK331.out 0).trans rfl
                                  have hfs45 := blk_frozen BK331.out 0
                                  have hns45_0 := NB330_331.out
                                  have hms45_0 := NB331_330.out
                                  have hs46 : w41.cell? ⟨gb331, 1, none⟩ = some (.int .i64 0) := (blk_cell BK331.out 1).trans rfl
                                  have hfs46 := blk_frozen BK331.out 1
                                  have hns46_0 := NB330_331.out
                                  have hms46_0 := NB331_330.out
                                  have hs47 : w41.cell? ⟨gb331, 2, none⟩ = some (.int .i64 0) := (blk_cell BK331.out 2).trans rfl
                                  have hfs47 := blk_frozen BK331.out 2
                                  have hns47_0 := NB330_331.out
                                  have hms47_0 := NB331_330.out
                                  refine skip_ (w1 := ?_) (by rfl) rfl ?_ ?_
                                  rotate_left
                                  · go_simp
                                    rfl
                                  refine hK.out _ _ ⟨((cell_far (p := ⟨gb331, _, none⟩) (by exact far_ (Kd.own_blk (Kd.R_away HO_4.out (fun _ hk => hk.2)))) _).trans (((cell_far (p := ⟨gb331, _, none⟩) (by exact far_ (Kd.own_blk (Kd.R_away HO_4.out (fun _ hk => hk.2)))) _).trans (((cell_far (p := ⟨gb331, _, none⟩) (by exact far_ (Kd.own_blk (Kd.R_away HO_4.out (fun _ hk => hk.2)))) _).trans (hHeld.1)))))), ((cell_far (p := ⟨gb331, _, none⟩) (by exact far_ (Kd.own_blk (Kd.R_away HO_4.out (fun _ hk => hk.2)))) _).trans (((cell_far (p := ⟨gb331, _, none⟩) (by exact far_ (Kd.own_blk (Kd.R_away HO_4.out (fun _ hk => hk.2)))) _).trans (((cell_far (p := ⟨gb331, _, none⟩) (by exact far_ (Kd.own_blk (Kd.R_away HO_4.out (fun _ hk => hk.2)))) _).trans (hHeld.2.1)))))), ((cell_far (p := ⟨gb331, _, none⟩) (by exact far_ (Kd.own_blk (Kd.R_away HO_4.out (fun _ hk => hk.2)))) _).trans (((cell_far (p := ⟨gb331, _, none⟩) (by exact far_ (Kd.own_blk (Kd.R_away HO_4.out (fun _ hk => hk.2)))) _).trans (((cell_far (p := ⟨gb331, _, none⟩) (by exact far_ (Kd.own_blk (Kd.R_away HO_4.out (fun _ hk => hk.2)))) _).trans (hHeld.2.2.1)))))), ((cell_far (p := ⟨gb331, _, none⟩) (by exact far_ (Kd.own_blk (Kd.R_away HO_4.out (fun _ hk => hk.2)))) _).trans (((cell_far (p := ⟨gb331, _, none⟩) (by exact far_ (Kd.own_blk (Kd.R_away HO_4.out (fun _ hk => hk.2)))) _).trans (((cell_far (p := ⟨gb331, _, none⟩) (by exact far_ (Kd.own_blk (Kd.R_away HO_4.out (fun _ hk => hk.2)))) _).trans (hHeld.2.2.2.1)))))), ((cell_far (p := ⟨gb331, _, none⟩) (by exact far_ (Kd.own_blk (Kd.R_away HO_4.out (fun _ hk => hk.2)))) _).trans (((cell_far (p := ⟨gb331, _, none⟩) (by exact far_ (Kd.own_blk (Kd.R_away HO_4.out (fun _ hk => hk.2)))) _).trans (((cell_far (p := ⟨gb331, _, none⟩) (by exact far_ (Kd.own_blk (Kd.R_away HO_4.out (fun _ hk => hk.2)))) _).trans (hHeld.2.2.2.2.1)))))), ((cell_far (p := ⟨gb331, _, none⟩) (by exact far_ (Kd.own_blk (Kd.R_away HO_4.out (fun _ hk => hk.2)))) _).trans (((cell_far (p := ⟨gb331, _, none⟩) (by exact far_ (Kd.own_blk (Kd.R_away HO_4.out (fun _ hk => hk.2)))) _).trans (((cell_far (p := ⟨gb331, _, none⟩) (by exact far_ (Kd.own_blk (Kd.R_away HO_4.out (fun _ hk => hk.2)))) _).trans (hHeld.2.2.2.2.2))))))⟩ (fun hHeld => ?_)
                                  clear hK K
                                  refine done_ (done_of HT_.out (by kernel_rfl)) ?_
                                  have hnb48 := NB330_331.out
                                  have hnc48 := NB331_330.out
                                  have hcz49_0 : w41.cell? ⟨gb330, 0, none⟩ = some (.int .i64 0) := (blk_cell BK330.out 0).trans rfl
                                  have hcz49_1 : w41.cell? ⟨gb330, 1, none⟩ = some (.int .i64 0) := (blk_cell BK330.out 1).trans rfl
                                  have hcz49_2 : w41.cell? ⟨gb330, 2, none⟩ = some (.int .i64 0) := (blk_cell BK330.out 2).trans rfl
                                  have hfz49_0 := blk_frozen BK330.out 0
                                  have hfz49_1 := blk_frozen BK330.out 1
                                  have hfz49_2 := blk_frozen BK330.out 2
                                  have hcz50_0 : w41.cell? ⟨gb331, 0, none⟩ = some (.int .i64 0) := (blk_cell BK331.out 0).trans rfl
                                  have hcz50_1 : w41.cell? ⟨gb331, 1, none⟩ = some (.int .i64 0) := (blk_cell BK331.out 1).trans rfl
                                  have hcz50_2 : w41.cell? ⟨gb331, 2, none⟩ = some (.int .i64 0) := (blk_cell BK331.out 2).trans rfl
                                  have hfz50_0 := blk_frozen BK331.out 0
                                  have hfz50_1 := blk_frozen BK331.out 1
                                  have hfz50_2 := blk_frozen BK331.out 2
                                  try go_wp2
                                  go_roundg k3
                                  case measure => have := HJ2.out; have := HJ7.out; have := HK3.out; omega
                                  case rel => exact ⟨(wrap64 (x6_3 + 1)), (by first | rfl | (simp; done) | (simp [*]; done)), H', ⟨by have := HJ2.out; have := HJ7.out; have := HK3.out; omega⟩, ⟨by (with_reducible repeat (first | apply Kd.R_alloc | apply Kd.R_drewN | apply Kd.R_drew)); exact Kd.R_mono (Kd.R_far (p := ⟨gb331, 2, none⟩) (Kd.R_far (p := ⟨gb331, 1, none⟩) (Kd.R_far (p := ⟨gb331, 0, none⟩) (Kd.R_far (p := ⟨gb330, 2, none⟩) (Kd.R_far (p := ⟨gb330, 1, none⟩) (Kd.R_far (p := ⟨gb330, 0, none⟩) (Kd.R_mono (Kd.R_mono HO_4.out (fun k_ hk => (⟨hk, hk.1⟩ : _ ∧ k_ ≠ gb330))) (fun k_ hk => (⟨hk, hk.1.2⟩ : _ ∧ k_ ≠ gb331))) (fun _ hk => hk.1.2) (.int .i64 ((rd_T33 t324 (ji14)).f0))) (fun _ hk => hk.1.2) (.int .i64 ((rd_T33 t324 (ji14)).f1))) (fun _ hk => hk.1.2) (.int .i64 ((rd_T33 t324 (ji14)).f2))) (fun _ hk => hk.2) (.int .i64 ((rd_T33 t324 x6_3).f0))) (fun _ hk => hk.2) (.int .i64 ((rd_T33 t324 x6_3).f1))) (fun _ hk => hk.2) (.int .i64 ((rd_T33 t324 x6_3).f2))) (fun _ hk => trivial)⟩, ⟨by repeat (first | (with_reducible first | exact HB.out | apply below_alloc | apply pw_below_drewN | apply below_drew1 | refine below_set ?_ GE330.out | refine below_set ?_ GE331.out) | exact HB.out)⟩⟩
                            · rw [if_neg c19] at H
                              have c19b0 : (((rd_T33 t324 (ji14)).f1) == ((rd_T33 t324 x6_3).f1)) = false := beq_eq_false_iff_ne.mpr c19
                              have c19b1 : (((rd_T33 t324 (ji14)).f1) != ((rd_T33 t324 x6_3).f1)) = true := bne_iff_ne.mpr c19
                              have H' := Aside0.mk H
                              clear H
                              obtain ⟨Ao51, co51, eo51⟩ := Kd.R_slice HO_4.out
                              subst eo51
                              try go_wp2
                              have n0_ := Aside0.mk (Kd.R_drew HO_4.out)
                              have n1_ := Aside0.mk (below_drew1 HB.out)
                              clear HO_4 HB
                              have HO_4 := n0_
                              have HB := n1_
                              clear n0_ n1_
                              have p328 : 0 ≤ ((ji14) : Int) := of_decide_eq_true (by first | (with_reducible assumption) | assumption)
                              have q328 : (ji14) < (t324.length : Int) := of_decide_eq_true (by first | (with_reducible assumption) | assumption)
                              obtain ⟨ad328, e328, hx328_0, hx328_1, hx328_2⟩ := at_T33 (Kd.R_reads' HO_4.out).2.2 (ji14) p328 q328
                              cases e328
                              replace p328 := eq_true p328
                              replace q328 := eq_true q328
                              have p329 : 0 ≤ (x6_3 : Int) := of_decide_eq_true (by first | (with_reducible assumption) | assumption)
                              have q329 : x6_3 < (t324.length : Int) := of_decide_eq_true (by first | (with_reducible assumption) | assumption)
                              obtain ⟨ad329, e329, hx329_0, hx329_1, hx329_2⟩ := at_T33 (Kd.R_reads' HO_4.out).2.2 x6_3 p329 q329
                              obtain rfl : ad328 = ad329 := (by injection e329)
                              replace p329 := eq_true p329
                              replace q329 := eq_true q329
                              refine start_ (n := 13) (S := fun w' => w'.cell? (ad328.add (((ji14)).toNat * 3)) = some (.int .i64 ((rd_T33 t324 (ji14)).f0)) ∧ w'.cell? ⟨(ad328.add (((ji14)).toNat * 3)).block, (ad328.add (((ji14)).toNat * 3)).off + 1, none⟩ = some (.int .i64 ((rd_T33 t324 (ji14)).f1)) ∧ w'.cell? ⟨(ad328.add (((ji14)).toNat * 3)).block, (ad328.add (((ji14)).toNat * 3)).off + 2, none⟩ = some (.int .i64 ((rd_T33 t324 (ji14)).f2)) ∧ w'.cell? (ad328.add ((x6_3).toNat * 3)) = some (.int .i64 ((rd_T33 t324 x6_3).f0)) ∧ w'.cell? ⟨(ad328.add ((x6_3).toNat * 3)).block, (ad328.add ((x6_3).toNat * 3)).off + 1, none⟩ = some (.int .i64 ((rd_T33 t324 x6_3).f1)) ∧ w'.cell? ⟨(ad328.add ((x6_3).toNat * 3)).block, (ad328.add ((x6_3).toNat * 3)).off + 2, none⟩ = some (.int .i64 ((rd_T33 t324 x6_3).f2))) (ds := []) #[false, false, false, false, false, false, false, false, false, false, false, false, false] (by kernel_rfl) rfl rfl ⟨hx328_0, hx328_1, hx328_2, hx329_0, hx329_1, hx329_2⟩ (fun hHeld => ?_); refine with_tabW tailwaterlaw34_SinkLate.tab10 tailwaterlaw34_SinkLate.bits10 (fun HT_ HW_ => ?_)
                              generalize wr.drew = w52 at HO_4 HB hx328_0 hx328_1 hx328_2 hx329_0 hx329_1 hx329_2 hHeld ⊢
                              refine pure_ (i := 0) (N := some 42) (v := ?_) (a' := ?_) #[true, false, false, false, false, false, false, false, false, false, false, false, false] rfl rfl (any_of HT_.out (by kernel_rfl)) (fun _ _ _ h => h) (Or.inl ⟨by rfl, ?_⟩) ?_ ?_
                              rotate_left
                              · intro w'
                                go_simp
                                with_reducible rfl
                              rotate_left
                              · simp only [Act.put, List.setIfInBounds_toArray, List.set_cons_zero, List.set_cons_succ, i64_w, i32_w]
                                rfl
                              refine pure_ (i := 1) (N := some 43) (v := ?_) (a' := ?_) #[true, true, false, false, false, false, false, false, false, false, false, false, false] rfl rfl (any_of HT_.out (by kernel_rfl)) (fun _ _ _ h => h) (Or.inl ⟨by rfl, ?_⟩) ?_ ?_
                              rotate_left
                              · intro w'
                                go_simp
                                with_reducible rfl
                              rotate_left
                              · simp only [Act.put, List.setIfInBounds_toArray, List.set_cons_zero, List.set_cons_succ, i64_w, i32_w]
                                rfl
                              refine pure_ (i := 2) (N := some 44) (v := ?_) (a' := ?_) #[true, true, true, false, false, false, false, false, false, false, false, false, false] rfl rfl (any_of HT_.out (by kernel_rfl)) (fun _ _ _ h => h) (Or.inl ⟨by rfl, ?_⟩) ?_ ?_
                              rotate_left
                              · intro w'
                                go_simp
                                with_reducible rfl
                              rotate_left
                              · simp only [Act.put, List.setIfInBounds_toArray, List.set_cons_zero, List.set_cons_succ, i64_w, i32_w]
                                rfl
                              refine pure_ (i := 3) (N := some 45) (v := ?_) (a' := ?_) #[true, true, true, true, false, false, false, false, false, false, false, false, false] rfl rfl (any_of HT_.out (by kernel_rfl)) (fun _ _ _ h => h) (Or.inl ⟨by rfl, ?_⟩) ?_ ?_
                              rotate_left
                              · intro w'
                                go_simp
                                with_reducible rfl
                              rotate_left
                              · simp only [Act.put, List.setIfInBounds_toArray, List.set_cons_zero, List.set_cons_succ, i64_w, i32_w]
                                rfl
                              refine pure_ (i := 5) (N := some 47) (v := ?_) (a' := ?_) #[true, true, true, true, false, true, false, false, false, false, false, false, false] rfl rfl (any_of HT_.out (by kernel_rfl)) (fun _ _ _ h => h) (Or.inl ⟨by rfl, ?_⟩) ?_ ?_
                              rotate_left
                              · intro w'
                                go_simp
                                with_reducible rfl
                              rotate_left
                              · simp only [Act.put, List.setIfInBounds_toArray, List.set_cons_zero, List.set_cons_succ, i64_w, i32_w]
                                rfl
                              refine pure_ (i := 6) (N := some 48) (v := ?_) (a' := ?_) #[true, true, true, true, false, true, true, false, false, false, false, false, false] rfl rfl (any_of HT_.out (by kernel_rfl)) (fun _ _ _ h => h) (Or.inl ⟨by rfl, ?_⟩) ?_ ?_
                              rotate_left
                              · intro w'
                                go_simp
                                with_reducible rfl
                              rotate_left
                              · simp only [Act.put, List.setIfInBounds_toArray, List.set_cons_zero, List.set_cons_succ, i64_w, i32_w]
                                rfl
                              refine pure_ (i := 7) (N := some 49) (v := ?_) (a' := ?_) #[true, true, true, true, false, true, true, true, false, false, false, false, false] rfl rfl (any_of HT_.out (by kernel_rfl)) (fun _ _ _ h => h) (Or.inl ⟨by rfl, ?_⟩) ?_ ?_
                              rotate_left
                              · intro w'
                                go_simp
                                with_reducible rfl
                              rotate_left
                              · simp only [Act.put, List.setIfInBounds_toArray, List.set_cons_zero, List.set_cons_succ, i64_w, i32_w]
                                rfl
                              refine take_ (i := 4) (N := some 46) (v := ?_) (a' := ?_) #[true, true, true, true, true, true, true, true, false, false, false, false, false] rfl rfl (take_ofW HT_.out HW_.out (by kernel_rfl)) (fun _ _ _ h => h) (Or.inl ⟨by rfl, ?_⟩) hHeld ?_ ?_
                              rotate_left
                              · rintro w' ⟨s0, s1, s2, s3, s4, s5⟩
                                go_simp
                                with_reducible rfl
                              rotate_left
                              · simp only [Act.put, List.setIfInBounds_toArray, List.set_cons_zero, List.set_cons_succ, i64_w, i32_w]
                                rfl
                              refine take_ (i := 8) (N := some 50) (v := ?_) (a' := ?_) #[true, true, true, true, true, true, true, true, true, false, false, false, false] rfl rfl (take_ofW HT_.out HW_.out (by kernel_rfl)) (fun _ _ _ h => h) (Or.inl ⟨by rfl, ?_⟩) hHeld ?_ ?_
                              rotate_left
                              · rintro w' ⟨s0, s1, s2, s3, s4, s5⟩
                                go_simp
                                with_reducible rfl
                              rotate_left
                              · simp only [Act.put, List.setIfInBounds_toArray, List.set_cons_zero, List.set_cons_succ, i64_w, i32_w]
                                rfl
                              refine join_ (σ := Nat × Nat) 2 #[true, true, true, true, true, true, true, true, true, true, true, false, false] (fun s_ => [(7, .pointer (some ⟨s_.1, 0, none⟩)), (8, .pointer (some ⟨s_.2, 0, none⟩))]) (fun s_ w' => (w'.cell? (ad328.add (((ji14)).toNat * 3)) = some (.int .i64 ((rd_T33 t324 (ji14)).f0)) ∧ w'.cell? ⟨(ad328.add (((ji14)).toNat * 3)).block, (ad328.add (((ji14)).toNat * 3)).off + 1, none⟩ = some (.int .i64 ((rd_T33 t324 (ji14)).f1)) ∧ w'.cell? ⟨(ad328.add (((ji14)).toNat * 3)).block, (ad328.add (((ji14)).toNat * 3)).off + 2, none⟩ = some (.int .i64 ((rd_T33 t324 (ji14)).f2)) ∧ w'.cell? (ad328.add ((x6_3).toNat * 3)) = some (.int .i64 ((rd_T33 t324 x6_3).f0)) ∧ w'.cell? ⟨(ad328.add ((x6_3).toNat * 3)).block, (ad328.add ((x6_3).toNat * 3)).off + 1, none⟩ = some (.int .i64 ((rd_T33 t324 x6_3).f1)) ∧ w'.cell? ⟨(ad328.add ((x6_3).toNat * 3)).block, (ad328.add ((x6_3).toNat * 3)).off + 2, none⟩ = some (.int .i64 ((rd_T33 t324 x6_3).f2))) ∧ (Kd.R k33 33 w' w.heap.size (fun k_ => k_ ≠ s_.1 ∧ k_ ≠ s_.2) (.slice (some ad328) t324.length co51) t324) ∧ (w'.heap[s_.1]? = some (.cells #[.int .i64 0, .int .i64 0, .int .i64 0] 33 (0, 0))) ∧ (w'.heap[s_.2]? = some (.cells #[.int .i64 0, .int .i64 0, .int .i64 0] 33 (0, 0))) ∧ (w.heap.size ≤ s_.1) ∧ (w.heap.size ≤ s_.1) ∧ (s_.2 ≠ s_.1) ∧ (s_.1 ≠ s_.2) ∧ (w.heap.size ≤ s_.2) ∧ (w.heap.size ≤ s_.2) ∧ (Below w.heap.size w w')) ?_ ?_
                              rotate_left
                              · intro hCont
                                refine two_ (i := 9) (j := 10) (Ni := some 7) (Nj := some 8) #[true, true, true, true, true, true, true, true, true, true, false, false, false] #[true, true, true, true, true, true, true, true, true, false, true, false, false] rfl rfl rfl rfl (two_of HT_.out (by kernel_rfl)) (by decide) (by decide) (fun K hK => ?_) (fun K hK => ?_)
                                · skip
                                  refine box_step ?hg (N := 7) ?hd (cs := #[.int .i64 0, .int .i64 0, .int .i64 0]) (t := 33) ?hr ?_; (case hd => rfl); (case hg => rfl); (case hr => first | (go_simp; done) | (go_simp; rfl))
                                  intro gb330 hg w53 hbox hb
                                  have HS0_ := (hb.cell (World.block_lt_of_cell? _ _ (hHeld.1))).trans (hHeld.1)
                                  have HS1_ := (hb.cell (World.block_lt_of_cell? _ _ (hHeld.2.1))).trans (hHeld.2.1)
                                  have HS2_ := (hb.cell (World.block_lt_of_cell? _ _ (hHeld.2.2.1))).trans (hHeld.2.2.1)
                                  have HS3_ := (hb.cell (World.block_lt_of_cell? _ _ (hHeld.2.2.2.1))).trans (hHeld.2.2.2.1)
                                  have HS4_ := (hb.cell (World.block_lt_of_cell? _ _ (hHeld.2.2.2.2.1))).trans (hHeld.2.2.2.2.1)
                                  have HS5_ := (hb.cell (World.block_lt_of_cell? _ _ (hHeld.2.2.2.2.2))).trans (hHeld.2.2.2.2.2)
                                  have n0_ := Aside0.mk (Kd.R_below (Kd.R_elderB (by (with_reducible repeat (first | apply Kd.R_alloc | apply Kd.R_drewN | apply Kd.R_drew)); exact HO_4.out) gb330 (Nat.le_of_eq hg.symm)) hb)
                                  have n1_ := Aside0.mk (below_step (by repeat (first | (with_reducible first | exact HB.out | apply below_alloc | apply pw_below_drewN | apply below_drew1) | exact HB.out)) hb)
                                  have n2_ := Aside0.mk (hbox)
                                  have n3_ := Aside0.mk ((by rw [hg]; exact (below_size (by repeat (first | (with_reducible first | exact HB.out | apply below_alloc | apply pw_below_drewN | apply below_drew1) | exact HB.out))) : w.heap.size ≤ gb330))
                                  have n4_ := Aside0.mk ((by rw [hg]; exact (below_size (by repeat (first | (with_reducible first | exact HB.out | apply below_alloc | apply pw_below_drewN | apply below_drew1) | exact HB.out))) : w.heap.size ≤ gb330))
                                  clear HO_4 HB
                                  have HO_4 := n0_
                                  have HB := n1_
                                  have BK330 := n2_
                                  have GW330 := n3_
                                  have GE330 := n4_
                                  clear n0_ n1_ n2_ n3_ n4_
                                  clear hb hbox hg
                                  refine hK.out _ _ ⟨HS0_, HS1_, HS2_, HS3_, HS4_, HS5_⟩ (fun hHeld => ?_)
                                  clear hK K
                                  refine norm_ (a' := ?_) ?_ ?_
                                  rotate_left
                                  · show Act.put _ (some 7) _ = _
                                    simp only [Act.put, List.setIfInBounds_toArray, List.set_cons_zero, List.set_cons_succ, i64_w, i32_w]
                                    rfl
                                  refine one_ (i := 10) (N := some 8) #[true, true, true, true, true, true, true, true, true, true, true, false, false] rfl rfl (one_of HT_.out (by kernel_rfl)) (by decide) (fun K hK => ?_)
                                  refine box_step ?hg (N := 8) ?hd (cs := #[.int .i64 0, .int .i64 0, .int .i64 0]) (t := 33) ?hr ?_; (case hd => rfl); (case hg => rfl); (case hr => first | (go_simp; done) | (go_simp; rfl))
                                  intro gb331 hg w54 hbox hb
                                  have HS0_ := (hb.cell (World.block_lt_of_cell? _ _ (hHeld.1))).trans (hHeld.1)
                                  have HS1_ := (hb.cell (World.block_lt_of_cell? _ _ (hHeld.2.1))).trans (hHeld.2.1)
                                  have HS2_ := (hb.cell (World.block_lt_of_cell? _ _ (hHeld.2.2.1))).trans (hHeld.2.2.1)
                                  have HS3_ := (hb.cell (World.block_lt_of_cell? _ _ (hHeld.2.2.2.1))).trans (hHeld.2.2.2.1)
                                  have HS4_ := (hb.cell (World.block_lt_of_cell? _ _ (hHeld.2.2.2.2.1))).trans (hHeld.2.2.2.2.1)
                                  have HS5_ := (hb.cell (World.block_lt_of_cell? _ _ (hHeld.2.2.2.2.2))).trans (hHeld.2.2.2.2.2)
                                  have n0_ := Aside0.mk (Kd.R_below (Kd.R_elderB (by (with_reducible repeat (first | apply Kd.R_alloc | apply Kd.R_drewN | apply Kd.R_drew)); exact HO_4.out) gb331 (Nat.le_of_eq hg.symm)) hb)
                                  have n1_ := Aside0.mk (blk_below (g := gb330) (o := .cells #[.int .i64 0, .int .i64 0, .int .i64 0] 33 (0, 0)) (by (with_reducible repeat (first | refine blk_drewN ?_ _ | refine blk_drew ?_ | refine blk_alloc ?_ _)); exact BK330.out) hb)
                                  have n2_ := Aside0.mk (below_step (by repeat (first | (with_reducible first | exact HB.out | apply below_alloc | apply pw_below_drewN | apply below_drew1 | refine below_set ?_ GE330.out) | exact HB.out)) hb)
                                  have n3_ := Aside0.mk (hbox)
                                  have n4_ := Aside0.mk ((by rw [hg]; exact (below_size (by repeat (first | (with_reducible first | exact HB.out | apply below_alloc | apply pw_below_drewN | apply below_drew1 | refine below_set ?_ GE330.out) | exact HB.out))) : w.heap.size ≤ gb331))
                                  have n5_ := Aside0.mk ((by rw [hg]; exact (below_size (by repeat (first | (with_reducible first | exact HB.out | apply below_alloc | apply pw_below_drewN | apply below_drew1 | refine below_set ?_ GE330.out) | exact HB.out))) : w.heap.size ≤ gb331))
                                  have n6_ := Aside0.mk ((by rw [hg]; exact Nat.ne_of_lt (blk_lt (g := gb330) (o := .cells #[.int .i64 0, .int .i64 0, .int .i64 0] 33 (0, 0)) (by (with_reducible repeat (first | refine blk_drewN ?_ _ | refine blk_drew ?_ | refine blk_alloc ?_ _)); exact BK330.out)) : gb330 ≠ gb331))
                                  have n7_ := Aside0.mk ((by rw [hg]; exact Nat.ne_of_gt (blk_lt (g := gb330) (o := .cells #[.int .i64 0, .int .i64 0, .int .i64 0] 33 (0, 0)) (by (with_reducible repeat (first | refine blk_drewN ?_ _ | refine blk_drew ?_ | refine blk_alloc ?_ _)); exact BK330.out)) : gb331 ≠ gb330))
                                  clear HO_4 BK330 HB
                                  have HO_4 := n0_
                                  have BK330 := n1_
                                  have HB := n2_
                                  have BK331 := n3_
                                  have GW331 := n4_
                                  have GE331 := n5_
                                  have NB330_331 := n6_
                                  have NB331_330 := n7_
                                  clear n0_ n1_ n2_ n3_ n4_ n5_ n6_ n7_
                                  clear hb hbox hg
                                  refine hK.out _ _ ⟨HS0_, HS1_, HS2_, HS3_, HS4_, HS5_⟩ (fun hHeld => ?_)
                                  clear hK K
                                  refine norm_ (a' := ?_) ?_ ?_
                                  rotate_left
                                  · show Act.put _ (some 8) _ = _
                                    simp only [Act.put, List.setIfInBounds_toArray, List.set_cons_zero, List.set_cons_succ, i64_w, i32_w]
                                    rfl
                                  exact norm_ (by simp only [putAll, Act.put, List.setIfInBounds_toArray, List.set_cons_zero, List.set_cons_succ]) (hCont (gb330, gb331) _ ⟨hHeld, (by (with_reducible repeat (first | apply Kd.R_alloc | apply Kd.R_drewN | apply Kd.R_drew)); exact Kd.R_mono HO_4.out (fun _ hk => ⟨hk.1.2, hk.2⟩)), (by (with_reducible repeat (first | refine blk_drewN ?_ _ | refine blk_drew ?_ | refine blk_alloc ?_ _)); exact BK330.out), (by (with_reducible repeat (first | refine blk_drewN ?_ _ | refine blk_drew ?_ | refine blk_alloc ?_ _)); exact BK331.out), GW330.out, GE330.out, NB331_330.out, NB330_331.out, GW331.out, GE331.out, (by repeat (first | (with_reducible first | exact HB.out | apply below_alloc | apply pw_below_drewN | apply below_drew1 | refine below_set ?_ GE330.out | refine below_set ?_ GE331.out) | exact HB.out))⟩)
                                · skip
                                  refine box_step ?hg (N := 8) ?hd (cs := #[.int .i64 0, .int .i64 0, .int .i64 0]) (t := 33) ?hr ?_; (case hd => rfl); (case hg => rfl); (case hr => first | (go_simp; done) | (go_simp; rfl))
                                  intro gb331 hg w53 hbox hb
                                  have HS0_ := (hb.cell (World.block_lt_of_cell? _ _ (hHeld.1))).trans (hHeld.1)
                                  have HS1_ := (hb.cell (World.block_lt_of_cell? _ _ (hHeld.2.1))).trans (hHeld.2.1)
                                  have HS2_ := (hb.cell (World.block_lt_of_cell? _ _ (hHeld.2.2.1))).trans (hHeld.2.2.1)
                                  have HS3_ := (hb.cell (World.block_lt_of_cell? _ _ (hHeld.2.2.2.1))).trans (hHeld.2.2.2.1)
                                  have HS4_ := (hb.cell (World.block_lt_of_cell? _ _ (hHeld.2.2.2.2.1))).trans (hHeld.2.2.2.2.1)
                                  have HS5_ := (hb.cell (World.block_lt_of_cell? _ _ (hHeld.2.2.2.2.2))).trans (hHeld.2.2.2.2.2)
                                  have n0_ := Aside0.mk (Kd.R_below (Kd.R_elderB (by (with_reducible repeat (first | apply Kd.R_alloc | apply Kd.R_drewN | apply Kd.R_drew)); exact HO_4.out) gb331 (Nat.le_of_eq hg.symm)) hb)
                                  have n1_ := Aside0.mk (below_step (by repeat (first | (with_reducible first | exact HB.out | apply below_alloc | apply pw_below_drewN | apply below_drew1) | exact HB.out)) hb)
                                  have n2_ := Aside0.mk (hbox)
                                  have n3_ := Aside0.mk ((by rw [hg]; exact (below_size (by repeat (first | (with_reducible first | exact HB.out | apply below_alloc | apply pw_below_drewN | apply below_drew1) | exact HB.out))) : w.heap.size ≤ gb331))
                                  have n4_ := Aside0.mk ((by rw [hg]; exact (below_size (by repeat (first | (with_reducible first | exact HB.out | apply below_alloc | apply pw_below_drewN | apply below_drew1) | exact HB.out))) : w.heap.size ≤ gb331))
                                  clear HO_4 HB
                                  have HO_4 := n0_
                                  have HB := n1_
                                  have BK331 := n2_
                                  have GW331 := n3_
                                  have GE331 := n4_
                                  clear n0_ n1_ n2_ n3_ n4_
                                  clear hb hbox hg
                                  refine hK.out _ _ ⟨HS0_, HS1_, HS2_, HS3_, HS4_, HS5_⟩ (fun hHeld => ?_)
                                  clear hK K
                                  refine norm_ (a' := ?_) ?_ ?_
                                  rotate_left
                                  · show Act.put _ (some 8) _ = _
                                    simp only [Act.put, List.setIfInBounds_toArray, List.set_cons_zero, List.set_cons_succ, i64_w, i32_w]
                                    rfl
                                  refine one_ (i := 9) (N := some 7) #[true, true, true, true, true, true, true, true, true, true, true, false, false] rfl rfl (one_of HT_.out (by kernel_rfl)) (by decide) (fun K hK => ?_)
                                  refine box_step ?hg (N := 7) ?hd (cs := #[.int .i64 0, .int .i64 0, .int .i64 0]) (t := 33) ?hr ?_; (case hd => rfl); (case hg => rfl); (case hr => first | (go_simp; done) | (go_simp; rfl))
                                  intro gb330 hg w54 hbox hb
                                  have HS0_ := (hb.cell (World.block_lt_of_cell? _ _ (hHeld.1))).trans (hHeld.1)
                                  have HS1_ := (hb.cell (World.block_lt_of_cell? _ _ (hHeld.2.1))).trans (hHeld.2.1)
                                  have HS2_ := (hb.cell (World.block_lt_of_cell? _ _ (hHeld.2.2.1))).trans (hHeld.2.2.1)
                                  have HS3_ := (hb.cell (World.block_lt_of_cell? _ _ (hHeld.2.2.2.1))).trans (hHeld.2.2.2.1)
                                  have HS4_ := (hb.cell (World.block_lt_of_cell? _ _ (hHeld.2.2.2.2.1))).trans (hHeld.2.2.2.2.1)
                                  have HS5_ := (hb.cell (World.block_lt_of_cell? _ _ (hHeld.2.2.2.2.2))).trans (hHeld.2.2.2.2.2)
                                  have n0_ := Aside0.mk (Kd.R_below (Kd.R_elderB (by (with_reducible repeat (first | apply Kd.R_alloc | apply Kd.R_drewN | apply Kd.R_drew)); exact HO_4.out) gb330 (Nat.le_of_eq hg.symm)) hb)
                                  have n1_ := Aside0.mk (blk_below (g := gb331) (o := .cells #[.int .i64 0, .int .i64 0, .int .i64 0] 33 (0, 0)) (by (with_reducible repeat (first | refine blk_drewN ?_ _ | refine blk_drew ?_ | refine blk_alloc ?_ _)); exact BK331.out) hb)
                                  have n2_ := Aside0.mk (below_step (by repeat (first | (with_reducible first | exact HB.out | apply below_alloc | apply pw_below_drewN | apply below_drew1 | refine below_set ?_ GE331.out) | exact HB.out)) hb)
                                  have n3_ := Aside0.mk (hbox)
                                  have n4_ := Aside0.mk ((by rw [hg]; exact (below_size (by repeat (first | (with_reducible first | exact HB.out | apply below_alloc | apply pw_below_drewN | apply below_drew1 | refine below_set ?_ GE331.out) | exact HB.out))) : w.heap.size ≤ gb330))
                                  have n5_ := Aside0.mk ((by rw [hg]; exact (below_size (by repeat (first | (with_reducible first | exact HB.out | apply below_alloc | apply pw_below_drewN | apply below_drew1 | refine below_set ?_ GE331.out) | exact HB.out))) : w.heap.size ≤ gb330))
                                  have n6_ := Aside0.mk ((by rw [hg]; exact Nat.ne_of_lt (blk_lt (g := gb331) (o := .cells #[.int .i64 0, .int .i64 0, .int .i64 0] 33 (0, 0)) (by (with_reducible repeat (first | refine blk_drewN ?_ _ | refine blk_drew ?_ | refine blk_alloc ?_ _)); exact BK331.out)) : gb331 ≠ gb330))
                                  have n7_ := Aside0.mk ((by rw [hg]; exact Nat.ne_of_gt (blk_lt (g := gb331) (o := .cells #[.int .i64 0, .int .i64 0, .int .i64 0] 33 (0, 0)) (by (with_reducible repeat (first | refine blk_drewN ?_ _ | refine blk_drew ?_ | refine blk_alloc ?_ _)); exact BK331.out)) : gb330 ≠ gb331))
                                  clear HO_4 BK331 HB
                                  have HO_4 := n0_
                                  have BK331 := n1_
                                  have HB := n2_
                                  have BK330 := n3_
                                  have GW330 := n4_
                                  have GE330 := n5_
                                  have NB331_330 := n6_
                                  have NB330_331 := n7_
                                  clear n0_ n1_ n2_ n3_ n4_ n5_ n6_ n7_
                                  clear hb hbox hg
                                  refine hK.out _ _ ⟨HS0_, HS1_, HS2_, HS3_, HS4_, HS5_⟩ (fun hHeld => ?_)
                                  clear hK K
                                  refine norm_ (a' := ?_) ?_ ?_
                                  rotate_left
                                  · show Act.put _ (some 7) _ = _
                                    simp only [Act.put, List.setIfInBounds_toArray, List.set_cons_zero, List.set_cons_succ, i64_w, i32_w]
                                    rfl
                                  exact norm_ (by simp only [putAll, Act.put, List.setIfInBounds_toArray, List.set_cons_zero, List.set_cons_succ]) (hCont (gb330, gb331) _ ⟨hHeld, (by (with_reducible repeat (first | apply Kd.R_alloc | apply Kd.R_drewN | apply Kd.R_drew)); exact Kd.R_mono HO_4.out (fun _ hk => ⟨hk.2, hk.1.2⟩)), (by (with_reducible repeat (first | refine blk_drewN ?_ _ | refine blk_drew ?_ | refine blk_alloc ?_ _)); exact BK330.out), (by (with_reducible repeat (first | refine blk_drewN ?_ _ | refine blk_drew ?_ | refine blk_alloc ?_ _)); exact BK331.out), GW330.out, GE330.out, NB331_330.out, NB330_331.out, GW331.out, GE331.out, (by repeat (first | (with_reducible first | exact HB.out | apply below_alloc | apply pw_below_drewN | apply below_drew1 | refine below_set ?_ GE331.out | refine below_set ?_ GE330.out) | exact HB.out))⟩)
                              rintro ⟨gb330, gb331⟩ w55 ⟨hS_, h0_, h1_, h2_, h3_, h4_, h5_, h6_, h7_, h8_, h9_⟩
                              have n0_ : Aside0 (Kd.R k33 33 w55 w.heap.size (fun k_ => k_ ≠ gb330 ∧ k_ ≠ gb331) (.slice (some ad328) t324.length co51) t324) := ⟨h0_⟩
                              have n1_ : Aside0 (w55.heap[gb330]? = some (.cells #[.int .i64 0, .int .i64 0, .int .i64 0] 33 (0, 0))) := ⟨h1_⟩
                              have n2_ : Aside0 (w55.heap[gb331]? = some (.cells #[.int .i64 0, .int .i64 0, .int .i64 0] 33 (0, 0))) := ⟨h2_⟩
                              have n3_ : Aside0 (w.heap.size ≤ gb330) := ⟨h3_⟩
                              have n4_ : Aside0 (w.heap.size ≤ gb330) := ⟨h4_⟩
                              have n5_ : Aside0 (gb331 ≠ gb330) := ⟨h5_⟩
                              have n6_ : Aside0 (gb330 ≠ gb331) := ⟨h6_⟩
                              have n7_ : Aside0 (w.heap.size ≤ gb331) := ⟨h7_⟩
                              have n8_ : Aside0 (w.heap.size ≤ gb331) := ⟨h8_⟩
                              have n9_ : Aside0 (Below w.heap.size w w55) := ⟨h9_⟩
                              clear HO_4
                              clear HB
                              clear h0_ h1_ h2_ h3_ h4_ h5_ h6_ h7_ h8_ h9_
                              have HO_4 := n0_
                              have BK330 := n1_
                              have BK331 := n2_
                              have GW330 := n3_
                              have GE330 := n4_
                              have NB331_330 := n5_
                              have NB330_331 := n6_
                              have GW331 := n7_
                              have GE331 := n8_
                              have HB := n9_
                              clear n0_ n1_ n2_ n3_ n4_ n5_ n6_ n7_ n8_ n9_
                              have hHeld : w55.cell? (ad328.add (((ji14)).toNat * 3)) = some (.int .i64 ((rd_T33 t324 (ji14)).f0)) ∧ w55.cell? ⟨(ad328.add (((ji14)).toNat * 3)).block, (ad328.add (((ji14)).toNat * 3)).off + 1, none⟩ = some (.int .i64 ((rd_T33 t324 (ji14)).f1)) ∧ w55.cell? ⟨(ad328.add (((ji14)).toNat * 3)).block, (ad328.add (((ji14)).toNat * 3)).off + 2, none⟩ = some (.int .i64 ((rd_T33 t324 (ji14)).f2)) ∧ w55.cell? (ad328.add ((x6_3).toNat * 3)) = some (.int .i64 ((rd_T33 t324 x6_3).f0)) ∧ w55.cell? ⟨(ad328.add ((x6_3).toNat * 3)).block, (ad328.add ((x6_3).toNat * 3)).off + 1, none⟩ = some (.int .i64 ((rd_T33 t324 x6_3).f1)) ∧ w55.cell? ⟨(ad328.add ((x6_3).toNat * 3)).block, (ad328.add ((x6_3).toNat * 3)).off + 2, none⟩ = some (.int .i64 ((rd_T33 t324 x6_3).f2)) := hS_
                              refine norm_ (a' := ?_) ?_ ?_
                              rotate_left
                              · simp only [putAll, Act.put, List.setIfInBounds_toArray, List.set_cons_zero, List.set_cons_succ]
                                rfl
                              refine one_ (i := 11) (N := none) #[true, true, true, true, true, true, true, true, true, true, true, true, false] rfl rfl (one_of HT_.out (by kernel_rfl)) (by decide) (fun K hK => ?_)
                              have hs56 : w55.cell? ⟨gb330, 0, none⟩ = some (.int .i64 0) := (blk_cell BK330.out 0).trans rfl
                              have hfs56 := blk_frozen BK330.out 0
                              have hns56_1 := NB331_330.out
                              have hms56_1 := NB330_331.out
                              have hs57 : w55.cell? ⟨gb330, 1, none⟩ = some (.int .i64 0) := (blk_cell BK330.out 1).trans rfl
                              have hfs57 := blk_frozen BK330.out 1
                              have hns57_1 := NB331_330.out
                              have hms57_1 := NB330_331.out
                              have hs58 : w55.cell? ⟨gb330, 2, none⟩ = some (.int .i64 0) := (blk_cell BK330.out 2).trans rfl
                              have hfs58 := blk_frozen BK330.out 2
                              have hns58_1 := NB331_330.out
                              have hms58_1 := NB330_331.out
                              refine skip_ (w1 := ?_) (by rfl) rfl ?_ ?_
                              rotate_left
                              · go_simp
                                rfl
                              refine hK.out _ _ ⟨((cell_far (p := ⟨gb330, _, none⟩) (by exact far_ (Kd.own_blk (Kd.R_away HO_4.out (fun _ hk => hk.1)))) _).trans (((cell_far (p := ⟨gb330, _, none⟩) (by exact far_ (Kd.own_blk (Kd.R_away HO_4.out (fun _ hk => hk.1)))) _).trans (((cell_far (p := ⟨gb330, _, none⟩) (by exact far_ (Kd.own_blk (Kd.R_away HO_4.out (fun _ hk => hk.1)))) _).trans (hHeld.1)))))), ((cell_far (p := ⟨gb330, _, none⟩) (by exact far_ (Kd.own_blk (Kd.R_away HO_4.out (fun _ hk => hk.1)))) _).trans (((cell_far (p := ⟨gb330, _, none⟩) (by exact far_ (Kd.own_blk (Kd.R_away HO_4.out (fun _ hk => hk.1)))) _).trans (((cell_far (p := ⟨gb330, _, none⟩) (by exact far_ (Kd.own_blk (Kd.R_away HO_4.out (fun _ hk => hk.1)))) _).trans (hHeld.2.1)))))), ((cell_far (p := ⟨gb330, _, none⟩) (by exact far_ (Kd.own_blk (Kd.R_away HO_4.out (fun _ hk => hk.1)))) _).trans (((cell_far (p := ⟨gb330, _, none⟩) (by exact far_ (Kd.own_blk (Kd.R_away HO_4.out (fun _ hk => hk.1)))) _).trans (((cell_far (p := ⟨gb330, _, none⟩) (by exact far_ (Kd.own_blk (Kd.R_away HO_4.out (fun _ hk => hk.1)))) _).trans (hHeld.2.2.1)))))), ((cell_far (p := ⟨gb330, _, none⟩) (by exact far_ (Kd.own_blk (Kd.R_away HO_4.out (fun _ hk => hk.1)))) _).trans (((cell_far (p := ⟨gb330, _, none⟩) (by exact far_ (Kd.own_blk (Kd.R_away HO_4.out (fun _ hk => hk.1)))) _).trans (((cell_far (p := ⟨gb330, _, none⟩) (by exact far_ (Kd.own_blk (Kd.R_away HO_4.out (fun _ hk => hk.1)))) _).trans (hHeld.2.2.2.1)))))), ((cell_far (p := ⟨gb330, _, none⟩) (by exact far_ (Kd.own_blk (Kd.R_away HO_4.out (fun _ hk => hk.1)))) _).trans (((cell_far (p := ⟨gb330, _, none⟩) (by exact far_ (Kd.own_blk (Kd.R_away HO_4.out (fun _ hk => hk.1)))) _).trans (((cell_far (p := ⟨gb330, _, none⟩) (by exact far_ (Kd.own_blk (Kd.R_away HO_4.out (fun _ hk => hk.1)))) _).trans (hHeld.2.2.2.2.1)))))), ((cell_far (p := ⟨gb330, _, none⟩) (by exact far_ (Kd.own_blk (Kd.R_away HO_4.out (fun _ hk => hk.1)))) _).trans (((cell_far (p := ⟨gb330, _, none⟩) (by exact far_ (Kd.own_blk (Kd.R_away HO_4.out (fun _ hk => hk.1)))) _).trans (((cell_far (p := ⟨gb330, _, none⟩) (by exact far_ (Kd.own_blk (Kd.R_away HO_4.out (fun _ hk => hk.1)))) _).trans (hHeld.2.2.2.2.2))))))⟩ (fun hHeld => ?_)
                              clear hK K
                              refine one_ (i := 12) (N := none) #[true, true, true, true, true, true, true, true, true, true, true, true, true] rfl rfl (one_of HT_.out (by kernel_rfl)) (by decide) (fun K hK => ?_)
                              have hs59 : w55.cell? ⟨gb331, 0, none⟩ = some (.int .i64 0) := (blk_cell BK331.out 0).trans rfl
                              have hfs59 := blk_frozen BK331.out 0
                              have hns59_0 := NB330_331.out
                              have hms59_0 := NB331_330.out
                              have hs60 : w55.cell? ⟨gb331, 1, none⟩ = some (.int .i64 0) := (blk_cell BK331.out 1).trans rfl
                              have hfs60 := blk_frozen BK331.out 1
                              have hns60_0 := NB330_331.out
                              have hms60_0 := NB331_330.out
                              have hs61 : w55.cell? ⟨gb331, 2, none⟩ = some (.int .i64 0) := (blk_cell BK331.out 2).trans rfl
                              have hfs61 := blk_frozen BK331.out 2
                              have hns61_0 := NB330_331.out
                              have hms61_0 := NB331_330.out
                              refine skip_ (w1 := ?_) (by rfl) rfl ?_ ?_
                              rotate_left
                              · go_simp
                                rfl
                              refine hK.out _ _ ⟨((cell_far (p := ⟨gb331, _, none⟩) (by exact far_ (Kd.own_blk (Kd.R_away HO_4.out (fun _ hk => hk.2)))) _).trans (((cell_far (p := ⟨gb331, _, none⟩) (by exact far_ (Kd.own_blk (Kd.R_away HO_4.out (fun _ hk => hk.2)))) _).trans (((cell_far (p := ⟨gb331, _, none⟩) (by exact far_ (Kd.own_blk (Kd.R_away HO_4.out (fun _ hk => hk.2)))) _).trans (hHeld.1)))))), ((cell_far (p := ⟨gb331, _, none⟩) (by exact far_ (Kd.own_blk (Kd.R_away HO_4.out (fun _ hk => hk.2)))) _).trans (((cell_far (p := ⟨gb331, _, none⟩) (by exact far_ (Kd.own_blk (Kd.R_away HO_4.out (fun _ hk => hk.2)))) _).trans (((cell_far (p := ⟨gb331, _, none⟩) (by exact far_ (Kd.own_blk (Kd.R_away HO_4.out (fun _ hk => hk.2)))) _).trans (hHeld.2.1)))))), ((cell_far (p := ⟨gb331, _, none⟩) (by exact far_ (Kd.own_blk (Kd.R_away HO_4.out (fun _ hk => hk.2)))) _).trans (((cell_far (p := ⟨gb331, _, none⟩) (by exact far_ (Kd.own_blk (Kd.R_away HO_4.out (fun _ hk => hk.2)))) _).trans (((cell_far (p := ⟨gb331, _, none⟩) (by exact far_ (Kd.own_blk (Kd.R_away HO_4.out (fun _ hk => hk.2)))) _).trans (hHeld.2.2.1)))))), ((cell_far (p := ⟨gb331, _, none⟩) (by exact far_ (Kd.own_blk (Kd.R_away HO_4.out (fun _ hk => hk.2)))) _).trans (((cell_far (p := ⟨gb331, _, none⟩) (by exact far_ (Kd.own_blk (Kd.R_away HO_4.out (fun _ hk => hk.2)))) _).trans (((cell_far (p := ⟨gb331, _, none⟩) (by exact far_ (Kd.own_blk (Kd.R_away HO_4.out (fun _ hk => hk.2)))) _).trans (hHeld.2.2.2.1)))))), ((cell_far (p := ⟨gb331, _, none⟩) (by exact far_ (Kd.own_blk (Kd.R_away HO_4.out (fun _ hk => hk.2)))) _).trans (((cell_far (p := ⟨gb331, _, none⟩) (by exact far_ (Kd.own_blk (Kd.R_away HO_4.out (fun _ hk => hk.2)))) _).trans (((cell_far (p := ⟨gb331, _, none⟩) (by exact far_ (Kd.own_blk (Kd.R_away HO_4.out (fun _ hk => hk.2)))) _).trans (hHeld.2.2.2.2.1)))))), ((cell_far (p := ⟨gb331, _, none⟩) (by exact far_ (Kd.own_blk (Kd.R_away HO_4.out (fun _ hk => hk.2)))) _).trans (((cell_far (p := ⟨gb331, _, none⟩) (by exact far_ (Kd.own_blk (Kd.R_away HO_4.out (fun _ hk => hk.2)))) _).trans (((cell_far (p := ⟨gb331, _, none⟩) (by exact far_ (Kd.own_blk (Kd.R_away HO_4.out (fun _ hk => hk.2)))) _).trans (hHeld.2.2.2.2.2))))))⟩ (fun hHeld => ?_)
                              clear hK K
                              refine done_ (done_of HT_.out (by kernel_rfl)) ?_
                              have hnb62 := NB330_331.out
                              have hnc62 := NB331_330.out
                              have hcz63_0 : w55.cell? ⟨gb330, 0, none⟩ = some (.int .i64 0) := (blk_cell BK330.out 0).trans rfl
                              have hcz63_1 : w55.cell? ⟨gb330, 1, none⟩ = some (.int .i64 0) := (blk_cell BK330.out 1).trans rfl
                              have hcz63_2 : w55.cell? ⟨gb330, 2, none⟩ = some (.int .i64 0) := (blk_cell BK330.out 2).trans rfl
                              have hfz63_0 := blk_frozen BK330.out 0
                              have hfz63_1 := blk_frozen BK330.out 1
                              have hfz63_2 := blk_frozen BK330.out 2
                              have hcz64_0 : w55.cell? ⟨gb331, 0, none⟩ = some (.int .i64 0) := (blk_cell BK331.out 0).trans rfl
                              have hcz64_1 : w55.cell? ⟨gb331, 1, none⟩ = some (.int .i64 0) := (blk_cell BK331.out 1).trans rfl
                              have hcz64_2 : w55.cell? ⟨gb331, 2, none⟩ = some (.int .i64 0) := (blk_cell BK331.out 2).trans rfl
                              have hfz64_0 := blk_frozen BK331.out 0
                              have hfz64_1 := blk_frozen BK331.out 1
                              have hfz64_2 := blk_frozen BK331.out 2
                              try go_wp2
                              go_roundg k3
                              case measure => have := HJ2.out; have := HJ7.out; have := HK3.out; omega
                              case rel => exact ⟨(wrap64 (x6_3 + 1)), (by first | rfl | (simp; done) | (simp [*]; done)), H', ⟨by have := HJ2.out; have := HJ7.out; have := HK3.out; omega⟩, ⟨by (with_reducible repeat (first | apply Kd.R_alloc | apply Kd.R_drewN | apply Kd.R_drew)); exact Kd.R_mono (Kd.R_far (p := ⟨gb331, 2, none⟩) (Kd.R_far (p := ⟨gb331, 1, none⟩) (Kd.R_far (p := ⟨gb331, 0, none⟩) (Kd.R_far (p := ⟨gb330, 2, none⟩) (Kd.R_far (p := ⟨gb330, 1, none⟩) (Kd.R_far (p := ⟨gb330, 0, none⟩) (Kd.R_mono (Kd.R_mono HO_4.out (fun k_ hk => (⟨hk, hk.1⟩ : _ ∧ k_ ≠ gb330))) (fun k_ hk => (⟨hk, hk.1.2⟩ : _ ∧ k_ ≠ gb331))) (fun _ hk => hk.1.2) (.int .i64 ((rd_T33 t324 (ji14)).f0))) (fun _ hk => hk.1.2) (.int .i64 ((rd_T33 t324 (ji14)).f1))) (fun _ hk => hk.1.2) (.int .i64 ((rd_T33 t324 (ji14)).f2))) (fun _ hk => hk.2) (.int .i64 ((rd_T33 t324 x6_3).f0))) (fun _ hk => hk.2) (.int .i64 ((rd_T33 t324 x6_3).f1))) (fun _ hk => hk.2) (.int .i64 ((rd_T33 t324 x6_3).f2))) (fun _ hk => trivial)⟩, ⟨by repeat (first | (with_reducible first | exact HB.out | apply below_alloc | apply pw_below_drewN | apply below_drew1 | refine below_set ?_ GE330.out | refine below_set ?_ GE331.out) | exact HB.out)⟩⟩
                        · rw [if_neg c17] at H
                          exact absurd H (by simp)
                      · rw [if_neg c16] at H
                        exact absurd H (by simp)
                    · rw [if_neg c15] at H
                      exact absurd H (by simp)
                  · rw [if_neg c13] at H
                    have c13b0 : decide (x6_3 < (t324.length : Int)) = false := decide_eq_false c13
                    clear c13
                    have H' := Aside0.mk H
                    clear H
                    obtain ⟨Ao65, co65, eo65⟩ := Kd.R_slice HO_4.out
                    subst eo65
                    go_wp2
                    go_loopg [9] k3 (fun kq v9 w' => ∃ (x9_4 : Int), v9 = .int .i64 x9_4 ∧ Aside0 (tailwaterlaw34_SinkLate.l1 kq l0 t323 t324 x9_4 = some r) ∧ Aside0 (kq ≤ k3) ∧ Aside0 (Kd.R k33 33 w' w.heap.size (fun _ => True) (.slice Ao65 t324.length co65) t324) ∧ Aside0 (Below w.heap.size w w'))
                    case atStart => exact ⟨(0), (by first | rfl | (simp; done) | (simp [*]; done)), H', ⟨Nat.le_refl _⟩, ⟨by (with_reducible repeat (first | apply Kd.R_alloc | apply Kd.R_drewN | apply Kd.R_drew)); exact HO_4.out⟩, ⟨by repeat (first | (with_reducible first | exact HB.out | apply below_alloc | apply pw_below_drewN | apply below_drew1) | exact HB.out)⟩⟩
                    case round =>
                      clear H'
                      try clear c1
                      try clear p2
                      try clear p3
                      try clear q3
                      try clear hx3
                      try clear c4
                      try clear c6
                      try clear p6
                      try clear c13
                      try clear c13b0
                      try clear c15
                      try clear c16
                      try clear c17
                      try clear c19
                      try clear c19b0
                      try clear c19b1
                      try clear p32
                      try clear q32
                      try clear hx32
                      try clear c48
                      try clear c62
                      try clear p64
                      try clear hcz49_0
                      try clear hcz49_1
                      try clear hcz49_2
                      try clear hcz50_0
                      try clear hcz50_1
                      try clear hcz50_2
                      try clear hcz63_0
                      try clear hcz63_1
                      try clear hcz63_2
                      try clear hcz64_0
                      try clear hcz64_1
                      try clear hcz64_2
                      try clear hfz49_0
                      try clear hfz49_1
                      try clear hfz49_2
                      try clear hfz50_0
                      try clear hfz50_1
                      try clear hfz50_2
                      try clear hfz63_0
                      try clear hfz63_1
                      try clear hfz63_2
                      try clear hfz64_0
                      try clear hfz64_1
                      try clear hfz64_2
                      try clear hx328_0
                      try clear hx328_1
                      try clear hx328_2
                      try clear hx329_0
                      try clear hx329_1
                      try clear hx329_2
                      try clear p328
                      try clear p329
                      try clear q328
                      try clear q329
                      obtain ⟨x9_4, rfl, HA, HK4, HO_4, HB⟩ := hrel
                      cases gk with
                      | zero => exact absurd HA.out (by simp [tailwaterlaw34_SinkLate.l1])
                      | succ k4 =>
                        have H := HA.out
                        clear HA
                        simp only [tailwaterlaw34_SinkLate.l1] at H
                        by_cases c66 : x9_4 < (l0.length : Int)
                        · rw [if_pos c66] at H
                          have c66b0 : decide (x9_4 < (l0.length : Int)) = true := decide_eq_true c66
                          clear c66
                          have H' := Aside0.mk H
                          clear H
                          go_wp2
                          go_loopg [10, 11, 12] k4 (fun kq v10 v11 v12 w' => ∃ (x10_5 : Int) (x11_5 : Int) (x12_5 : Int), v10 = .int .i64 x10_5 ∧ v11 = .int .i64 x11_5 ∧ v12 = .int .i64 x12_5 ∧ Aside0 (tailwaterlaw34_SinkLate.l2 kq l0 t323 t324 x9_4 x10_5 x11_5 x12_5 = some r) ∧ Aside0 (kq ≤ k4) ∧ Aside0 (Kd.R k33 33 w' w.heap.size (fun _ => True) (.slice Ao65 t324.length co65) t324) ∧ Aside0 (Below w.heap.size w w'))
                          case atStart => exact ⟨(0), (0), (0), (by first | rfl | (simp; done) | (simp [*]; done)), (by first | rfl | (simp; done) | (simp [*]; done)), (by first | rfl | (simp; done) | (simp [*]; done)), H', ⟨Nat.le_refl _⟩, ⟨by (with_reducible repeat (first | apply Kd.R_alloc | apply Kd.R_drewN | apply Kd.R_drew)); exact HO_4.out⟩, ⟨by repeat (first | (with_reducible first | exact HB.out | apply below_alloc | apply pw_below_drewN | apply below_drew1) | exact HB.out)⟩⟩
                          case round =>
                            clear H'
                            try clear c1
                            try clear p2
                            try clear p3
                            try clear q3
                            try clear hx3
                            try clear c4
                            try clear c6
                            try clear p6
                            try clear c13
                            try clear c13b0
                            try clear c15
                            try clear c16
                            try clear c17
                            try clear c19
                            try clear c19b0
                            try clear c19b1
                            try clear p32
                            try clear q32
                            try clear hx32
                            try clear c48
                            try clear c62
                            try clear p64
                            try clear c66
                            try clear c66b0
                            try clear hcz49_0
                            try clear hcz49_1
                            try clear hcz49_2
                            try clear hcz50_0
                            try clear hcz50_1
                            try clear hcz50_2
                            try clear hcz63_0
                            try clear hcz63_1
                            try clear hcz63_2
                            try clear hcz64_0
                            try clear hcz64_1
                            try clear hcz64_2
                            try clear hfz49_0
                            try clear hfz49_1
                            try clear hfz49_2
                            try clear hfz50_0
                            try clear hfz50_1
                            try clear hfz50_2
                            try clear hfz63_0
                            try clear hfz63_1
                            try clear hfz63_2
                            try clear hfz64_0
                            try clear hfz64_1
                            try clear hfz64_2
                            try clear hx328_0
                            try clear hx328_1
                            try clear hx328_2
                            try clear hx329_0
                            try clear hx329_1
                            try clear hx329_2
                            try clear p2
                            try clear p3
                            try clear p32
                            try clear p328
                            try clear p329
                            try clear p6
                            try clear p64
                            try clear q3
                            try clear q32
                            try clear q328
                            try clear q329
                            obtain ⟨x10_5, x11_5, x12_5, rfl, rfl, rfl, HA, HK5, HO_4, HB⟩ := hrel
                            cases gk with
                            | zero => exact absurd HA.out (by simp [tailwaterlaw34_SinkLate.l2])
                            | succ k5 =>
                              have H := HA.out
                              clear HA
                              simp only [tailwaterlaw34_SinkLate.l2] at H
                              by_cases c67 : x12_5 < (l0.length : Int)
                              · rw [if_pos c67] at H
                                have c67b0 : decide (x12_5 < (l0.length : Int)) = true := decide_eq_true c67
                                clear c67
                                by_cases c68 : 0 ≤ x12_5
                                · rw [if_pos c68] at H
                                  have c68b0 : decide (0 ≤ x12_5) = true := decide_eq_true c68
                                  clear c68
                                  by_cases c69 : 0 ≤ x9_4
                                  · rw [if_pos c69] at H
                                    have c69b0 : decide (0 ≤ x9_4) = true := decide_eq_true c69
                                    clear c69
                                    by_cases c70 : x9_4 < (l0.length : Int)
                                    · rw [if_pos c70] at H
                                      have c70b0 : decide (x9_4 < (l0.length : Int)) = true := decide_eq_true c70
                                      clear c70
                                      by_cases c71 : (((rd_T33 l0 x12_5).f0) == ((rd_T33 l0 x9_4).f0) && (((rd_T33 l0 x12_5).f1) == ((rd_T33 l0 x9_4).f1) && (((rd_T33 l0 x12_5).f2) == ((rd_T33 l0 x9_4).f2)))) = true
                                      · rw [if_pos c71] at H
                                        have c71b0 : (((rd_T33 l0 x12_5).f0) == ((rd_T33 l0 x9_4).f0) && (((rd_T33 l0 x12_5).f1) == ((rd_T33 l0 x9_4).f1) && (((rd_T33 l0 x12_5).f2) == ((rd_T33 l0 x9_4).f2)))) = true := c71
                                        (try (have c71b1 : decide (((rd_T33 l0 x12_5).f0) = ((rd_T33 l0 x9_4).f0) && (((rd_T33 l0 x12_5).f1) == ((rd_T33 l0 x9_4).f1) && (((rd_T33 l0 x12_5).f2) == ((rd_T33 l0 x9_4).f2)))) = true := by simpa using c71))
                                        (try (have c71b2 : (((rd_T33 l0 x12_5).f0) == ((rd_T33 l0 x9_4).f0) && (((rd_T33 l0 x12_5).f1) == ((rd_T33 l0 x9_4).f1) && (((rd_T33 l0 x12_5).f2) == ((rd_T33 l0 x9_4).f2)))) = true := by simpa using c71))
                                        clear c71
                                        by_cases c72 : x12_5 < (t324.length : Int)
                                        · rw [if_pos c72] at H
                                          have c72b0 : decide (x12_5 < (t324.length : Int)) = true := decide_eq_true c72
                                          clear c72
                                          by_cases c73 : (((rd_T33 t324 x12_5).f0) == ((rd_T33 l0 x9_4).f0) && (((rd_T33 t324 x12_5).f1) == ((rd_T33 l0 x9_4).f1) && (((rd_T33 t324 x12_5).f2) == ((rd_T33 l0 x9_4).f2)))) = true
                                          · rw [if_pos c73] at H
                                            have c73b0 : (((rd_T33 t324 x12_5).f0) == ((rd_T33 l0 x9_4).f0) && (((rd_T33 t324 x12_5).f1) == ((rd_T33 l0 x9_4).f1) && (((rd_T33 t324 x12_5).f2) == ((rd_T33 l0 x9_4).f2)))) = true := c73
                                            (try (have c73b1 : decide (((rd_T33 t324 x12_5).f0) = ((rd_T33 l0 x9_4).f0) && (((rd_T33 t324 x12_5).f1) == ((rd_T33 l0 x9_4).f1) && (((rd_T33 t324 x12_5).f2) == ((rd_T33 l0 x9_4).f2)))) = true := by simpa using c73))
                                            (try (have c73b2 : (((rd_T33 t324 x12_5).f0) == ((rd_T33 l0 x9_4).f0) && (((rd_T33 t324 x12_5).f1) == ((rd_T33 l0 x9_4).f1) && (((rd_T33 t324 x12_5).f2) == ((rd_T33 l0 x9_4).f2)))) = true := by simpa using c73))
                                            clear c73
                                            have H' := Aside0.mk H
                                            clear H
                                            try go_wp2
                                            have n0_ := Aside0.mk (Kd.R_drew HO_4.out)
                                            have n1_ := Aside0.mk (below_drew1 HB.out)
                                            clear HO_4 HB
                                            have HO_4 := n0_
                                            have HB := n1_
                                            clear n0_ n1_
                                            have p332 : 0 ≤ (x12_5 : Int) := of_decide_eq_true (by first | (with_reducible assumption) | assumption)
                                            have q332 : x12_5 < (l0.length : Int) := of_decide_eq_true (by first | (with_reducible assumption) | assumption)
                                            obtain ⟨ad332, e332, hx332_0, hx332_1, hx332_2⟩ := at_T33 HR0.out x12_5 p332 q332
                                            have hw332_2 := hx332_2
                                            have hw332_1 := hx332_1
                                            have hw332_0 := hx332_0
                                            cases e332
                                            replace hx332_0 := (HB.out.cell (World.block_lt_of_cell? w _ hx332_0)).trans hx332_0
                                            replace hx332_1 := (HB.out.cell (World.block_lt_of_cell? w _ hx332_1)).trans hx332_1
                                            replace hx332_2 := (HB.out.cell (World.block_lt_of_cell? w _ hx332_2)).trans hx332_2
                                            replace p332 := eq_true p332
                                            replace q332 := eq_true q332
                                            have p333 : 0 ≤ (x9_4 : Int) := of_decide_eq_true (by first | (with_reducible assumption) | assumption)
                                            have q333 : x9_4 < (l0.length : Int) := of_decide_eq_true (by first | (with_reducible assumption) | assumption)
                                            obtain ⟨ad333, e333, hx333_0, hx333_1, hx333_2⟩ := at_T33 HR0.out x9_4 p333 q333
                                            have hw333_2 := hx333_2
                                            have hw333_1 := hx333_1
                                            have hw333_0 := hx333_0
                                            obtain rfl : ad332 = ad333 := (by injection e333)
                                            replace hx333_0 := (HB.out.cell (World.block_lt_of_cell? w _ hx333_0)).trans hx333_0
                                            replace hx333_1 := (HB.out.cell (World.block_lt_of_cell? w _ hx333_1)).trans hx333_1
                                            replace hx333_2 := (HB.out.cell (World.block_lt_of_cell? w _ hx333_2)).trans hx333_2
                                            replace p333 := eq_true p333
                                            replace q333 := eq_true q333
                                            refine start_ (n := 9) (S := fun w' => w'.cell? (ad332.add ((x12_5).toNat * 3)) = some (.int .i64 ((rd_T33 l0 x12_5).f0)) ∧ w'.cell? ⟨(ad332.add ((x12_5).toNat * 3)).block, (ad332.add ((x12_5).toNat * 3)).off + 1, none⟩ = some (.int .i64 ((rd_T33 l0 x12_5).f1)) ∧ w'.cell? ⟨(ad332.add ((x12_5).toNat * 3)).block, (ad332.add ((x12_5).toNat * 3)).off + 2, none⟩ = some (.int .i64 ((rd_T33 l0 x12_5).f2)) ∧ w'.cell? (ad332.add ((x9_4).toNat * 3)) = some (.int .i64 ((rd_T33 l0 x9_4).f0)) ∧ w'.cell? ⟨(ad332.add ((x9_4).toNat * 3)).block, (ad332.add ((x9_4).toNat * 3)).off + 1, none⟩ = some (.int .i64 ((rd_T33 l0 x9_4).f1)) ∧ w'.cell? ⟨(ad332.add ((x9_4).toNat * 3)).block, (ad332.add ((x9_4).toNat * 3)).off + 2, none⟩ = some (.int .i64 ((rd_T33 l0 x9_4).f2))) (ds := []) #[false, false, false, false, false, false, false, false, false] (by kernel_rfl) rfl rfl ⟨((HB.out.cell (World.block_lt_of_cell? w _ hw332_0)).trans hw332_0), ((HB.out.cell (World.block_lt_of_cell? w _ hw332_1)).trans hw332_1), ((HB.out.cell (World.block_lt_of_cell? w _ hw332_2)).trans hw332_2), ((HB.out.cell (World.block_lt_of_cell? w _ hw333_0)).trans hw333_0), ((HB.out.cell (World.block_lt_of_cell? w _ hw333_1)).trans hw333_1), ((HB.out.cell (World.block_lt_of_cell? w _ hw333_2)).trans hw333_2)⟩ (fun hHeld => ?_); refine with_tabW tailwaterlaw34_SinkLate.tab20 tailwaterlaw34_SinkLate.bits20 (fun HT_ HW_ => ?_)
                                            generalize wr.drew = w74 at HO_4 HB hx332_0 hx332_1 hx332_2 hx333_0 hx333_1 hx333_2 hHeld ⊢
                                            refine pure_ (i := 0) (N := some 96) (v := ?_) (a' := ?_) #[true, false, false, false, false, false, false, false, false] rfl rfl (any_of HT_.out (by kernel_rfl)) (fun _ _ _ h => h) (Or.inl ⟨by rfl, ?_⟩) ?_ ?_
                                            rotate_left
                                            · intro w'
                                              go_simp
                                              with_reducible rfl
                                            rotate_left
                                            · simp only [Act.put, List.setIfInBounds_toArray, List.set_cons_zero, List.set_cons_succ, i64_w, i32_w]
                                              rfl
                                            refine pure_ (i := 1) (N := some 97) (v := ?_) (a' := ?_) #[true, true, false, false, false, false, false, false, false] rfl rfl (any_of HT_.out (by kernel_rfl)) (fun _ _ _ h => h) (Or.inl ⟨by rfl, ?_⟩) ?_ ?_
                                            rotate_left
                                            · intro w'
                                              go_simp
                                              with_reducible rfl
                                            rotate_left
                                            · simp only [Act.put, List.setIfInBounds_toArray, List.set_cons_zero, List.set_cons_succ, i64_w, i32_w]
                                              rfl
                                            refine pure_ (i := 2) (N := some 98) (v := ?_) (a' := ?_) #[true, true, true, false, false, false, false, false, false] rfl rfl (any_of HT_.out (by kernel_rfl)) (fun _ _ _ h => h) (Or.inl ⟨by rfl, ?_⟩) ?_ ?_
                                            rotate_left
                                            · intro w'
                                              go_simp
                                              with_reducible rfl
                                            rotate_left
                                            · simp only [Act.put, List.setIfInBounds_toArray, List.set_cons_zero, List.set_cons_succ, i64_w, i32_w]
                                              rfl
                                            refine pure_ (i := 4) (N := some 100) (v := ?_) (a' := ?_) #[true, true, true, false, true, false, false, false, false] rfl rfl (any_of HT_.out (by kernel_rfl)) (fun _ _ _ h => h) (Or.inl ⟨by rfl, ?_⟩) ?_ ?_
                                            rotate_left
                                            · intro w'
                                              go_simp
                                              with_reducible rfl
                                            rotate_left
                                            · simp only [Act.put, List.setIfInBounds_toArray, List.set_cons_zero, List.set_cons_succ, i64_w, i32_w]
                                              rfl
                                            refine pure_ (i := 5) (N := some 101) (v := ?_) (a' := ?_) #[true, true, true, false, true, true, false, false, false] rfl rfl (any_of HT_.out (by kernel_rfl)) (fun _ _ _ h => h) (Or.inl ⟨by rfl, ?_⟩) ?_ ?_
                                            rotate_left
                                            · intro w'
                                              go_simp
                                              with_reducible rfl
                                            rotate_left
                                            · simp only [Act.put, List.setIfInBounds_toArray, List.set_cons_zero, List.set_cons_succ, i64_w, i32_w]
                                              rfl
                                            refine pure_ (i := 6) (N := some 102) (v := ?_) (a' := ?_) #[true, true, true, false, true, true, true, false, false] rfl rfl (any_of HT_.out (by kernel_rfl)) (fun _ _ _ h => h) (Or.inl ⟨by rfl, ?_⟩) ?_ ?_
                                            rotate_left
                                            · intro w'
                                              go_simp
                                              with_reducible rfl
                                            rotate_left
                                            · simp only [Act.put, List.setIfInBounds_toArray, List.set_cons_zero, List.set_cons_succ, i64_w, i32_w]
                                              rfl
                                            refine take_ (i := 3) (N := some 99) (v := ?_) (a' := ?_) #[true, true, true, true, true, true, true, false, false] rfl rfl (take_ofW HT_.out HW_.out (by kernel_rfl)) (fun _ _ _ h => h) (Or.inl ⟨by rfl, ?_⟩) hHeld ?_ ?_
                                            rotate_left
                                            · rintro w' ⟨s0, s1, s2, s3, s4, s5⟩
                                              go_simp
                                              with_reducible rfl
                                            rotate_left
                                            · simp only [Act.put, List.setIfInBounds_toArray, List.set_cons_zero, List.set_cons_succ, i64_w, i32_w]
                                              rfl
                                            refine take_ (i := 7) (N := some 103) (v := ?_) (a' := ?_) #[true, true, true, true, true, true, true, true, false] rfl rfl (take_ofW HT_.out HW_.out (by kernel_rfl)) (fun _ _ _ h => h) (Or.inl ⟨by rfl, ?_⟩) hHeld ?_ ?_
                                            rotate_left
                                            · rintro w' ⟨s0, s1, s2, s3, s4, s5⟩
                                              go_simp
                                              with_reducible rfl
                                            rotate_left
                                            · simp only [Act.put, List.setIfInBounds_toArray, List.set_cons_zero, List.set_cons_succ, i64_w, i32_w]
                                              rfl
                                            refine pure_ (i := 8) (N := some 104) (v := ?_) (a' := ?_) #[true, true, true, true, true, true, true, true, true] rfl rfl (any_of HT_.out (by kernel_rfl)) (fun _ _ _ h => h) (Or.inl ⟨by rfl, ?_⟩) ?_ ?_
                                            rotate_left
                                            · intro w'
                                              go_simp
                                              with_reducible rfl
                                            rotate_left
                                            · simp only [Act.put, List.setIfInBounds_toArray, List.set_cons_zero, List.set_cons_succ, i64_w, i32_w]
                                              rfl
                                            refine done_ (done_of HT_.out (by kernel_rfl)) ?_
                                            try go_wp2
                                            have n0_ := Aside0.mk (Kd.R_drew HO_4.out)
                                            have n1_ := Aside0.mk (below_drew1 HB.out)
                                            clear HO_4 HB
                                            have HO_4 := n0_
                                            have HB := n1_
                                            clear n0_ n1_
                                            have p334 : 0 ≤ (x12_5 : Int) := of_decide_eq_true (by first | (with_reducible assumption) | assumption)
                                            have q334 : x12_5 < (t324.length : Int) := of_decide_eq_true (by first | (with_reducible assumption) | assumption)
                                            obtain ⟨ad334, e334, hx334_0, hx334_1, hx334_2⟩ := at_T33 (Kd.R_reads' HO_4.out).2.2 x12_5 p334 q334
                                            cases e334
                                            replace p334 := eq_true p334
                                            replace q334 := eq_true q334
                                            have p335 : 0 ≤ (x9_4 : Int) := of_decide_eq_true (by first | (with_reducible assumption) | assumption)
                                            have q335 : x9_4 < (l0.length : Int) := of_decide_eq_true (by first | (with_reducible assumption) | assumption)
                                            obtain ⟨ad335, e335, hx335_0, hx335_1, hx335_2⟩ := at_T33 HR0.out x9_4 p335 q335
                                            have hw335_2 := hx335_2
                                            have hw335_1 := hx335_1
                                            have hw335_0 := hx335_0
                                            obtain rfl : ad332 = ad335 := (by injection e335)
                                            replace hx335_0 := (HB.out.cell (World.block_lt_of_cell? w _ hx335_0)).trans hx335_0
                                            replace hx335_1 := (HB.out.cell (World.block_lt_of_cell? w _ hx335_1)).trans hx335_1
                                            replace hx335_2 := (HB.out.cell (World.block_lt_of_cell? w _ hx335_2)).trans hx335_2
                                            replace p335 := eq_true p335
                                            replace q335 := eq_true q335
                                            refine start_ (n := 9) (S := fun w' => w'.cell? (ad334.add ((x12_5).toNat * 3)) = some (.int .i64 ((rd_T33 t324 x12_5).f0)) ∧ w'.cell? ⟨(ad334.add ((x12_5).toNat * 3)).block, (ad334.add ((x12_5).toNat * 3)).off + 1, none⟩ = some (.int .i64 ((rd_T33 t324 x12_5).f1)) ∧ w'.cell? ⟨(ad334.add ((x12_5).toNat * 3)).block, (ad334.add ((x12_5).toNat * 3)).off + 2, none⟩ = some (.int .i64 ((rd_T33 t324 x12_5).f2)) ∧ w'.cell? (ad332.add ((x9_4).toNat * 3)) = some (.int .i64 ((rd_T33 l0 x9_4).f0)) ∧ w'.cell? ⟨(ad332.add ((x9_4).toNat * 3)).block, (ad332.add ((x9_4).toNat * 3)).off + 1, none⟩ = some (.int .i64 ((rd_T33 l0 x9_4).f1)) ∧ w'.cell? ⟨(ad332.add ((x9_4).toNat * 3)).block, (ad332.add ((x9_4).toNat * 3)).off + 2, none⟩ = some (.int .i64 ((rd_T33 l0 x9_4).f2))) (ds := []) #[false, false, false, false, false, false, false, false, false] (by kernel_rfl) rfl rfl ⟨hx334_0, hx334_1, hx334_2, ((HB.out.cell (World.block_lt_of_cell? w _ hw335_0)).trans hw335_0), ((HB.out.cell (World.block_lt_of_cell? w _ hw335_1)).trans hw335_1), ((HB.out.cell (World.block_lt_of_cell? w _ hw335_2)).trans hw335_2)⟩ (fun hHeld => ?_); refine with_tabW tailwaterlaw34_SinkLate.tab22 tailwaterlaw34_SinkLate.bits22 (fun HT_ HW_ => ?_)
                                            generalize w74.drew = w75 at HO_4 HB hx334_0 hx334_1 hx334_2 hx335_0 hx335_1 hx335_2 hHeld ⊢
                                            refine pure_ (i := 0) (N := some 107) (v := ?_) (a' := ?_) #[true, false, false, false, false, false, false, false, false] rfl rfl (any_of HT_.out (by kernel_rfl)) (fun _ _ _ h => h) (Or.inl ⟨by rfl, ?_⟩) ?_ ?_
                                            rotate_left
                                            · intro w'
                                              go_simp
                                              with_reducible rfl
                                            rotate_left
                                            · simp only [Act.put, List.setIfInBounds_toArray, List.set_cons_zero, List.set_cons_succ, i64_w, i32_w]
                                              rfl
                                            refine pure_ (i := 1) (N := some 108) (v := ?_) (a' := ?_) #[true, true, false, false, false, false, false, false, false] rfl rfl (any_of HT_.out (by kernel_rfl)) (fun _ _ _ h => h) (Or.inl ⟨by rfl, ?_⟩) ?_ ?_
                                            rotate_left
                                            · intro w'
                                              go_simp
                                              with_reducible rfl
                                            rotate_left
                                            · simp only [Act.put, List.setIfInBounds_toArray, List.set_cons_zero, List.set_cons_succ, i64_w, i32_w]
                                              rfl
                                            refine pure_ (i := 2) (N := some 109) (v := ?_) (a' := ?_) #[true, true, true, false, false, false, false, false, false] rfl rfl (any_of HT_.out (by kernel_rfl)) (fun _ _ _ h => h) (Or.inl ⟨by rfl, ?_⟩) ?_ ?_
                                            rotate_left
                                            · intro w'
                                              go_simp
                                              with_reducible rfl
                                            rotate_left
                                            · simp only [Act.put, List.setIfInBounds_toArray, List.set_cons_zero, List.set_cons_succ, i64_w, i32_w]
                                              rfl
                                            refine pure_ (i := 4) (N := some 111) (v := ?_) (a' := ?_) #[true, true, true, false, true, false, false, false, false] rfl rfl (any_of HT_.out (by kernel_rfl)) (fun _ _ _ h => h) (Or.inl ⟨by rfl, ?_⟩) ?_ ?_
                                            rotate_left
                                            · intro w'
                                              go_simp
                                              with_reducible rfl
                                            rotate_left
                                            · simp only [Act.put, List.setIfInBounds_toArray, List.set_cons_zero, List.set_cons_succ, i64_w, i32_w]
                                              rfl
                                            refine pure_ (i := 5) (N := some 112) (v := ?_) (a' := ?_) #[true, true, true, false, true, true, false, false, false] rfl rfl (any_of HT_.out (by kernel_rfl)) (fun _ _ _ h => h) (Or.inl ⟨by rfl, ?_⟩) ?_ ?_
                                            rotate_left
                                            · intro w'
                                              go_simp
                                              with_reducible rfl
                                            rotate_left
                                            · simp only [Act.put, List.setIfInBounds_toArray, List.set_cons_zero, List.set_cons_succ, i64_w, i32_w]
                                              rfl
                                            refine pure_ (i := 6) (N := some 113) (v := ?_) (a' := ?_) #[true, true, true, false, true, true, true, false, false] rfl rfl (any_of HT_.out (by kernel_rfl)) (fun _ _ _ h => h) (Or.inl ⟨by rfl, ?_⟩) ?_ ?_
                                            rotate_left
                                            · intro w'
                                              go_simp
                                              with_reducible rfl
                                            rotate_left
                                            · simp only [Act.put, List.setIfInBounds_toArray, List.set_cons_zero, List.set_cons_succ, i64_w, i32_w]
                                              rfl
                                            refine take_ (i := 3) (N := some 110) (v := ?_) (a' := ?_) #[true, true, true, true, true, true, true, false, false] rfl rfl (take_ofW HT_.out HW_.out (by kernel_rfl)) (fun _ _ _ h => h) (Or.inl ⟨by rfl, ?_⟩) hHeld ?_ ?_
                                            rotate_left
                                            · rintro w' ⟨s0, s1, s2, s3, s4, s5⟩
                                              go_simp
                                              with_reducible rfl
                                            rotate_left
                                            · simp only [Act.put, List.setIfInBounds_toArray, List.set_cons_zero, List.set_cons_succ, i64_w, i32_w]
                                              rfl
                                            refine take_ (i := 7) (N := some 114) (v := ?_) (a' := ?_) #[true, true, true, true, true, true, true, true, false] rfl rfl (take_ofW HT_.out HW_.out (by kernel_rfl)) (fun _ _ _ h => h) (Or.inl ⟨by rfl, ?_⟩) hHeld ?_ ?_
                                            rotate_left
                                            · rintro w' ⟨s0, s1, s2, s3, s4, s5⟩
                                              go_simp
                                              with_reducible rfl
                                            rotate_left
                                            · simp only [Act.put, List.setIfInBounds_toArray, List.set_cons_zero, List.set_cons_succ, i64_w, i32_w]
                                              rfl
                                            refine pure_ (i := 8) (N := some 115) (v := ?_) (a' := ?_) #[true, true, true, true, true, true, true, true, true] rfl rfl (any_of HT_.out (by kernel_rfl)) (fun _ _ _ h => h) (Or.inl ⟨by rfl, ?_⟩) ?_ ?_
                                            rotate_left
                                            · intro w'
                                              go_simp
                                              with_reducible rfl
                                            rotate_left
                                            · simp only [Act.put, List.setIfInBounds_toArray, List.set_cons_zero, List.set_cons_succ, i64_w, i32_w]
                                              rfl
                                            refine done_ (done_of HT_.out (by kernel_rfl)) ?_
                                            try go_wp2
                                            go_roundg k5
                                            case measure => have := HJ2.out; have := HJ7.out; have := HK3.out; have := HK4.out; have := HK5.out; omega
                                            case rel => exact ⟨(wrap64 (x10_5 + 1)), (wrap64 (x11_5 + 1)), (wrap64 (x12_5 + 1)), (by first | rfl | (simp; done) | (simp [*]; done)), (by first | rfl | (simp; done) | (simp [*]; done)), (by first | rfl | (simp; done) | (simp [*]; done)), H', ⟨by have := HJ2.out; have := HJ7.out; have := HK3.out; have := HK4.out; have := HK5.out; omega⟩, ⟨by (with_reducible repeat (first | apply Kd.R_alloc | apply Kd.R_drewN | apply Kd.R_drew)); exact HO_4.out⟩, ⟨by repeat (first | (with_reducible first | exact HB.out | apply below_alloc | apply pw_below_drewN | apply below_drew1) | exact HB.out)⟩⟩
                                          · rw [if_neg c73] at H
                                            have c73b0 : (((rd_T33 t324 x12_5).f0) == ((rd_T33 l0 x9_4).f0) && (((rd_T33 t324 x12_5).f1) == ((rd_T33 l0 x9_4).f1) && (((rd_T33 t324 x12_5).f2) == ((rd_T33 l0 x9_4).f2)))) = false := by simpa using c73
                                            (try (have c73b1 : decide (((rd_T33 t324 x12_5).f0) = ((rd_T33 l0 x9_4).f0) && (((rd_T33 t324 x12_5).f1) == ((rd_T33 l0 x9_4).f1) && (((rd_T33 t324 x12_5).f2) == ((rd_T33 l0 x9_4).f2)))) = false := by simpa using c73))
                                            (try (have c73b2 : (((rd_T33 t324 x12_5).f0) == ((rd_T33 l0 x9_4).f0) && (((rd_T33 t324 x12_5).f1) == ((rd_T33 l0 x9_4).f1) && (((rd_T33 t324 x12_5).f2) == ((rd_T33 l0 x9_4).f2)))) = false := by simpa using c73))
                                            (try (have c73b3 : ¬ (((rd_T33 t324 x12_5).f0) = ((rd_T33 l0 x9_4).f0) && (((rd_T33 t324 x12_5).f1) == ((rd_T33 l0 x9_4).f1) && (((rd_T33 t324 x12_5).f2) == ((rd_T33 l0 x9_4).f2)))) := by simpa using c73))
                                            clear c73
                                            have H' := Aside0.mk H
                                            clear H
                                            try go_wp2
                                            have n0_ := Aside0.mk (Kd.R_drew HO_4.out)
                                            have n1_ := Aside0.mk (below_drew1 HB.out)
                                            clear HO_4 HB
                                            have HO_4 := n0_
                                            have HB := n1_
                                            clear n0_ n1_
                                            have p332 : 0 ≤ (x12_5 : Int) := of_decide_eq_true (by first | (with_reducible assumption) | assumption)
                                            have q332 : x12_5 < (l0.length : Int) := of_decide_eq_true (by first | (with_reducible assumption) | assumption)
                                            obtain ⟨ad332, e332, hx332_0, hx332_1, hx332_2⟩ := at_T33 HR0.out x12_5 p332 q332
                                            have hw332_2 := hx332_2
                                            have hw332_1 := hx332_1
                                            have hw332_0 := hx332_0
                                            cases e332
                                            replace hx332_0 := (HB.out.cell (World.block_lt_of_cell? w _ hx332_0)).trans hx332_0
                                            replace hx332_1 := (HB.out.cell (World.block_lt_of_cell? w _ hx332_1)).trans hx332_1
                                            replace hx332_2 := (HB.out.cell (World.block_lt_of_cell? w _ hx332_2)).trans hx332_2
                                            replace p332 := eq_true p332
                                            replace q332 := eq_true q332
                                            have p333 : 0 ≤ (x9_4 : Int) := of_decide_eq_true (by first | (with_reducible assumption) | assumption)
                                            have q333 : x9_4 < (l0.length : Int) := of_decide_eq_true (by first | (with_reducible assumption) | assumption)
                                            obtain ⟨ad333, e333, hx333_0, hx333_1, hx333_2⟩ := at_T33 HR0.out x9_4 p333 q333
                                            have hw333_2 := hx333_2
                                            have hw333_1 := hx333_1
                                            have hw333_0 := hx333_0
                                            obtain rfl : ad332 = ad333 := (by injection e333)
                                            replace hx333_0 := (HB.out.cell (World.block_lt_of_cell? w _ hx333_0)).trans hx333_0
                                            replace hx333_1 := (HB.out.cell (World.block_lt_of_cell? w _ hx333_1)).trans hx333_1
                                            replace hx333_2 := (HB.out.cell (World.block_lt_of_cell? w _ hx333_2)).trans hx333_2
                                            replace p333 := eq_true p333
                                            replace q333 := eq_true q333
                                            refine start_ (n := 9) (S := fun w' => w'.cell? (ad332.add ((x12_5).toNat * 3)) = some (.int .i64 ((rd_T33 l0 x12_5).f0)) ∧ w'.cell? ⟨(ad332.add ((x12_5).toNat * 3)).block, (ad332.add ((x12_5).toNat * 3)).off + 1, none⟩ = some (.int .i64 ((rd_T33 l0 x12_5).f1)) ∧ w'.cell? ⟨(ad332.add ((x12_5).toNat * 3)).block, (ad332.add ((x12_5).toNat * 3)).off + 2, none⟩ = some (.int .i64 ((rd_T33 l0 x12_5).f2)) ∧ w'.cell? (ad332.add ((x9_4).toNat * 3)) = some (.int .i64 ((rd_T33 l0 x9_4).f0)) ∧ w'.cell? ⟨(ad332.add ((x9_4).toNat * 3)).block, (ad332.add ((x9_4).toNat * 3)).off + 1, none⟩ = some (.int .i64 ((rd_T33 l0 x9_4).f1)) ∧ w'.cell? ⟨(ad332.add ((x9_4).toNat * 3)).block, (ad332.add ((x9_4).toNat * 3)).off + 2, none⟩ = some (.int .i64 ((rd_T33 l0 x9_4).f2))) (ds := []) #[false, false, false, false, false, false, false, false, false] (by kernel_rfl) rfl rfl ⟨((HB.out.cell (World.block_lt_of_cell? w _ hw332_0)).trans hw332_0), ((HB.out.cell (World.block_lt_of_cell? w _ hw332_1)).trans hw332_1), ((HB.out.cell (World.block_lt_of_cell? w _ hw332_2)).trans hw332_2), ((HB.out.cell (World.block_lt_of_cell? w _ hw333_0)).trans hw333_0), ((HB.out.cell (World.block_lt_of_cell? w _ hw333_1)).trans hw333_1), ((HB.out.cell (World.block_lt_of_cell? w _ hw333_2)).trans hw333_2)⟩ (fun hHeld => ?_); refine with_tabW tailwaterlaw34_SinkLate.tab20 tailwaterlaw34_SinkLate.bits20 (fun HT_ HW_ => ?_)
                                            generalize wr.drew = w76 at HO_4 HB hx332_0 hx332_1 hx332_2 hx333_0 hx333_1 hx333_2 hHeld ⊢
                                            refine pure_ (i := 0) (N := some 96) (v := ?_) (a' := ?_) #[true, false, false, false, false, false, false, false, false] rfl rfl (any_of HT_.out (by kernel_rfl)) (fun _ _ _ h => h) (Or.inl ⟨by rfl, ?_⟩) ?_ ?_
                                            rotate_left
                                            · intro w'
                                              go_simp
                                              with_reducible rfl
                                            rotate_left
                                            · simp only [Act.put, List.setIfInBounds_toArray, List.set_cons_zero, List.set_cons_succ, i64_w, i32_w]
                                              rfl
                                            refine pure_ (i := 1) (N := some 97) (v := ?_) (a' := ?_) #[true, true, false, false, false, false, false, false, false] rfl rfl (any_of HT_.out (by kernel_rfl)) (fun _ _ _ h => h) (Or.inl ⟨by rfl, ?_⟩) ?_ ?_
                                            rotate_left
                                            · intro w'
                                              go_simp
                                              with_reducible rfl
                                            rotate_left
                                            · simp only [Act.put, List.setIfInBounds_toArray, List.set_cons_zero, List.set_cons_succ, i64_w, i32_w]
                                              rfl
                                            refine pure_ (i := 2) (N := some 98) (v := ?_) (a' := ?_) #[true, true, true, false, false, false, false, false, false] rfl rfl (any_of HT_.out (by kernel_rfl)) (fun _ _ _ h => h) (Or.inl ⟨by rfl, ?_⟩) ?_ ?_
                                            rotate_left
                                            · intro w'
                                              go_simp
                                              with_reducible rfl
                                            rotate_left
                                            · simp only [Act.put, List.setIfInBounds_toArray, List.set_cons_zero, List.set_cons_succ, i64_w, i32_w]
                                              rfl
                                            refine pure_ (i := 4) (N := some 100) (v := ?_) (a' := ?_) #[true, true, true, false, true, false, false, false, false] rfl rfl (any_of HT_.out (by kernel_rfl)) (fun _ _ _ h => h) (Or.inl ⟨by rfl, ?_⟩) ?_ ?_
                                            rotate_left
                                            · intro w'
                                              go_simp
                                              with_reducible rfl
                                            rotate_left
                                            · simp only [Act.put, List.setIfInBounds_toArray, List.set_cons_zero, List.set_cons_succ, i64_w, i32_w]
                                              rfl
                                            refine pure_ (i := 5) (N := some 101) (v := ?_) (a' := ?_) #[true, true, true, false, true, true, false, false, false] rfl rfl (any_of HT_.out (by kernel_rfl)) (fun _ _ _ h => h) (Or.inl ⟨by rfl, ?_⟩) ?_ ?_
                                            rotate_left
                                            · intro w'
                                              go_simp
                                              with_reducible rfl
                                            rotate_left
                                            · simp only [Act.put, List.setIfInBounds_toArray, List.set_cons_zero, List.set_cons_succ, i64_w, i32_w]
                                              rfl
                                            refine pure_ (i := 6) (N := some 102) (v := ?_) (a' := ?_) #[true, true, true, false, true, true, true, false, false] rfl rfl (any_of HT_.out (by kernel_rfl)) (fun _ _ _ h => h) (Or.inl ⟨by rfl, ?_⟩) ?_ ?_
                                            rotate_left
                                            · intro w'
                                              go_simp
                                              with_reducible rfl
                                            rotate_left
                                            · simp only [Act.put, List.setIfInBounds_toArray, List.set_cons_zero, List.set_cons_succ, i64_w, i32_w]
                                              rfl
                                            refine take_ (i := 3) (N := some 99) (v := ?_) (a' := ?_) #[true, true, true, true, true, true, true, false, false] rfl rfl (take_ofW HT_.out HW_.out (by kernel_rfl)) (fun _ _ _ h => h) (Or.inl ⟨by rfl, ?_⟩) hHeld ?_ ?_
                                            rotate_left
                                            · rintro w' ⟨s0, s1, s2, s3, s4, s5⟩
                                              go_simp
                                              with_reducible rfl
                                            rotate_left
                                            · simp only [Act.put, List.setIfInBounds_toArray, List.set_cons_zero, List.set_cons_succ, i64_w, i32_w]
                                              rfl
                                            refine take_ (i := 7) (N := some 103) (v := ?_) (a' := ?_) #[true, true, true, true, true, true, true, true, false] rfl rfl (take_ofW HT_.out HW_.out (by kernel_rfl)) (fun _ _ _ h => h) (Or.inl ⟨by rfl, ?_⟩) hHeld ?_ ?_
                                            rotate_left
                                            · rintro w' ⟨s0, s1, s2, s3, s4, s5⟩
                                              go_simp
                                              with_reducible rfl
                                            rotate_left
                                            · simp only [Act.put, List.setIfInBounds_toArray, List.set_cons_zero, List.set_cons_succ, i64_w, i32_w]
                                              rfl
                                            refine pure_ (i := 8) (N := some 104) (v := ?_) (a' := ?_) #[true, true, true, true, true, true, true, true, true] rfl rfl (any_of HT_.out (by kernel_rfl)) (fun _ _ _ h => h) (Or.inl ⟨by rfl, ?_⟩) ?_ ?_
                                            rotate_left
                                            · intro w'
                                              go_simp
                                              with_reducible rfl
                                            rotate_left
                                            · simp only [Act.put, List.setIfInBounds_toArray, List.set_cons_zero, List.set_cons_succ, i64_w, i32_w]
                                              rfl
                                            refine done_ (done_of HT_.out (by kernel_rfl)) ?_
                                            try go_wp2
                                            have n0_ := Aside0.mk (Kd.R_drew HO_4.out)
                                            have n1_ := Aside0.mk (below_drew1 HB.out)
                                            clear HO_4 HB
                                            have HO_4 := n0_
                                            have HB := n1_
                                            clear n0_ n1_
                                            have p334 : 0 ≤ (x12_5 : Int) := of_decide_eq_true (by first | (with_reducible assumption) | assumption)
                                            have q334 : x12_5 < (t324.length : Int) := of_decide_eq_true (by first | (with_reducible assumption) | assumption)
                                            obtain ⟨ad334, e334, hx334_0, hx334_1, hx334_2⟩ := at_T33 (Kd.R_reads' HO_4.out).2.2 x12_5 p334 q334
                                            cases e334
                                            replace p334 := eq_true p334
                                            replace q334 := eq_true q334
                                            have p335 : 0 ≤ (x9_4 : Int) := of_decide_eq_true (by first | (with_reducible assumption) | assumption)
                                            have q335 : x9_4 < (l0.length : Int) := of_decide_eq_true (by first | (with_reducible assumption) | assumption)
                                            obtain ⟨ad335, e335, hx335_0, hx335_1, hx335_2⟩ := at_T33 HR0.out x9_4 p335 q335
                                            have hw335_2 := hx335_2
                                            have hw335_1 := hx335_1
                                            have hw335_0 := hx335_0
                                            obtain rfl : ad332 = ad335 := (by injection e335)
                                            replace hx335_0 := (HB.out.cell (World.block_lt_of_cell? w _ hx335_0)).trans hx335_0
                                            replace hx335_1 := (HB.out.cell (World.block_lt_of_cell? w _ hx335_1)).trans hx335_1
                                            replace hx335_2 := (HB.out.cell (World.block_lt_of_cell? w _ hx335_2)).trans hx335_2
                                            replace p335 := eq_true p335
                                            replace q335 := eq_true q335
                                            refine start_ (n := 9) (S := fun w' => w'.cell? (ad334.add ((x12_5).toNat * 3)) = some (.int .i64 ((rd_T33 t324 x12_5).f0)) ∧ w'.cell? ⟨(ad334.add ((x12_5).toNat * 3)).block, (ad334.add ((x12_5).toNat * 3)).off + 1, none⟩ = some (.int .i64 ((rd_T33 t324 x12_5).f1)) ∧ w'.cell? ⟨(ad334.add ((x12_5).toNat * 3)).block, (ad334.add ((x12_5).toNat * 3)).off + 2, none⟩ = some (.int .i64 ((rd_T33 t324 x12_5).f2)) ∧ w'.cell? (ad332.add ((x9_4).toNat * 3)) = some (.int .i64 ((rd_T33 l0 x9_4).f0)) ∧ w'.cell? ⟨(ad332.add ((x9_4).toNat * 3)).block, (ad332.add ((x9_4).toNat * 3)).off + 1, none⟩ = some (.int .i64 ((rd_T33 l0 x9_4).f1)) ∧ w'.cell? ⟨(ad332.add ((x9_4).toNat * 3)).block, (ad332.add ((x9_4).toNat * 3)).off + 2, none⟩ = some (.int .i64 ((rd_T33 l0 x9_4).f2))) (ds := []) #[false, false, false, false, false, false, false, false, false] (by kernel_rfl) rfl rfl ⟨hx334_0, hx334_1, hx334_2, ((HB.out.cell (World.block_lt_of_cell? w _ hw335_0)).trans hw335_0), ((HB.out.cell (World.block_lt_of_cell? w _ hw335_1)).trans hw335_1), ((HB.out.cell (World.block_lt_of_cell? w _ hw335_2)).trans hw335_2)⟩ (fun hHeld => ?_); refine with_tabW tailwaterlaw34_SinkLate.tab22 tailwaterlaw34_SinkLate.bits22 (fun HT_ HW_ => ?_)
                                            generalize w76.drew = w77 at HO_4 HB hx334_0 hx334_1 hx334_2 hx335_0 hx335_1 hx335_2 hHeld ⊢
                                            refine pure_ (i := 0) (N := some 107) (v := ?_) (a' := ?_) #[true, false, false, false, false, false, false, false, false] rfl rfl (any_of HT_.out (by kernel_rfl)) (fun _ _ _ h => h) (Or.inl ⟨by rfl, ?_⟩) ?_ ?_
                                            rotate_left
                                            · intro w'
                                              go_simp
                                              with_reducible rfl
                                            rotate_left
                                            · simp only [Act.put, List.setIfInBounds_toArray, List.set_cons_zero, List.set_cons_succ, i64_w, i32_w]
                                              rfl
                                            refine pure_ (i := 1) (N := some 108) (v := ?_) (a' := ?_) #[true, true, false, false, false, false, false, false, false] rfl rfl (any_of HT_.out (by kernel_rfl)) (fun _ _ _ h => h) (Or.inl ⟨by rfl, ?_⟩) ?_ ?_
                                            rotate_left
                                            · intro w'
                                              go_simp
                                              with_reducible rfl
                                            rotate_left
                                            · simp only [Act.put, List.setIfInBounds_toArray, List.set_cons_zero, List.set_cons_succ, i64_w, i32_w]
                                              rfl
                                            refine pure_ (i := 2) (N := some 109) (v := ?_) (a' := ?_) #[true, true, true, false, false, false, false, false, false] rfl rfl (any_of HT_.out (by kernel_rfl)) (fun _ _ _ h => h) (Or.inl ⟨by rfl, ?_⟩) ?_ ?_
                                            rotate_left
                                            · intro w'
                                              go_simp
                                              with_reducible rfl
                                            rotate_left
                                            · simp only [Act.put, List.setIfInBounds_toArray, List.set_cons_zero, List.set_cons_succ, i64_w, i32_w]
                                              rfl
                                            refine pure_ (i := 4) (N := some 111) (v := ?_) (a' := ?_) #[true, true, true, false, true, false, false, false, false] rfl rfl (any_of HT_.out (by kernel_rfl)) (fun _ _ _ h => h) (Or.inl ⟨by rfl, ?_⟩) ?_ ?_
                                            rotate_left
                                            · intro w'
                                              go_simp
                                              with_reducible rfl
                                            rotate_left
                                            · simp only [Act.put, List.setIfInBounds_toArray, List.set_cons_zero, List.set_cons_succ, i64_w, i32_w]
                                              rfl
                                            refine pure_ (i := 5) (N := some 112) (v := ?_) (a' := ?_) #[true, true, true, false, true, true, false, false, false] rfl rfl (any_of HT_.out (by kernel_rfl)) (fun _ _ _ h => h) (Or.inl ⟨by rfl, ?_⟩) ?_ ?_
                                            rotate_left
                                            · intro w'
                                              go_simp
                                              with_reducible rfl
                                            rotate_left
                                            · simp only [Act.put, List.setIfInBounds_toArray, List.set_cons_zero, List.set_cons_succ, i64_w, i32_w]
                                              rfl
                                            refine pure_ (i := 6) (N := some 113) (v := ?_) (a' := ?_) #[true, true, true, false, true, true, true, false, false] rfl rfl (any_of HT_.out (by kernel_rfl)) (fun _ _ _ h => h) (Or.inl ⟨by rfl, ?_⟩) ?_ ?_
                                            rotate_left
                                            · intro w'
                                              go_simp
                                              with_reducible rfl
                                            rotate_left
                                            · simp only [Act.put, List.setIfInBounds_toArray, List.set_cons_zero, List.set_cons_succ, i64_w, i32_w]
                                              rfl
                                            refine take_ (i := 3) (N := some 110) (v := ?_) (a' := ?_) #[true, true, true, true, true, true, true, false, false] rfl rfl (take_ofW HT_.out HW_.out (by kernel_rfl)) (fun _ _ _ h => h) (Or.inl ⟨by rfl, ?_⟩) hHeld ?_ ?_
                                            rotate_left
                                            · rintro w' ⟨s0, s1, s2, s3, s4, s5⟩
                                              go_simp
                                              with_reducible rfl
                                            rotate_left
                                            · simp only [Act.put, List.setIfInBounds_toArray, List.set_cons_zero, List.set_cons_succ, i64_w, i32_w]
                                              rfl
                                            refine take_ (i := 7) (N := some 114) (v := ?_) (a' := ?_) #[true, true, true, true, true, true, true, true, false] rfl rfl (take_ofW HT_.out HW_.out (by kernel_rfl)) (fun _ _ _ h => h) (Or.inl ⟨by rfl, ?_⟩) hHeld ?_ ?_
                                            rotate_left
                                            · rintro w' ⟨s0, s1, s2, s3, s4, s5⟩
                                              go_simp
                                              with_reducible rfl
                                            rotate_left
                                            · simp only [Act.put, List.setIfInBounds_toArray, List.set_cons_zero, List.set_cons_succ, i64_w, i32_w]
                                              rfl
                                            refine pure_ (i := 8) (N := some 115) (v := ?_) (a' := ?_) #[true, true, true, true, true, true, true, true, true] rfl rfl (any_of HT_.out (by kernel_rfl)) (fun _ _ _ h => h) (Or.inl ⟨by rfl, ?_⟩) ?_ ?_
                                            rotate_left
                                            · intro w'
                                              go_simp
                                              with_reducible rfl
                                            rotate_left
                                            · simp only [Act.put, List.setIfInBounds_toArray, List.set_cons_zero, List.set_cons_succ, i64_w, i32_w]
                                              rfl
                                            refine done_ (done_of HT_.out (by kernel_rfl)) ?_
                                            try go_wp2
                                            go_roundg k5
                                            case measure => have := HJ2.out; have := HJ7.out; have := HK3.out; have := HK4.out; have := HK5.out; omega
                                            case rel => exact ⟨(wrap64 (x10_5 + 1)), (x11_5), (wrap64 (x12_5 + 1)), (by first | rfl | (simp; done) | (simp [*]; done)), (by first | rfl | (simp; done) | (simp [*]; done)), (by first | rfl | (simp; done) | (simp [*]; done)), H', ⟨by have := HJ2.out; have := HJ7.out; have := HK3.out; have := HK4.out; have := HK5.out; omega⟩, ⟨by (with_reducible repeat (first | apply Kd.R_alloc | apply Kd.R_drewN | apply Kd.R_drew)); exact HO_4.out⟩, ⟨by repeat (first | (with_reducible first | exact HB.out | apply below_alloc | apply pw_below_drewN | apply below_drew1) | exact HB.out)⟩⟩
                                        · rw [if_neg c72] at H
                                          exact absurd H (by simp)
                                      · rw [if_neg c71] at H
                                        have c71b0 : (((rd_T33 l0 x12_5).f0) == ((rd_T33 l0 x9_4).f0) && (((rd_T33 l0 x12_5).f1) == ((rd_T33 l0 x9_4).f1) && (((rd_T33 l0 x12_5).f2) == ((rd_T33 l0 x9_4).f2)))) = false := by simpa using c71
                                        (try (have c71b1 : decide (((rd_T33 l0 x12_5).f0) = ((rd_T33 l0 x9_4).f0) && (((rd_T33 l0 x12_5).f1) == ((rd_T33 l0 x9_4).f1) && (((rd_T33 l0 x12_5).f2) == ((rd_T33 l0 x9_4).f2)))) = false := by simpa using c71))
                                        (try (have c71b2 : (((rd_T33 l0 x12_5).f0) == ((rd_T33 l0 x9_4).f0) && (((rd_T33 l0 x12_5).f1) == ((rd_T33 l0 x9_4).f1) && (((rd_T33 l0 x12_5).f2) == ((rd_T33 l0 x9_4).f2)))) = false := by simpa using c71))
                                        (try (have c71b3 : ¬ (((rd_T33 l0 x12_5).f0) = ((rd_T33 l0 x9_4).f0) && (((rd_T33 l0 x12_5).f1) == ((rd_T33 l0 x9_4).f1) && (((rd_T33 l0 x12_5).f2) == ((rd_T33 l0 x9_4).f2)))) := by simpa using c71))
                                        clear c71
                                        by_cases c78 : x12_5 < (t324.length : Int)
                                        · rw [if_pos c78] at H
                                          have c78b0 : decide (x12_5 < (t324.length : Int)) = true := decide_eq_true c78
                                          clear c78
                                          by_cases c79 : (((rd_T33 t324 x12_5).f0) == ((rd_T33 l0 x9_4).f0) && (((rd_T33 t324 x12_5).f1) == ((rd_T33 l0 x9_4).f1) && (((rd_T33 t324 x12_5).f2) == ((rd_T33 l0 x9_4).f2)))) = true
                                          · rw [if_pos c79] at H
                                            have c79b0 : (((rd_T33 t324 x12_5).f0) == ((rd_T33 l0 x9_4).f0) && (((rd_T33 t324 x12_5).f1) == ((rd_T33 l0 x9_4).f1) && (((rd_T33 t324 x12_5).f2) == ((rd_T33 l0 x9_4).f2)))) = true := c79
                                            (try (have c79b1 : decide (((rd_T33 t324 x12_5).f0) = ((rd_T33 l0 x9_4).f0) && (((rd_T33 t324 x12_5).f1) == ((rd_T33 l0 x9_4).f1) && (((rd_T33 t324 x12_5).f2) == ((rd_T33 l0 x9_4).f2)))) = true := by simpa using c79))
                                            (try (have c79b2 : (((rd_T33 t324 x12_5).f0) == ((rd_T33 l0 x9_4).f0) && (((rd_T33 t324 x12_5).f1) == ((rd_T33 l0 x9_4).f1) && (((rd_T33 t324 x12_5).f2) == ((rd_T33 l0 x9_4).f2)))) = true := by simpa using c79))
                                            clear c79
                                            have H' := Aside0.mk H
                                            clear H
                                            try go_wp2
                                            have n0_ := Aside0.mk (Kd.R_drew HO_4.out)
                                            have n1_ := Aside0.mk (below_drew1 HB.out)
                                            clear HO_4 HB
                                            have HO_4 := n0_
                                            have HB := n1_
                                            clear n0_ n1_
                                            have p332 : 0 ≤ (x12_5 : Int) := of_decide_eq_true (by first | (with_reducible assumption) | assumption)
                                            have q332 : x12_5 < (l0.length : Int) := of_decide_eq_true (by first | (with_reducible assumption) | assumption)
                                            obtain ⟨ad332, e332, hx332_0, hx332_1, hx332_2⟩ := at_T33 HR0.out x12_5 p332 q332
                                            have hw332_2 := hx332_2
                                            have hw332_1 := hx332_1
                                            have hw332_0 := hx332_0
                                            cases e332
                                            replace hx332_0 := (HB.out.cell (World.block_lt_of_cell? w _ hx332_0)).trans hx332_0
                                            replace hx332_1 := (HB.out.cell (World.block_lt_of_cell? w _ hx332_1)).trans hx332_1
                                            replace hx332_2 := (HB.out.cell (World.block_lt_of_cell? w _ hx332_2)).trans hx332_2
                                            replace p332 := eq_true p332
                                            replace q332 := eq_true q332
                                            have p333 : 0 ≤ (x9_4 : Int) := of_decide_eq_true (by first | (with_reducible assumption) | assumption)
                                            have q333 : x9_4 < (l0.length : Int) := of_decide_eq_true (by first | (with_reducible assumption) | assumption)
                                            obtain ⟨ad333, e333, hx333_0, hx333_1, hx333_2⟩ := at_T33 HR0.out x9_4 p333 q333
                                            have hw333_2 := hx333_2
                                            have hw333_1 := hx333_1
                                            have hw333_0 := hx333_0
                                            obtain rfl : ad332 = ad333 := (by injection e333)
                                            replace hx333_0 := (HB.out.cell (World.block_lt_of_cell? w _ hx333_0)).trans hx333_0
                                            replace hx333_1 := (HB.out.cell (World.block_lt_of_cell? w _ hx333_1)).trans hx333_1
                                            replace hx333_2 := (HB.out.cell (World.block_lt_of_cell? w _ hx333_2)).trans hx333_2
                                            replace p333 := eq_true p333
                                            replace q333 := eq_true q333
                                            refine start_ (n := 9) (S := fun w' => w'.cell? (ad332.add ((x12_5).toNat * 3)) = some (.int .i64 ((rd_T33 l0 x12_5).f0)) ∧ w'.cell? ⟨(ad332.add ((x12_5).toNat * 3)).block, (ad332.add ((x12_5).toNat * 3)).off + 1, none⟩ = some (.int .i64 ((rd_T33 l0 x12_5).f1)) ∧ w'.cell? ⟨(ad332.add ((x12_5).toNat * 3)).block, (ad332.add ((x12_5).toNat * 3)).off + 2, none⟩ = some (.int .i64 ((rd_T33 l0 x12_5).f2)) ∧ w'.cell? (ad332.add ((x9_4).toNat * 3)) = some (.int .i64 ((rd_T33 l0 x9_4).f0)) ∧ w'.cell? ⟨(ad332.add ((x9_4).toNat * 3)).block, (ad332.add ((x9_4).toNat * 3)).off + 1, none⟩ = some (.int .i64 ((rd_T33 l0 x9_4).f1)) ∧ w'.cell? ⟨(ad332.add ((x9_4).toNat * 3)).block, (ad332.add ((x9_4).toNat * 3)).off + 2, none⟩ = some (.int .i64 ((rd_T33 l0 x9_4).f2))) (ds := []) #[false, false, false, false, false, false, false, false, false] (by kernel_rfl) rfl rfl ⟨((HB.out.cell (World.block_lt_of_cell? w _ hw332_0)).trans hw332_0), ((HB.out.cell (World.block_lt_of_cell? w _ hw332_1)).trans hw332_1), ((HB.out.cell (World.block_lt_of_cell? w _ hw332_2)).trans hw332_2), ((HB.out.cell (World.block_lt_of_cell? w _ hw333_0)).trans hw333_0), ((HB.out.cell (World.block_lt_of_cell? w _ hw333_1)).trans hw333_1), ((HB.out.cell (World.block_lt_of_cell? w _ hw333_2)).trans hw333_2)⟩ (fun hHeld => ?_); refine with_tabW tailwaterlaw34_SinkLate.tab20 tailwaterlaw34_SinkLate.bits20 (fun HT_ HW_ => ?_)
                                            generalize wr.drew = w80 at HO_4 HB hx332_0 hx332_1 hx332_2 hx333_0 hx333_1 hx333_2 hHeld ⊢
                                            refine pure_ (i := 0) (N := some 96) (v := ?_) (a' := ?_) #[true, false, false, false, false, false, false, false, false] rfl rfl (any_of HT_.out (by kernel_rfl)) (fun _ _ _ h => h) (Or.inl ⟨by rfl, ?_⟩) ?_ ?_
                                            rotate_left
                                            · intro w'
                                              go_simp
                                              with_reducible rfl
                                            rotate_left
                                            · simp only [Act.put, List.setIfInBounds_toArray, List.set_cons_zero, List.set_cons_succ, i64_w, i32_w]
                                              rfl
                                            refine pure_ (i := 1) (N := some 97) (v := ?_) (a' := ?_) #[true, true, false, false, false, false, false, false, false] rfl rfl (any_of HT_.out (by kernel_rfl)) (fun _ _ _ h => h) (Or.inl ⟨by rfl, ?_⟩) ?_ ?_
                                            rotate_left
                                            · intro w'
                                              go_simp
                                              with_reducible rfl
                                            rotate_left
                                            · simp only [Act.put, List.setIfInBounds_toArray, List.set_cons_zero, List.set_cons_succ, i64_w, i32_w]
                                              rfl
                                            refine pure_ (i := 2) (N := some 98) (v := ?_) (a' := ?_) #[true, true, true, false, false, false, false, false, false] rfl rfl (any_of HT_.out (by kernel_rfl)) (fun _ _ _ h => h) (Or.inl ⟨by rfl, ?_⟩) ?_ ?_
                                            rotate_left
                                            · intro w'
                                              go_simp
                                              with_reducible rfl
                                            rotate_left
                                            · simp only [Act.put, List.setIfInBounds_toArray, List.set_cons_zero, List.set_cons_succ, i64_w, i32_w]
                                              rfl
                                            refine pure_ (i := 4) (N := some 100) (v := ?_) (a' := ?_) #[true, true, true, false, true, false, false, false, false] rfl rfl (any_of HT_.out (by kernel_rfl)) (fun _ _ _ h => h) (Or.inl ⟨by rfl, ?_⟩) ?_ ?_
                                            rotate_left
                                            · intro w'
                                              go_simp
                                              with_reducible rfl
                                            rotate_left
                                            · simp only [Act.put, List.setIfInBounds_toArray, List.set_cons_zero, List.set_cons_succ, i64_w, i32_w]
                                              rfl
                                            refine pure_ (i := 5) (N := some 101) (v := ?_) (a' := ?_) #[true, true, true, false, true, true, false, false, false] rfl rfl (any_of HT_.out (by kernel_rfl)) (fun _ _ _ h => h) (Or.inl ⟨by rfl, ?_⟩) ?_ ?_
                                            rotate_left
                                            · intro w'
                                              go_simp
                                              with_reducible rfl
                                            rotate_left
                                            · simp only [Act.put, List.setIfInBounds_toArray, List.set_cons_zero, List.set_cons_succ, i64_w, i32_w]
                                              rfl
                                            refine pure_ (i := 6) (N := some 102) (v := ?_) (a' := ?_) #[true, true, true, false, true, true, true, false, false] rfl rfl (any_of HT_.out (by kernel_rfl)) (fun _ _ _ h => h) (Or.inl ⟨by rfl, ?_⟩) ?_ ?_
                                            rotate_left
                                            · intro w'
                                              go_simp
                                              with_reducible rfl
                                            rotate_left
                                            · simp only [Act.put, List.setIfInBounds_toArray, List.set_cons_zero, List.set_cons_succ, i64_w, i32_w]
                                              rfl
                                            refine take_ (i := 3) (N := some 99) (v := ?_) (a' := ?_) #[true, true, true, true, true, true, true, false, false] rfl rfl (take_ofW HT_.out HW_.out (by kernel_rfl)) (fun _ _ _ h => h) (Or.inl ⟨by rfl, ?_⟩) hHeld ?_ ?_
                                            rotate_left
                                            · rintro w' ⟨s0, s1, s2, s3, s4, s5⟩
                                              go_simp
                                              with_reducible rfl
                                            rotate_left
                                            · simp only [Act.put, List.setIfInBounds_toArray, List.set_cons_zero, List.set_cons_succ, i64_w, i32_w]
                                              rfl
                                            refine take_ (i := 7) (N := some 103) (v := ?_) (a' := ?_) #[true, true, true, true, true, true, true, true, false] rfl rfl (take_ofW HT_.out HW_.out (by kernel_rfl)) (fun _ _ _ h => h) (Or.inl ⟨by rfl, ?_⟩) hHeld ?_ ?_
                                            rotate_left
                                            · rintro w' ⟨s0, s1, s2, s3, s4, s5⟩
                                              go_simp
                                              with_reducible rfl
                                            rotate_left
                                            · simp only [Act.put, List.setIfInBounds_toArray, List.set_cons_zero, List.set_cons_succ, i64_w, i32_w]
                                              rfl
                                            refine pure_ (i := 8) (N := some 104) (v := ?_) (a' := ?_) #[true, true, true, true, true, true, true, true, true] rfl rfl (any_of HT_.out (by kernel_rfl)) (fun _ _ _ h => h) (Or.inl ⟨by rfl, ?_⟩) ?_ ?_
                                            rotate_left
                                            · intro w'
                                              go_simp
                                              with_reducible rfl
                                            rotate_left
                                            · simp only [Act.put, List.setIfInBounds_toArray, List.set_cons_zero, List.set_cons_succ, i64_w, i32_w]
                                              rfl
                                            refine done_ (done_of HT_.out (by kernel_rfl)) ?_
                                            try go_wp2
                                            have n0_ := Aside0.mk (Kd.R_drew HO_4.out)
                                            have n1_ := Aside0.mk (below_drew1 HB.out)
                                            clear HO_4 HB
                                            have HO_4 := n0_
                                            have HB := n1_
                                            clear n0_ n1_
                                            have p336 : 0 ≤ (x12_5 : Int) := of_decide_eq_true (by first | (with_reducible assumption) | assumption)
                                            have q336 : x12_5 < (t324.length : Int) := of_decide_eq_true (by first | (with_reducible assumption) | assumption)
                                            obtain ⟨ad336, e336, hx336_0, hx336_1, hx336_2⟩ := at_T33 (Kd.R_reads' HO_4.out).2.2 x12_5 p336 q336
                                            cases e336
                                            replace p336 := eq_true p336
                                            replace q336 := eq_true q336
                                            have p337 : 0 ≤ (x9_4 : Int) := of_decide_eq_true (by first | (with_reducible assumption) | assumption)
                                            have q337 : x9_4 < (l0.length : Int) := of_decide_eq_true (by first | (with_reducible assumption) | assumption)
                                            obtain ⟨ad337, e337, hx337_0, hx337_1, hx337_2⟩ := at_T33 HR0.out x9_4 p337 q337
                                            have hw337_2 := hx337_2
                                            have hw337_1 := hx337_1
                                            have hw337_0 := hx337_0
                                            obtain rfl : ad332 = ad337 := (by injection e337)
                                            replace hx337_0 := (HB.out.cell (World.block_lt_of_cell? w _ hx337_0)).trans hx337_0
                                            replace hx337_1 := (HB.out.cell (World.block_lt_of_cell? w _ hx337_1)).trans hx337_1
                                            replace hx337_2 := (HB.out.cell (World.block_lt_of_cell? w _ hx337_2)).trans hx337_2
                                            replace p337 := eq_true p337
                                            replace q337 := eq_true q337
                                            refine start_ (n := 9) (S := fun w' => w'.cell? (ad336.add ((x12_5).toNat * 3)) = some (.int .i64 ((rd_T33 t324 x12_5).f0)) ∧ w'.cell? ⟨(ad336.add ((x12_5).toNat * 3)).block, (ad336.add ((x12_5).toNat * 3)).off + 1, none⟩ = some (.int .i64 ((rd_T33 t324 x12_5).f1)) ∧ w'.cell? ⟨(ad336.add ((x12_5).toNat * 3)).block, (ad336.add ((x12_5).toNat * 3)).off + 2, none⟩ = some (.int .i64 ((rd_T33 t324 x12_5).f2)) ∧ w'.cell? (ad332.add ((x9_4).toNat * 3)) = some (.int .i64 ((rd_T33 l0 x9_4).f0)) ∧ w'.cell? ⟨(ad332.add ((x9_4).toNat * 3)).block, (ad332.add ((x9_4).toNat * 3)).off + 1, none⟩ = some (.int .i64 ((rd_T33 l0 x9_4).f1)) ∧ w'.cell? ⟨(ad332.add ((x9_4).toNat * 3)).block, (ad332.add ((x9_4).toNat * 3)).off + 2, none⟩ = some (.int .i64 ((rd_T33 l0 x9_4).f2))) (ds := []) #[false, false, false, false, false, false, false, false, false] (by kernel_rfl) rfl rfl ⟨hx336_0, hx336_1, hx336_2, ((HB.out.cell (World.block_lt_of_cell? w _ hw337_0)).trans hw337_0), ((HB.out.cell (World.block_lt_of_cell? w _ hw337_1)).trans hw337_1), ((HB.out.cell (World.block_lt_of_cell? w _ hw337_2)).trans hw337_2)⟩ (fun hHeld => ?_); refine with_tabW tailwaterlaw34_SinkLate.tab22 tailwaterlaw34_SinkLate.bits22 (fun HT_ HW_ => ?_)
                                            generalize w80.drew = w81 at HO_4 HB hx336_0 hx336_1 hx336_2 hx337_0 hx337_1 hx337_2 hHeld ⊢
                                            refine pure_ (i := 0) (N := some 107) (v := ?_) (a' := ?_) #[true, false, false, false, false, false, false, false, false] rfl rfl (any_of HT_.out (by kernel_rfl)) (fun _ _ _ h => h) (Or.inl ⟨by rfl, ?_⟩) ?_ ?_
                                            rotate_left
                                            · intro w'
                                              go_simp
                                              with_reducible rfl
                                            rotate_left
                                            · simp only [Act.put, List.setIfInBounds_toArray, List.set_cons_zero, List.set_cons_succ, i64_w, i32_w]
                                              rfl
                                            refine pure_ (i := 1) (N := some 108) (v := ?_) (a' := ?_) #[true, true, false, false, false, false, false, false, false] rfl rfl (any_of HT_.out (by kernel_rfl)) (fun _ _ _ h => h) (Or.inl ⟨by rfl, ?_⟩) ?_ ?_
                                            rotate_left
                                            · intro w'
                                              go_simp
                                              with_reducible rfl
                                            rotate_left
                                            · simp only [Act.put, List.setIfInBounds_toArray, List.set_cons_zero, List.set_cons_succ, i64_w, i32_w]
                                              rfl
                                            refine pure_ (i := 2) (N := some 109) (v := ?_) (a' := ?_) #[true, true, true, false, false, false, false, false, false] rfl rfl (any_of HT_.out (by kernel_rfl)) (fun _ _ _ h => h) (Or.inl ⟨by rfl, ?_⟩) ?_ ?_
                                            rotate_left
                                            · intro w'
                                              go_simp
                                              with_reducible rfl
                                            rotate_left
                                            · simp only [Act.put, List.setIfInBounds_toArray, List.set_cons_zero, List.set_cons_succ, i64_w, i32_w]
                                              rfl
                                            refine pure_ (i := 4) (N := some 111) (v := ?_) (a' := ?_) #[true, true, true, false, true, false, false, false, false] rfl rfl (any_of HT_.out (by kernel_rfl)) (fun _ _ _ h => h) (Or.inl ⟨by rfl, ?_⟩) ?_ ?_
                                            rotate_left
                                            · intro w'
                                              go_simp
                                              with_reducible rfl
                                            rotate_left
                                            · simp only [Act.put, List.setIfInBounds_toArray, List.set_cons_zero, List.set_cons_succ, i64_w, i32_w]
                                              rfl
                                            refine pure_ (i := 5) (N := some 112) (v := ?_) (a' := ?_) #[true, true, true, false, true, true, false, false, false] rfl rfl (any_of HT_.out (by kernel_rfl)) (fun _ _ _ h => h) (Or.inl ⟨by rfl, ?_⟩) ?_ ?_
                                            rotate_left
                                            · intro w'
                                              go_simp
                                              with_reducible rfl
                                            rotate_left
                                            · simp only [Act.put, List.setIfInBounds_toArray, List.set_cons_zero, List.set_cons_succ, i64_w, i32_w]
                                              rfl
                                            refine pure_ (i := 6) (N := some 113) (v := ?_) (a' := ?_) #[true, true, true, false, true, true, true, false, false] rfl rfl (any_of HT_.out (by kernel_rfl)) (fun _ _ _ h => h) (Or.inl ⟨by rfl, ?_⟩) ?_ ?_
                                            rotate_left
                                            · intro w'
                                              go_simp
                                              with_reducible rfl
                                            rotate_left
                                            · simp only [Act.put, List.setIfInBounds_toArray, List.set_cons_zero, List.set_cons_succ, i64_w, i32_w]
                                              rfl
                                            refine take_ (i := 3) (N := some 110) (v := ?_) (a' := ?_) #[true, true, true, true, true, true, true, false, false] rfl rfl (take_ofW HT_.out HW_.out (by kernel_rfl)) (fun _ _ _ h => h) (Or.inl ⟨by rfl, ?_⟩) hHeld ?_ ?_
                                            rotate_left
                                            · rintro w' ⟨s0, s1, s2, s3, s4, s5⟩
                                              go_simp
                                              with_reducible rfl
                                            rotate_left
                                            · simp only [Act.put, List.setIfInBounds_toArray, List.set_cons_zero, List.set_cons_succ, i64_w, i32_w]
                                              rfl
                                            refine take_ (i := 7) (N := some 114) (v := ?_) (a' := ?_) #[true, true, true, true, true, true, true, true, false] rfl rfl (take_ofW HT_.out HW_.out (by kernel_rfl)) (fun _ _ _ h => h) (Or.inl ⟨by rfl, ?_⟩) hHeld ?_ ?_
                                            rotate_left
                                            · rintro w' ⟨s0, s1, s2, s3, s4, s5⟩
                                              go_simp
                                              with_reducible rfl
                                            rotate_left
                                            · simp only [Act.put, List.setIfInBounds_toArray, List.set_cons_zero, List.set_cons_succ, i64_w, i32_w]
                                              rfl
                                            refine pure_ (i := 8) (N := some 115) (v := ?_) (a' := ?_) #[true, true, true, true, true, true, true, true, true] rfl rfl (any_of HT_.out (by kernel_rfl)) (fun _ _ _ h => h) (Or.inl ⟨by rfl, ?_⟩) ?_ ?_
                                            rotate_left
                                            · intro w'
                                              go_simp
                                              with_reducible rfl
                                            rotate_left
                                            · simp only [Act.put, List.setIfInBounds_toArray, List.set_cons_zero, List.set_cons_succ, i64_w, i32_w]
                                              rfl
                                            refine done_ (done_of HT_.out (by kernel_rfl)) ?_
                                            try go_wp2
                                            go_roundg k5
                                            case measure => have := HJ2.out; have := HJ7.out; have := HK3.out; have := HK4.out; have := HK5.out; omega
                                            case rel => exact ⟨(x10_5), (wrap64 (x11_5 + 1)), (wrap64 (x12_5 + 1)), (by first | rfl | (simp; done) | (simp [*]; done)), (by first | rfl | (simp; done) | (simp [*]; done)), (by first | rfl | (simp; done) | (simp [*]; done)), H', ⟨by have := HJ2.out; have := HJ7.out; have := HK3.out; have := HK4.out; have := HK5.out; omega⟩, ⟨by (with_reducible repeat (first | apply Kd.R_alloc | apply Kd.R_drewN | apply Kd.R_drew)); exact HO_4.out⟩, ⟨by repeat (first | (with_reducible first | exact HB.out | apply below_alloc | apply pw_below_drewN | apply below_drew1) | exact HB.out)⟩⟩
                                          · rw [if_neg c79] at H
                                            have c79b0 : (((rd_T33 t324 x12_5).f0) == ((rd_T33 l0 x9_4).f0) && (((rd_T33 t324 x12_5).f1) == ((rd_T33 l0 x9_4).f1) && (((rd_T33 t324 x12_5).f2) == ((rd_T33 l0 x9_4).f2)))) = false := by simpa using c79
                                            (try (have c79b1 : decide (((rd_T33 t324 x12_5).f0) = ((rd_T33 l0 x9_4).f0) && (((rd_T33 t324 x12_5).f1) == ((rd_T33 l0 x9_4).f1) && (((rd_T33 t324 x12_5).f2) == ((rd_T33 l0 x9_4).f2)))) = false := by simpa using c79))
                                            (try (have c79b2 : (((rd_T33 t324 x12_5).f0) == ((rd_T33 l0 x9_4).f0) && (((rd_T33 t324 x12_5).f1) == ((rd_T33 l0 x9_4).f1) && (((rd_T33 t324 x12_5).f2) == ((rd_T33 l0 x9_4).f2)))) = false := by simpa using c79))
                                            (try (have c79b3 : ¬ (((rd_T33 t324 x12_5).f0) = ((rd_T33 l0 x9_4).f0) && (((rd_T33 t324 x12_5).f1) == ((rd_T33 l0 x9_4).f1) && (((rd_T33 t324 x12_5).f2) == ((rd_T33 l0 x9_4).f2)))) := by simpa using c79))
                                            clear c79
                                            have H' := Aside0.mk H
                                            clear H
                                            try go_wp2
                                            have n0_ := Aside0.mk (Kd.R_drew HO_4.out)
                                            have n1_ := Aside0.mk (below_drew1 HB.out)
                                            clear HO_4 HB
                                            have HO_4 := n0_
                                            have HB := n1_
                                            clear n0_ n1_
                                            have p332 : 0 ≤ (x12_5 : Int) := of_decide_eq_true (by first | (with_reducible assumption) | assumption)
                                            have q332 : x12_5 < (l0.length : Int) := of_decide_eq_true (by first | (with_reducible assumption) | assumption)
                                            obtain ⟨ad332, e332, hx332_0, hx332_1, hx332_2⟩ := at_T33 HR0.out x12_5 p332 q332
                                            have hw332_2 := hx332_2
                                            have hw332_1 := hx332_1
                                            have hw332_0 := hx332_0
                                            cases e332
                                            replace hx332_0 := (HB.out.cell (World.block_lt_of_cell? w _ hx332_0)).trans hx332_0
                                            replace hx332_1 := (HB.out.cell (World.block_lt_of_cell? w _ hx332_1)).trans hx332_1
                                            replace hx332_2 := (HB.out.cell (World.block_lt_of_cell? w _ hx332_2)).trans hx332_2
                                            replace p332 := eq_true p332
                                            replace q332 := eq_true q332
                                            have p333 : 0 ≤ (x9_4 : Int) := of_decide_eq_true (by first | (with_reducible assumption) | assumption)
                                            have q333 : x9_4 < (l0.length : Int) := of_decide_eq_true (by first | (with_reducible assumption) | assumption)
                                            obtain ⟨ad333, e333, hx333_0, hx333_1, hx333_2⟩ := at_T33 HR0.out x9_4 p333 q333
                                            have hw333_2 := hx333_2
                                            have hw333_1 := hx333_1
                                            have hw333_0 := hx333_0
                                            obtain rfl : ad332 = ad333 := (by injection e333)
                                            replace hx333_0 := (HB.out.cell (World.block_lt_of_cell? w _ hx333_0)).trans hx333_0
                                            replace hx333_1 := (HB.out.cell (World.block_lt_of_cell? w _ hx333_1)).trans hx333_1
                                            replace hx333_2 := (HB.out.cell (World.block_lt_of_cell? w _ hx333_2)).trans hx333_2
                                            replace p333 := eq_true p333
                                            replace q333 := eq_true q333
                                            refine start_ (n := 9) (S := fun w' => w'.cell? (ad332.add ((x12_5).toNat * 3)) = some (.int .i64 ((rd_T33 l0 x12_5).f0)) ∧ w'.cell? ⟨(ad332.add ((x12_5).toNat * 3)).block, (ad332.add ((x12_5).toNat * 3)).off + 1, none⟩ = some (.int .i64 ((rd_T33 l0 x12_5).f1)) ∧ w'.cell? ⟨(ad332.add ((x12_5).toNat * 3)).block, (ad332.add ((x12_5).toNat * 3)).off + 2, none⟩ = some (.int .i64 ((rd_T33 l0 x12_5).f2)) ∧ w'.cell? (ad332.add ((x9_4).toNat * 3)) = some (.int .i64 ((rd_T33 l0 x9_4).f0)) ∧ w'.cell? ⟨(ad332.add ((x9_4).toNat * 3)).block, (ad332.add ((x9_4).toNat * 3)).off + 1, none⟩ = some (.int .i64 ((rd_T33 l0 x9_4).f1)) ∧ w'.cell? ⟨(ad332.add ((x9_4).toNat * 3)).block, (ad332.add ((x9_4).toNat * 3)).off + 2, none⟩ = some (.int .i64 ((rd_T33 l0 x9_4).f2))) (ds := []) #[false, false, false, false, false, false, false, false, false] (by kernel_rfl) rfl rfl ⟨((HB.out.cell (World.block_lt_of_cell? w _ hw332_0)).trans hw332_0), ((HB.out.cell (World.block_lt_of_cell? w _ hw332_1)).trans hw332_1), ((HB.out.cell (World.block_lt_of_cell? w _ hw332_2)).trans hw332_2), ((HB.out.cell (World.block_lt_of_cell? w _ hw333_0)).trans hw333_0), ((HB.out.cell (World.block_lt_of_cell? w _ hw333_1)).trans hw333_1), ((HB.out.cell (World.block_lt_of_cell? w _ hw333_2)).trans hw333_2)⟩ (fun hHeld => ?_); refine with_tabW tailwaterlaw34_SinkLate.tab20 tailwaterlaw34_SinkLate.bits20 (fun HT_ HW_ => ?_)
                                            generalize wr.drew = w82 at HO_4 HB hx332_0 hx332_1 hx332_2 hx333_0 hx333_1 hx333_2 hHeld ⊢
                                            refine pure_ (i := 0) (N := some 96) (v := ?_) (a' := ?_) #[true, false, false, false, false, false, false, false, false] rfl rfl (any_of HT_.out (by kernel_rfl)) (fun _ _ _ h => h) (Or.inl ⟨by rfl, ?_⟩) ?_ ?_
                                            rotate_left
                                            · intro w'
                                              go_simp
                                              with_reducible rfl
                                            rotate_left
                                            · simp only [Act.put, List.setIfInBounds_toArray, List.set_cons_zero, List.set_cons_succ, i64_w, i32_w]
                                              rfl
                                            refine pure_ (i := 1) (N := some 97) (v := ?_) (a' := ?_) #[true, true, false, false, false, false, false, false, false] rfl rfl (any_of HT_.out (by kernel_rfl)) (fun _ _ _ h => h) (Or.inl ⟨by rfl, ?_⟩) ?_ ?_
                                            rotate_left
                                            · intro w'
                                              go_simp
                                              with_reducible rfl
                                            rotate_left
                                            · simp only [Act.put, List.setIfInBounds_toArray, List.set_cons_zero, List.set_cons_succ, i64_w, i32_w]
                                              rfl
                                            refine pure_ (i := 2) (N := some 98) (v := ?_) (a' := ?_) #[true, true, true, false, false, false, false, false, false] rfl rfl (any_of HT_.out (by kernel_rfl)) (fun _ _ _ h => h) (Or.inl ⟨by rfl, ?_⟩) ?_ ?_
                                            rotate_left
                                            · intro w'
                                              go_simp
                                              with_reducible rfl
                                            rotate_left
                                            · simp only [Act.put, List.setIfInBounds_toArray, List.set_cons_zero, List.set_cons_succ, i64_w, i32_w]
                                              rfl
                                            refine pure_ (i := 4) (N := some 100) (v := ?_) (a' := ?_) #[true, true, true, false, true, false, false, false, false] rfl rfl (any_of HT_.out (by kernel_rfl)) (fun _ _ _ h => h) (Or.inl ⟨by rfl, ?_⟩) ?_ ?_
                                            rotate_left
                                            · intro w'
                                              go_simp
                                              with_reducible rfl
                                            rotate_left
                                            · simp only [Act.put, List.setIfInBounds_toArray, List.set_cons_zero, List.set_cons_succ, i64_w, i32_w]
                                              rfl
                                            refine pure_ (i := 5) (N := some 101) (v := ?_) (a' := ?_) #[true, true, true, false, true, true, false, false, false] rfl rfl (any_of HT_.out (by kernel_rfl)) (fun _ _ _ h => h) (Or.inl ⟨by rfl, ?_⟩) ?_ ?_
                                            rotate_left
                                            · intro w'
                                              go_simp
                                              with_reducible rfl
                                            rotate_left
                                            · simp only [Act.put, List.setIfInBounds_toArray, List.set_cons_zero, List.set_cons_succ, i64_w, i32_w]
                                              rfl
                                            refine pure_ (i := 6) (N := some 102) (v := ?_) (a' := ?_) #[true, true, true, false, true, true, true, false, false] rfl rfl (any_of HT_.out (by kernel_rfl)) (fun _ _ _ h => h) (Or.inl ⟨by rfl, ?_⟩) ?_ ?_
                                            rotate_left
                                            · intro w'
                                              go_simp
                                              with_reducible rfl
                                            rotate_left
                                            · simp only [Act.put, List.setIfInBounds_toArray, List.set_cons_zero, List.set_cons_succ, i64_w, i32_w]
                                              rfl
                                            refine take_ (i := 3) (N := some 99) (v := ?_) (a' := ?_) #[true, true, true, true, true, true, true, false, false] rfl rfl (take_ofW HT_.out HW_.out (by kernel_rfl)) (fun _ _ _ h => h) (Or.inl ⟨by rfl, ?_⟩) hHeld ?_ ?_
                                            rotate_left
                                            · rintro w' ⟨s0, s1, s2, s3, s4, s5⟩
                                              go_simp
                                              with_reducible rfl
                                            rotate_left
                                            · simp only [Act.put, List.setIfInBounds_toArray, List.set_cons_zero, List.set_cons_succ, i64_w, i32_w]
                                              rfl
                                            refine take_ (i := 7) (N := some 103) (v := ?_) (a' := ?_) #[true, true, true, true, true, true, true, true, false] rfl rfl (take_ofW HT_.out HW_.out (by kernel_rfl)) (fun _ _ _ h => h) (Or.inl ⟨by rfl, ?_⟩) hHeld ?_ ?_
                                            rotate_left
                                            · rintro w' ⟨s0, s1, s2, s3, s4, s5⟩
                                              go_simp
                                              with_reducible rfl
                                            rotate_left
                                            · simp only [Act.put, List.setIfInBounds_toArray, List.set_cons_zero, List.set_cons_succ, i64_w, i32_w]
                                              rfl
                                            refine pure_ (i := 8) (N := some 104) (v := ?_) (a' := ?_) #[true, true, true, true, true, true, true, true, true] rfl rfl (any_of HT_.out (by kernel_rfl)) (fun _ _ _ h => h) (Or.inl ⟨by rfl, ?_⟩) ?_ ?_
                                            rotate_left
                                            · intro w'
                                              go_simp
                                              with_reducible rfl
                                            rotate_left
                                            · simp only [Act.put, List.setIfInBounds_toArray, List.set_cons_zero, List.set_cons_succ, i64_w, i32_w]
                                              rfl
                                            refine done_ (done_of HT_.out (by kernel_rfl)) ?_
                                            try go_wp2
                                            have n0_ := Aside0.mk (Kd.R_drew HO_4.out)
                                            have n1_ := Aside0.mk (below_drew1 HB.out)
                                            clear HO_4 HB
                                            have HO_4 := n0_
                                            have HB := n1_
                                            clear n0_ n1_
                                            have p336 : 0 ≤ (x12_5 : Int) := of_decide_eq_true (by first | (with_reducible assumption) | assumption)
                                            have q336 : x12_5 < (t324.length : Int) := of_decide_eq_true (by first | (with_reducible assumption) | assumption)
                                            obtain ⟨ad336, e336, hx336_0, hx336_1, hx336_2⟩ := at_T33 (Kd.R_reads' HO_4.out).2.2 x12_5 p336 q336
                                            cases e336
                                            replace p336 := eq_true p336
                                            replace q336 := eq_true q336
                                            have p337 : 0 ≤ (x9_4 : Int) := of_decide_eq_true (by first | (with_reducible assumption) | assumption)
                                            have q337 : x9_4 < (l0.length : Int) := of_decide_eq_true (by first | (with_reducible assumption) | assumption)
                                            obtain ⟨ad337, e337, hx337_0, hx337_1, hx337_2⟩ := at_T33 HR0.out x9_4 p337 q337
                                            have hw337_2 := hx337_2
                                            have hw337_1 := hx337_1
                                            have hw337_0 := hx337_0
                                            obtain rfl : ad332 = ad337 := (by injection e337)
                                            replace hx337_0 := (HB.out.cell (World.block_lt_of_cell? w _ hx337_0)).trans hx337_0
                                            replace hx337_1 := (HB.out.cell (World.block_lt_of_cell? w _ hx337_1)).trans hx337_1
                                            replace hx337_2 := (HB.out.cell (World.block_lt_of_cell? w _ hx337_2)).trans hx337_2
                                            replace p337 := eq_true p337
                                            replace q337 := eq_true q337
                                            refine start_ (n := 9) (S := fun w' => w'.cell? (ad336.add ((x12_5).toNat * 3)) = some (.int .i64 ((rd_T33 t324 x12_5).f0)) ∧ w'.cell? ⟨(ad336.add ((x12_5).toNat * 3)).block, (ad336.add ((x12_5).toNat * 3)).off + 1, none⟩ = some (.int .i64 ((rd_T33 t324 x12_5).f1)) ∧ w'.cell? ⟨(ad336.add ((x12_5).toNat * 3)).block, (ad336.add ((x12_5).toNat * 3)).off + 2, none⟩ = some (.int .i64 ((rd_T33 t324 x12_5).f2)) ∧ w'.cell? (ad332.add ((x9_4).toNat * 3)) = some (.int .i64 ((rd_T33 l0 x9_4).f0)) ∧ w'.cell? ⟨(ad332.add ((x9_4).toNat * 3)).block, (ad332.add ((x9_4).toNat * 3)).off + 1, none⟩ = some (.int .i64 ((rd_T33 l0 x9_4).f1)) ∧ w'.cell? ⟨(ad332.add ((x9_4).toNat * 3)).block, (ad332.add ((x9_4).toNat * 3)).off + 2, none⟩ = some (.int .i64 ((rd_T33 l0 x9_4).f2))) (ds := []) #[false, false, false, false, false, false, false, false, false] (by kernel_rfl) rfl rfl ⟨hx336_0, hx336_1, hx336_2, ((HB.out.cell (World.block_lt_of_cell? w _ hw337_0)).trans hw337_0), ((HB.out.cell (World.block_lt_of_cell? w _ hw337_1)).trans hw337_1), ((HB.out.cell (World.block_lt_of_cell? w _ hw337_2)).trans hw337_2)⟩ (fun hHeld => ?_); refine with_tabW tailwaterlaw34_SinkLate.tab22 tailwaterlaw34_SinkLate.bits22 (fun HT_ HW_ => ?_)
                                            generalize w82.drew = w83 at HO_4 HB hx336_0 hx336_1 hx336_2 hx337_0 hx337_1 hx337_2 hHeld ⊢
                                            refine pure_ (i := 0) (N := some 107) (v := ?_) (a' := ?_) #[true, false, false, false, false, false, false, false, false] rfl rfl (any_of HT_.out (by kernel_rfl)) (fun _ _ _ h => h) (Or.inl ⟨by rfl, ?_⟩) ?_ ?_
                                            rotate_left
                                            · intro w'
                                              go_simp
                                              with_reducible rfl
                                            rotate_left
                                            · simp only [Act.put, List.setIfInBounds_toArray, List.set_cons_zero, List.set_cons_succ, i64_w, i32_w]
                                              rfl
                                            refine pure_ (i := 1) (N := some 108) (v := ?_) (a' := ?_) #[true, true, false, false, false, false, false, false, false] rfl rfl (any_of HT_.out (by kernel_rfl)) (fun _ _ _ h => h) (Or.inl ⟨by rfl, ?_⟩) ?_ ?_
                                            rotate_left
                                            · intro w'
                                              go_simp
                                              with_reducible rfl
                                            rotate_left
                                            · simp only [Act.put, List.setIfInBounds_toArray, List.set_cons_zero, List.set_cons_succ, i64_w, i32_w]
                                              rfl
                                            refine pure_ (i := 2) (N := some 109) (v := ?_) (a' := ?_) #[true, true, true, false, false, false, false, false, false] rfl rfl (any_of HT_.out (by kernel_rfl)) (fun _ _ _ h => h) (Or.inl ⟨by rfl, ?_⟩) ?_ ?_
                                            rotate_left
                                            · intro w'
                                              go_simp
                                              with_reducible rfl
                                            rotate_left
                                            · simp only [Act.put, List.setIfInBounds_toArray, List.set_cons_zero, List.set_cons_succ, i64_w, i32_w]
                                              rfl
                                            refine pure_ (i := 4) (N := some 111) (v := ?_) (a' := ?_) #[true, true, true, false, true, false, false, false, false] rfl rfl (any_of HT_.out (by kernel_rfl)) (fun _ _ _ h => h) (Or.inl ⟨by rfl, ?_⟩) ?_ ?_
                                            rotate_left
                                            · intro w'
                                              go_simp
                                              with_reducible rfl
                                            rotate_left
                                            · simp only [Act.put, List.setIfInBounds_toArray, List.set_cons_zero, List.set_cons_succ, i64_w, i32_w]
                                              rfl
                                            refine pure_ (i := 5) (N := some 112) (v := ?_) (a' := ?_) #[true, true, true, false, true, true, false, false, false] rfl rfl (any_of HT_.out (by kernel_rfl)) (fun _ _ _ h => h) (Or.inl ⟨by rfl, ?_⟩) ?_ ?_
                                            rotate_left
                                            · intro w'
                                              go_simp
                                              with_reducible rfl
                                            rotate_left
                                            · simp only [Act.put, List.setIfInBounds_toArray, List.set_cons_zero, List.set_cons_succ, i64_w, i32_w]
                                              rfl
                                            refine pure_ (i := 6) (N := some 113) (v := ?_) (a' := ?_) #[true, true, true, false, true, true, true, false, false] rfl rfl (any_of HT_.out (by kernel_rfl)) (fun _ _ _ h => h) (Or.inl ⟨by rfl, ?_⟩) ?_ ?_
                                            rotate_left
                                            · intro w'
                                              go_simp
                                              with_reducible rfl
                                            rotate_left
                                            · simp only [Act.put, List.setIfInBounds_toArray, List.set_cons_zero, List.set_cons_succ, i64_w, i32_w]
                                              rfl
                                            refine take_ (i := 3) (N := some 110) (v := ?_) (a' := ?_) #[true, true, true, true, true, true, true, false, false] rfl rfl (take_ofW HT_.out HW_.out (by kernel_rfl)) (fun _ _ _ h => h) (Or.inl ⟨by rfl, ?_⟩) hHeld ?_ ?_
                                            rotate_left
                                            · rintro w' ⟨s0, s1, s2, s3, s4, s5⟩
                                              go_simp
                                              with_reducible rfl
                                            rotate_left
                                            · simp only [Act.put, List.setIfInBounds_toArray, List.set_cons_zero, List.set_cons_succ, i64_w, i32_w]
                                              rfl
                                            refine take_ (i := 7) (N := some 114) (v := ?_) (a' := ?_) #[true, true, true, true, true, true, true, true, false] rfl rfl (take_ofW HT_.out HW_.out (by kernel_rfl)) (fun _ _ _ h => h) (Or.inl ⟨by rfl, ?_⟩) hHeld ?_ ?_
                                            rotate_left
                                            · rintro w' ⟨s0, s1, s2, s3, s4, s5⟩
                                              go_simp
                                              with_reducible rfl
                                            rotate_left
                                            · simp only [Act.put, List.setIfInBounds_toArray, List.set_cons_zero, List.set_cons_succ, i64_w, i32_w]
                                              rfl
                                            refine pure_ (i := 8) (N := some 115) (v := ?_) (a' := ?_) #[true, true, true, true, true, true, true, true, true] rfl rfl (any_of HT_.out (by kernel_rfl)) (fun _ _ _ h => h) (Or.inl ⟨by rfl, ?_⟩) ?_ ?_
                                            rotate_left
                                            · intro w'
                                              go_simp
                                              with_reducible rfl
                                            rotate_left
                                            · simp only [Act.put, List.setIfInBounds_toArray, List.set_cons_zero, List.set_cons_succ, i64_w, i32_w]
                                              rfl
                                            refine done_ (done_of HT_.out (by kernel_rfl)) ?_
                                            try go_wp2
                                            go_roundg k5
                                            case measure => have := HJ2.out; have := HJ7.out; have := HK3.out; have := HK4.out; have := HK5.out; omega
                                            case rel => exact ⟨(x10_5), (x11_5), (wrap64 (x12_5 + 1)), (by first | rfl | (simp; done) | (simp [*]; done)), (by first | rfl | (simp; done) | (simp [*]; done)), (by first | rfl | (simp; done) | (simp [*]; done)), H', ⟨by have := HJ2.out; have := HJ7.out; have := HK3.out; have := HK4.out; have := HK5.out; omega⟩, ⟨by (with_reducible repeat (first | apply Kd.R_alloc | apply Kd.R_drewN | apply Kd.R_drew)); exact HO_4.out⟩, ⟨by repeat (first | (with_reducible first | exact HB.out | apply below_alloc | apply pw_below_drewN | apply below_drew1) | exact HB.out)⟩⟩
                                        · rw [if_neg c78] at H
                                          exact absurd H (by simp)
                                    · rw [if_neg c70] at H
                                      exact absurd H (by simp)
                                  · rw [if_neg c69] at H
                                    exact absurd H (by simp)
                                · rw [if_neg c68] at H
                                  exact absurd H (by simp)
                              · rw [if_neg c67] at H
                                have c67b0 : decide (x12_5 < (l0.length : Int)) = false := decide_eq_false c67
                                clear c67
                                by_cases c84 : x10_5 = x11_5
                                · rw [if_pos c84] at H
                                  have c84b0 : (x10_5 == x11_5) = true := beq_iff_eq.mpr c84
                                  have c84b1 : (x10_5 != x11_5) = false := bne_eq_false_iff_eq.mpr c84
                                  clear c84
                                  have H' := Aside0.mk H
                                  clear H
                                  go_wp2
                                  go_roundg k5
                                  case measure => have := HJ2.out; have := HJ7.out; have := HK3.out; have := HK4.out; have := HK5.out; omega
                                  case rel => exact ⟨(wrap64 (x9_4 + 1)), (by first | rfl | (simp; done) | (simp [*]; done)), H', ⟨by have := HJ2.out; have := HJ7.out; have := HK3.out; have := HK4.out; have := HK5.out; omega⟩, ⟨by (with_reducible repeat (first | apply Kd.R_alloc | apply Kd.R_drewN | apply Kd.R_drew)); exact HO_4.out⟩, ⟨by repeat (first | (with_reducible first | exact HB.out | apply below_alloc | apply pw_below_drewN | apply below_drew1) | exact HB.out)⟩⟩
                                · rw [if_neg c84] at H
                                  have c84b0 : (x10_5 == x11_5) = false := beq_eq_false_iff_ne.mpr c84
                                  have c84b1 : (x10_5 != x11_5) = true := bne_iff_ne.mpr c84
                                  exact absurd ((Option.some.inj H).trans hR_) (by decide)
                        · rw [if_neg c66] at H
                          have c66b0 : decide (x9_4 < (l0.length : Int)) = false := decide_eq_false c66
                          clear c66
                          obtain rfl := Option.some.inj H
                          go_wp2
                          go_ret
                          exact ⟨by first | rfl | (simp [errW_none, errW_some] <;> rfl) | (simp [*, errW_none, errW_some] <;> rfl), by repeat (first | (with_reducible first | exact HB.out | apply below_alloc | apply pw_below_drewN | apply below_drew1) | exact HB.out)⟩

end Go.Proofs.Ytbeldjhpbomonaa.Si
