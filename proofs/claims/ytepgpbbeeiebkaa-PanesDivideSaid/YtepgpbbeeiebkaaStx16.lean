/- Contracts of functions of the program, each over a plain Lean function of the same answers: written by pdrive.py, a program of this session that drives the kit's printer with some functions given by hand; conditions: as each theorem says. -/
import Derived.Test.YtepgpbbeeiebkaaStx0
import Derived.Test.YtepgpbbeeiebkaaStx10
import Derived.Test.YtepgpbbeeiebkaaStx14
import Derived.Test.YtepgpbbeeiebkaaStx15
namespace Go.Proofs.Ytepgpbbeeiebkaa.St
open Go.RowKit Go.Proofs.YtepgpbbeeiebkaaW.PrintWords Go.Proofs.YtepgpbbeeiebkaaW.PrintLast Go.Proofs.YtepgpbbeeiebkaaW.PrintMore
attribute [local go_sem] max2_int min2_int max_two min_two max_three min_three max_four min_four   -- for this text's walks alone
set_option linter.unusedVariables false
set_option linter.unusedSimpArgs false

/-! ### tailwaterlaw19_PanesDivide: function 13 -/
def tailwaterlaw19_PanesDivide.j0 : Nat → Int → Int → Int → Bool → Bool → Option (Bool)
  | 0, _, _, _, _, _ => none
  | k + 1, x0, x1, x2, x7, x22 => if x22 = true then (some x7) else ((panes_Size.f k x0 x1).bind fun bt192 => (if bt192.2 = 0 then (if bt192.1 < 1 then (some false) else (if bt192.1 = 0 then (none) else (if (Int.tmod x0 bt192.1) = 0 then (if (Int.tmod x1 bt192.1) = 0 then (if x7 = true then (if x2 = 0 then (none) else (if (Int.tmod x0 x2) = 0 then (if (Int.tmod x1 x2) = 0 then (some ((Int.tmod bt192.1 x2) == 0)) else (some true)) else (some true))) else (some false)) else (some false)) else (some false)))) else (some false)))
def tailwaterlaw19_PanesDivide.f (k : Nat) (a0 : Int) (a1 : Int) (a2 : Int) : Option (Bool) := (tailwaterlaw19_alive.f k).bind fun t190 => ((tailwaterref14_Right.f a0 a1).bind fun t191 => (if t191 = true then (if a2 < 1 then (tailwaterlaw19_PanesDivide.j0 k a0 a1 a2 t190 true) else (tailwaterlaw19_PanesDivide.j0 k a0 a1 a2 t190 (!t190))) else (tailwaterlaw19_PanesDivide.j0 k a0 a1 a2 t190 true)))
theorem tailwaterlaw19_PanesDivide.mono_l : ∀ k, (∀ y0 y1 y2 y3 y4, LeO (tailwaterlaw19_PanesDivide.j0 k y0 y1 y2 y3 y4) (tailwaterlaw19_PanesDivide.j0 (k + 1) y0 y1 y2 y3 y4))
  | 0 => fun _ _ _ _ _ r h => by simp [tailwaterlaw19_PanesDivide.j0] at h
  | k + 1 => by
    have ih0 := tailwaterlaw19_PanesDivide.mono_l k
    · intro y0 y1 y2 y3 y4
      unfold tailwaterlaw19_PanesDivide.j0
      repeat' first
      | (with_reducible exact ih0 _ _ _ _ _)
      | (with_reducible exact panes_Size.mono _ _ _)
      | (with_reducible exact tailwaterlaw19_alive.mono _)
      | (with_reducible exact LeO.refl _)
      | (with_reducible exact LeO.none _)
      | (with_reducible refine LeO.ite ?_ ?_)
      | (with_reducible refine LeO.bind ?_ (fun _ => ?_))
      | exact ih0 _ _ _ _ _
      | exact panes_Size.mono _ _ _
      | exact tailwaterlaw19_alive.mono _
      | exact LeO.none _
      | refine LeO.ite ?_ ?_
      | refine LeO.bind ?_ (fun _ => ?_)
theorem tailwaterlaw19_PanesDivide.mono : ∀ a0 a1 a2 k, LeO (tailwaterlaw19_PanesDivide.f k a0 a1 a2) (tailwaterlaw19_PanesDivide.f (k + 1) a0 a1 a2) := by
  intro a0 a1 a2 k
  have ih0 := tailwaterlaw19_PanesDivide.mono_l k
  unfold tailwaterlaw19_PanesDivide.f
  repeat' first
      | (with_reducible exact ih0 _ _ _ _ _)
      | (with_reducible exact panes_Size.mono _ _ _)
      | (with_reducible exact tailwaterlaw19_alive.mono _)
      | (with_reducible exact LeO.refl _)
      | (with_reducible exact LeO.none _)
      | (with_reducible refine LeO.ite ?_ ?_)
      | (with_reducible refine LeO.bind ?_ (fun _ => ?_))
      | exact ih0 _ _ _ _ _
      | exact panes_Size.mono _ _ _
      | exact tailwaterlaw19_alive.mono _
      | exact LeO.none _
      | refine LeO.ite ?_ ?_
      | refine LeO.bind ?_ (fun _ => ?_)
set_option maxHeartbeats 8000000 in
set_option maxRecDepth 100000 in
theorem tailwaterlaw19_PanesDivide.calls (k : Nat) (a0 : Int) (a1 : Int) (a2 : Int) (r : Bool) (w : World) (h : tailwaterlaw19_PanesDivide.f k a0 a1 a2 = some r) (hR_ : r = true) :
    Calls Try.prog 13 #[.int .i64 a0, .int .i64 a1, .int .i64 a2] w fun e w' => e = .returned (.bool r) ∧ Below w.heap.size w w' := by
  have HB := Aside0.mk (Below.refl w.heap.size w)
  have H : ((tailwaterlaw19_alive.f k).bind fun t190 => ((tailwaterref14_Right.f a0 a1).bind fun t191 => (if t191 = true then (if a2 < 1 then (tailwaterlaw19_PanesDivide.j0 k a0 a1 a2 t190 true) else (tailwaterlaw19_PanesDivide.j0 k a0 a1 a2 t190 (!t190))) else (tailwaterlaw19_PanesDivide.j0 k a0 a1 a2 t190 true)))) = some r := h
  clear h
  replace H := Option.bind_eq_some_iff.mp H
  obtain ⟨t190, A40, H⟩ := H
  replace H : ((tailwaterref14_Right.f a0 a1).bind fun t191 => (if t191 = true then (if a2 < 1 then (tailwaterlaw19_PanesDivide.j0 k a0 a1 a2 t190 true) else (tailwaterlaw19_PanesDivide.j0 k a0 a1 a2 t190 (!t190))) else (tailwaterlaw19_PanesDivide.j0 k a0 a1 a2 t190 true))) = some r := H
  have A4 := Aside0.mk A40
  clear A40
  have HC5 := Aside0.mk H
  clear H
  go_enter Try.func13, Try.ntmps13
  go_upto_region 2 with (first | ((with_reducible refine gate_callee (f := 30) rfl ?_); refine goesL_ (some 10) rfl rfl Try.func30 (by kernel_rfl) rfl #[] rfl (by (try simp only [List.map_toArray, List.map_cons, List.map_nil]); first | done | rfl | (simp only [List.length_drop, List.length_take]; rfl)) ?_; (with_reducible refine (tailwaterlaw19_alive.calls k  t190 _ A4.out).mono ?_); rintro e w6 ⟨rfl, hb⟩; refine ⟨_, rfl, ?_⟩; have n0_ := Aside0.mk (below_step (by repeat (first | (with_reducible first | exact HB.out | apply below_alloc | apply pw_below_drewN | apply below_drew1) | exact HB.out)) hb); clear HB; have HB := n0_; clear n0_; (try clear hb); (try clear hb2); (try clear hk); (try clear hi)))
  (try simp only [Act.put, List.setIfInBounds_toArray, List.set_cons_zero, List.set_cons_succ])
  go_cut [22] (fun v22 wc => ∃ (kq : Nat) (x22_4 : Bool), v22 = .bool x22_4 ∧ Aside0 (tailwaterlaw19_PanesDivide.j0 kq a0 a1 a2 t190 x22_4 = some r) ∧ Aside0 (kq ≤ k) ∧ Aside0 (Below w.heap.size w wc))
  case first =>
    have H := HC5.out
    clear HC5
    replace H := Option.bind_eq_some_iff.mp H
    obtain ⟨t191, A70, H⟩ := H
    replace H : (if t191 = true then (if a2 < 1 then (tailwaterlaw19_PanesDivide.j0 k a0 a1 a2 t190 true) else (tailwaterlaw19_PanesDivide.j0 k a0 a1 a2 t190 (!t190))) else (tailwaterlaw19_PanesDivide.j0 k a0 a1 a2 t190 true)) = some r := H
    have A7 := Aside0.mk A70
    clear A70
    by_cases c8 : t191 = true
    · subst c8
      have H1 : (if a2 < 1 then (tailwaterlaw19_PanesDivide.j0 k a0 a1 a2 t190 true) else (tailwaterlaw19_PanesDivide.j0 k a0 a1 a2 t190 (!t190))) = some r := by rw [if_pos rfl] at H; exact H
      clear H
      have H := H1
      clear H1
      by_cases c9 : a2 < 1
      · rw [if_pos c9] at H
        have c9b0 : decide (a2 < 1) = true := decide_eq_true c9
        clear c9
        (first | rw [c9b0] | (simp only [i64_w, i32_w]; rw [c9b0]) | skip)
        have H' := Aside0.mk H
        clear H
        go_wp2_with (first | ((with_reducible refine gate_callee (f := 41) rfl ?_); refine goesL_ (some 13) rfl rfl Try.func41 (by kernel_rfl) rfl #[.int .i64 a0, .int .i64 a1] rfl (by (try simp only [List.map_toArray, List.map_cons, List.map_nil]); first | done | rfl | (simp only [List.length_drop, List.length_take]; rfl)) ?_; (with_reducible refine (tailwaterref14_Right.calls a0 a1 true _ A7.out).mono ?_); rintro e w' ⟨rfl, ⟨nd, rfl⟩⟩; refine ⟨_, rfl, ?_⟩))
        go_meet
        case rel => exact ⟨_, (true), (by first | rfl | (simp; done) | (simp [*]; done)), H', ⟨by first | omega | exact Nat.le_refl _⟩, ⟨by repeat (first | (with_reducible first | exact HB.out | apply below_alloc | apply pw_below_drewN | apply below_drew1) | exact HB.out)⟩⟩
      · rw [if_neg c9] at H
        have c9b0 : decide (a2 < 1) = false := decide_eq_false c9
        clear c9
        (first | rw [c9b0] | (simp only [i64_w, i32_w]; rw [c9b0]) | skip)
        have H' := Aside0.mk H
        clear H
        go_wp2_with (first | ((with_reducible refine gate_callee (f := 41) rfl ?_); refine goesL_ (some 13) rfl rfl Try.func41 (by kernel_rfl) rfl #[.int .i64 a0, .int .i64 a1] rfl (by (try simp only [List.map_toArray, List.map_cons, List.map_nil]); first | done | rfl | (simp only [List.length_drop, List.length_take]; rfl)) ?_; (with_reducible refine (tailwaterref14_Right.calls a0 a1 true _ A7.out).mono ?_); rintro e w' ⟨rfl, ⟨nd, rfl⟩⟩; refine ⟨_, rfl, ?_⟩))
        go_meet
        case rel => exact ⟨_, (!t190), (by first | rfl | (simp; done) | (simp [*]; done)), H', ⟨by first | omega | exact Nat.le_refl _⟩, ⟨by repeat (first | (with_reducible first | exact HB.out | apply below_alloc | apply pw_below_drewN | apply below_drew1) | exact HB.out)⟩⟩
    · replace c8 := Bool.eq_false_iff.mpr c8
      subst c8
      have H1 : (tailwaterlaw19_PanesDivide.j0 k a0 a1 a2 t190 true) = some r := by rw [if_neg (show ¬ (false = true) by decide)] at H; exact H
      clear H
      have H := H1
      clear H1
      have H' := Aside0.mk H
      clear H
      go_wp2_with (first | ((with_reducible refine gate_callee (f := 41) rfl ?_); refine goesL_ (some 13) rfl rfl Try.func41 (by kernel_rfl) rfl #[.int .i64 a0, .int .i64 a1] rfl (by (try simp only [List.map_toArray, List.map_cons, List.map_nil]); first | done | rfl | (simp only [List.length_drop, List.length_take]; rfl)) ?_; (with_reducible refine (tailwaterref14_Right.calls a0 a1 false _ A7.out).mono ?_); rintro e w' ⟨rfl, ⟨nd, rfl⟩⟩; refine ⟨_, rfl, ?_⟩))
      go_meet
      case rel => exact ⟨_, (true), (by first | rfl | (simp; done) | (simp [*]; done)), H', ⟨by first | omega | exact Nat.le_refl _⟩, ⟨by repeat (first | (with_reducible first | exact HB.out | apply below_alloc | apply pw_below_drewN | apply below_drew1) | exact HB.out)⟩⟩
  case rest =>
    clear HC5
    obtain ⟨kq, x22_4, rfl, HA, HJ4, HB⟩ := hcut
    cases kq with
    | zero => exact absurd HA.out (by simp [tailwaterlaw19_PanesDivide.j0])
    | succ kj4 =>
      have H := HA.out
      clear HA
      simp only [tailwaterlaw19_PanesDivide.j0] at H
      by_cases c10 : x22_4 = true
      · subst c10
        have H1 : (some t190) = some r := by rw [if_pos rfl] at H; exact H
        clear H
        have H := H1
        clear H1
        obtain rfl := Option.some.inj H
        go_wp2
        go_ret
        exact ⟨by first | rfl | (simp [errW_none, errW_some] <;> rfl) | (simp [*, errW_none, errW_some] <;> rfl), by repeat (first | (with_reducible first | exact HB.out | apply below_alloc | apply pw_below_drewN | apply below_drew1) | exact HB.out)⟩
      · replace c10 := Bool.eq_false_iff.mpr c10
        subst c10
        have H1 : ((panes_Size.f kj4 a0 a1).bind fun bt192 => (if bt192.2 = 0 then (if bt192.1 < 1 then (some false) else (if bt192.1 = 0 then (none) else (if (Int.tmod a0 bt192.1) = 0 then (if (Int.tmod a1 bt192.1) = 0 then (if t190 = true then (if a2 = 0 then (none) else (if (Int.tmod a0 a2) = 0 then (if (Int.tmod a1 a2) = 0 then (some ((Int.tmod bt192.1 a2) == 0)) else (some true)) else (some true))) else (some false)) else (some false)) else (some false)))) else (some false))) = some r := by rw [if_neg (show ¬ (false = true) by decide)] at H; exact H
        clear H
        have H := H1
        clear H1
        replace H := Option.bind_eq_some_iff.mp H
        obtain ⟨⟨t192, t193⟩, A110, H⟩ := H
        replace H : (if t193 = 0 then (if t192 < 1 then (some false) else (if t192 = 0 then (none) else (if (Int.tmod a0 t192) = 0 then (if (Int.tmod a1 t192) = 0 then (if t190 = true then (if a2 = 0 then (none) else (if (Int.tmod a0 a2) = 0 then (if (Int.tmod a1 a2) = 0 then (some ((Int.tmod t192 a2) == 0)) else (some true)) else (some true))) else (some false)) else (some false)) else (some false)))) else (some false)) = some r := H
        have A11 := Aside0.mk A110
        clear A110
        by_cases c12 : t193 = 0
        · rw [if_pos c12] at H
          have c12b0 : (t193 == 0) = true := beq_iff_eq.mpr c12
          have c12b1 : (t193 != 0) = false := bne_eq_false_iff_eq.mpr c12
          clear c12
          by_cases c13 : t192 < 1
          · rw [if_pos c13] at H
            have c13b0 : decide (t192 < 1) = true := decide_eq_true c13
            clear c13
            exact absurd ((Option.some.inj H).trans hR_) (by decide)
          · rw [if_neg c13] at H
            have c13b0 : decide (t192 < 1) = false := decide_eq_false c13
            clear c13
            by_cases c14 : t192 = 0
            · rw [if_pos c14] at H
              exact absurd H (by simp)
            · rw [if_neg c14] at H
              have c14b0 : (t192 == 0) = false := beq_eq_false_iff_ne.mpr c14
              have c14b1 : (t192 != 0) = true := bne_iff_ne.mpr c14
              by_cases c15 : (Int.tmod a0 t192) = 0
              · rw [if_pos c15] at H
                have c15b0 : ((Int.tmod a0 t192) == 0) = true := beq_iff_eq.mpr c15
                have c15b1 : ((Int.tmod a0 t192) != 0) = false := bne_eq_false_iff_eq.mpr c15
                clear c15
                by_cases c16 : (Int.tmod a1 t192) = 0
                · rw [if_pos c16] at H
                  have c16b0 : ((Int.tmod a1 t192) == 0) = true := beq_iff_eq.mpr c16
                  have c16b1 : ((Int.tmod a1 t192) != 0) = false := bne_eq_false_iff_eq.mpr c16
                  clear c16
                  by_cases c17 : t190 = true
                  · subst c17
                    have H1 : (if a2 = 0 then (none) else (if (Int.tmod a0 a2) = 0 then (if (Int.tmod a1 a2) = 0 then (some ((Int.tmod t192 a2) == 0)) else (some true)) else (some true))) = some r := by rw [if_pos rfl] at H; exact H
                    clear H
                    have H := H1
                    clear H1
                    by_cases c18 : a2 = 0
                    · rw [if_pos c18] at H
                      exact absurd H (by simp)
                    · rw [if_neg c18] at H
                      have c18b0 : (a2 == 0) = false := beq_eq_false_iff_ne.mpr c18
                      have c18b1 : (a2 != 0) = true := bne_iff_ne.mpr c18
                      by_cases c19 : (Int.tmod a0 a2) = 0
                      · rw [if_pos c19] at H
                        have c19b0 : ((Int.tmod a0 a2) == 0) = true := beq_iff_eq.mpr c19
                        have c19b1 : ((Int.tmod a0 a2) != 0) = false := bne_eq_false_iff_eq.mpr c19
                        clear c19
                        by_cases c20 : (Int.tmod a1 a2) = 0
                        · rw [if_pos c20] at H
                          have c20b0 : ((Int.tmod a1 a2) == 0) = true := beq_iff_eq.mpr c20
                          have c20b1 : ((Int.tmod a1 a2) != 0) = false := bne_eq_false_iff_eq.mpr c20
                          clear c20
                          obtain rfl := Option.some.inj H
                          go_wp2_with (first | ((with_reducible refine gate_callee (f := 34) rfl ?_); refine goesL_ (some 27) rfl rfl Try.func34 (by kernel_rfl) rfl #[.int .i64 a0, .int .i64 a1] rfl (by (try simp only [List.map_toArray, List.map_cons, List.map_nil]); first | done | rfl | (simp only [List.length_drop, List.length_take]; rfl)) ?_; (with_reducible refine (panes_Size.calls kj4 a0 a1 t192 t193 _ A11.out).mono ?_); rintro e w21 ⟨rfl, hb⟩; refine ⟨_, rfl, ?_⟩; have n0_ := Aside0.mk (below_step (by repeat (first | (with_reducible first | exact HB.out | apply below_alloc | apply pw_below_drewN | apply below_drew1) | exact HB.out)) hb); clear HB; have HB := n0_; clear n0_; (try clear hb); (try clear hb2); (try clear hk); (try clear hi)))
                          go_ret
                          exact ⟨by first | rfl | (simp [errW_none, errW_some] <;> rfl) | (simp [*, errW_none, errW_some] <;> rfl), by repeat (first | (with_reducible first | exact HB.out | apply below_alloc | apply pw_below_drewN | apply below_drew1) | exact HB.out)⟩
                        · rw [if_neg c20] at H
                          have c20b0 : ((Int.tmod a1 a2) == 0) = false := beq_eq_false_iff_ne.mpr c20
                          have c20b1 : ((Int.tmod a1 a2) != 0) = true := bne_iff_ne.mpr c20
                          obtain rfl := Option.some.inj H
                          go_wp2_with (first | ((with_reducible refine gate_callee (f := 34) rfl ?_); refine goesL_ (some 27) rfl rfl Try.func34 (by kernel_rfl) rfl #[.int .i64 a0, .int .i64 a1] rfl (by (try simp only [List.map_toArray, List.map_cons, List.map_nil]); first | done | rfl | (simp only [List.length_drop, List.length_take]; rfl)) ?_; (with_reducible refine (panes_Size.calls kj4 a0 a1 t192 t193 _ A11.out).mono ?_); rintro e w22 ⟨rfl, hb⟩; refine ⟨_, rfl, ?_⟩; have n0_ := Aside0.mk (below_step (by repeat (first | (with_reducible first | exact HB.out | apply below_alloc | apply pw_below_drewN | apply below_drew1) | exact HB.out)) hb); clear HB; have HB := n0_; clear n0_; (try clear hb); (try clear hb2); (try clear hk); (try clear hi)))
                          go_ret
                          exact ⟨by first | rfl | (simp [errW_none, errW_some] <;> rfl) | (simp [*, errW_none, errW_some] <;> rfl), by repeat (first | (with_reducible first | exact HB.out | apply below_alloc | apply pw_below_drewN | apply below_drew1) | exact HB.out)⟩
                      · rw [if_neg c19] at H
                        have c19b0 : ((Int.tmod a0 a2) == 0) = false := beq_eq_false_iff_ne.mpr c19
                        have c19b1 : ((Int.tmod a0 a2) != 0) = true := bne_iff_ne.mpr c19
                        obtain rfl := Option.some.inj H
                        go_wp2_with (first | ((with_reducible refine gate_callee (f := 34) rfl ?_); refine goesL_ (some 27) rfl rfl Try.func34 (by kernel_rfl) rfl #[.int .i64 a0, .int .i64 a1] rfl (by (try simp only [List.map_toArray, List.map_cons, List.map_nil]); first | done | rfl | (simp only [List.length_drop, List.length_take]; rfl)) ?_; (with_reducible refine (panes_Size.calls kj4 a0 a1 t192 t193 _ A11.out).mono ?_); rintro e w23 ⟨rfl, hb⟩; refine ⟨_, rfl, ?_⟩; have n0_ := Aside0.mk (below_step (by repeat (first | (with_reducible first | exact HB.out | apply below_alloc | apply pw_below_drewN | apply below_drew1) | exact HB.out)) hb); clear HB; have HB := n0_; clear n0_; (try clear hb); (try clear hb2); (try clear hk); (try clear hi)))
                        go_ret
                        exact ⟨by first | rfl | (simp [errW_none, errW_some] <;> rfl) | (simp [*, errW_none, errW_some] <;> rfl), by repeat (first | (with_reducible first | exact HB.out | apply below_alloc | apply pw_below_drewN | apply below_drew1) | exact HB.out)⟩
                  · replace c17 := Bool.eq_false_iff.mpr c17
                    subst c17
                    have H1 : (some false) = some r := by rw [if_neg (show ¬ (false = true) by decide)] at H; exact H
                    clear H
                    have H := H1
                    clear H1
                    exact absurd ((Option.some.inj H).trans hR_) (by decide)
                · rw [if_neg c16] at H
                  have c16b0 : ((Int.tmod a1 t192) == 0) = false := beq_eq_false_iff_ne.mpr c16
                  have c16b1 : ((Int.tmod a1 t192) != 0) = true := bne_iff_ne.mpr c16
                  exact absurd ((Option.some.inj H).trans hR_) (by decide)
              · rw [if_neg c15] at H
                have c15b0 : ((Int.tmod a0 t192) == 0) = false := beq_eq_false_iff_ne.mpr c15
                have c15b1 : ((Int.tmod a0 t192) != 0) = true := bne_iff_ne.mpr c15
                exact absurd ((Option.some.inj H).trans hR_) (by decide)
        · rw [if_neg c12] at H
          have c12b0 : (t193 == 0) = false := beq_eq_false_iff_ne.mpr c12
          have c12b1 : (t193 != 0) = true := bne_iff_ne.mpr c12
          exact absurd ((Option.some.inj H).trans hR_) (by decide)

/-- THE ONE PURE STATEMENT of tailwaterlaw19_PanesDivide: yours. -/
def tailwaterlaw19_PanesDivide.Pure : Prop := ∀ (a0 : Int) (a1 : Int) (a2 : Int), (Lit.int .i64 a0).wf = true → (Lit.int .i64 a1).wf = true → (Lit.int .i64 a2).wf = true → ∃ k, tailwaterlaw19_PanesDivide.f k a0 a1 a2 = some true
theorem tailwaterlaw19_PanesDivide.walk (P : tailwaterlaw19_PanesDivide.Pure) (a0 : Int) (a1 : Int) (a2 : Int) (w : World) (w0 : (Lit.int .i64 a0).wf = true) (w1 : (Lit.int .i64 a1).wf = true) (w2 : (Lit.int .i64 a2).wf = true) :
    Calls Try.prog 13 #[.int .i64 a0, .int .i64 a1, .int .i64 a2] w fun e w' => e = .returned (.bool true) ∧ Below w.heap.size w w' := by
  obtain ⟨k, h⟩ := P a0 a1 a2 w0 w1 w2
  refine (tailwaterlaw19_PanesDivide.calls k a0 a1 a2 true w h rfl).mono ?_
  rintro e w' ⟨rfl, hd⟩
  exact ⟨rfl, hd⟩

end Go.Proofs.Ytepgpbbeeiebkaa.St
