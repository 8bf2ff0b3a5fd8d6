/- Contracts of functions of the program, each over a plain Lean function of the same answers: written by pdrive.py, a program of this session that drives the kit's printer with some functions given by hand; conditions: as each theorem says. -/
import Derived.Test.YtepgpbbeeiebkaaStx0
import Derived.Test.YtepgpbbeeiebkaaStx1
import Derived.Test.YtepgpbbeeiebkaaStx10
import Derived.Test.YtepgpbbeeiebkaaStx13
import Derived.Test.YtepgpbbeeiebkaaPaV
namespace Go.Proofs.Ytepgpbbeeiebkaa.St
open Go.RowKit Go.Proofs.YtepgpbbeeiebkaaW.PrintWords Go.Proofs.YtepgpbbeeiebkaaW.PrintLast Go.Proofs.YtepgpbbeeiebkaaW.PrintMore
attribute [local go_sem] max2_int min2_int max_two min_two max_three min_three max_four min_four   -- for this text's walks alone
set_option linter.unusedVariables false
set_option linter.unusedSimpArgs false

attribute [local go_sem high] eqA34
/-! ### tailwaterlaw19_alive: function 30 -/
def tailwaterlaw19_alive.f (k : Nat)  : Option (Bool) := (panes_Size.f k 10 4).bind fun bt166 => ((tailwaterlaw19_example.f).bind fun bt168 => ((panes_Parts.f k bt168.1 bt168.2.1 bt168.2.2 4 14).bind fun bt171 => ((tailwaterlaw19_example.f).bind fun bt175 => ((panes_Values.f bt175.1 bt175.2.1 bt175.2.2 (([(⟨0, 5, 1⟩ : S26), (⟨0, 9, 2⟩ : S26)] : List (S26)))).bind fun bt181 => (if bt166.2 = 0 then (if bt166.1 = 2 then (if bt171.2 = 0 then (if (bt171.1.length : Int) = 5 then (if 2 < (bt171.1.length : Int) then (if (!(((rd_T34 bt171.1 2).f0) == 8) || (!(((rd_T34 bt171.1 2).f1) == 10))) = true then (some false) else (if bt181.2 = 0 then (if (bt181.1.length : Int) = 4 then (if 1 < (bt181.1.length : Int) then (if (((rd_T39 bt181.1 1).f1.f0) == 0 && (((rd_T39 bt181.1 1).f1.f1) == 10)) = true then (if ((rd_T39 bt181.1 1).f2.f0.f1) = 3 then (if 2 < (bt181.1.length : Int) then (if ((rd_T39 bt181.1 2).f2.f0.f0) = 2 then (if 0 < (bt181.1.length : Int) then (some (((rd_T39 bt181.1 0).f2.f0.f0) == 1)) else (none)) else (some false)) else (none)) else (some false)) else (some false)) else (none)) else (some false)) else (some false))) else (none)) else (some false)) else (some false)) else (some false)) else (some false))))))
theorem tailwaterlaw19_alive.mono : ∀ k, LeO (tailwaterlaw19_alive.f k ) (tailwaterlaw19_alive.f (k + 1) ) := by
  intro  k
  unfold tailwaterlaw19_alive.f
  repeat' first
      | (with_reducible exact panes_Parts.mono _ _ _ _ _ _)
      | (with_reducible exact panes_Size.mono _ _ _)
      | (with_reducible exact LeO.refl _)
      | (with_reducible exact LeO.none _)
      | (with_reducible refine LeO.ite ?_ ?_)
      | (with_reducible refine LeO.bind ?_ (fun _ => ?_))
      | exact panes_Parts.mono _ _ _ _ _ _
      | exact panes_Size.mono _ _ _
      | exact LeO.none _
      | refine LeO.ite ?_ ?_
      | refine LeO.bind ?_ (fun _ => ?_)
set_option maxHeartbeats 8000000 in
set_option maxRecDepth 100000 in
theorem tailwaterlaw19_alive.calls_ (k : Nat)  (r : Bool) (w : World) (h : tailwaterlaw19_alive.f k  = some r) (hR_ : r = true) :
    Calls Try.prog 30 #[] w fun e w' => e = .returned (.bool r) ∧ Below w.heap.size w w' := by
  have hu34 := Try.underlying34
  have hu26 := Try.underlying26
  have HB := Aside0.mk (Below.refl w.heap.size w)
  have H : ((panes_Size.f k 10 4).bind fun bt166 => ((tailwaterlaw19_example.f).bind fun bt168 => ((panes_Parts.f k bt168.1 bt168.2.1 bt168.2.2 4 14).bind fun bt171 => ((tailwaterlaw19_example.f).bind fun bt175 => ((panes_Values.f bt175.1 bt175.2.1 bt175.2.2 (([(⟨0, 5, 1⟩ : S26), (⟨0, 9, 2⟩ : S26)] : List (S26)))).bind fun bt181 => (if bt166.2 = 0 then (if bt166.1 = 2 then (if bt171.2 = 0 then (if (bt171.1.length : Int) = 5 then (if 2 < (bt171.1.length : Int) then (if (!(((rd_T34 bt171.1 2).f0) == 8) || (!(((rd_T34 bt171.1 2).f1) == 10))) = true then (some false) else (if bt181.2 = 0 then (if (bt181.1.length : Int) = 4 then (if 1 < (bt181.1.length : Int) then (if (((rd_T39 bt181.1 1).f1.f0) == 0 && (((rd_T39 bt181.1 1).f1.f1) == 10)) = true then (if ((rd_T39 bt181.1 1).f2.f0.f1) = 3 then (if 2 < (bt181.1.length : Int) then (if ((rd_T39 bt181.1 2).f2.f0.f0) = 2 then (if 0 < (bt181.1.length : Int) then (some (((rd_T39 bt181.1 0).f2.f0.f0) == 1)) else (none)) else (some false)) else (none)) else (some false)) else (some false)) else (none)) else (some false)) else (some false))) else (none)) else (some false)) else (some false)) else (some false)) else (some false))))))) = some r := h
  clear h
  replace H := Option.bind_eq_some_iff.mp H
  obtain ⟨⟨t166, t167⟩, A10, H⟩ := H
  replace H : ((tailwaterlaw19_example.f).bind fun bt168 => ((panes_Parts.f k bt168.1 bt168.2.1 bt168.2.2 4 14).bind fun bt171 => ((tailwaterlaw19_example.f).bind fun bt175 => ((panes_Values.f bt175.1 bt175.2.1 bt175.2.2 (([(⟨0, 5, 1⟩ : S26), (⟨0, 9, 2⟩ : S26)] : List (S26)))).bind fun bt181 => (if t167 = 0 then (if t166 = 2 then (if bt171.2 = 0 then (if (bt171.1.length : Int) = 5 then (if 2 < (bt171.1.length : Int) then (if (!(((rd_T34 bt171.1 2).f0) == 8) || (!(((rd_T34 bt171.1 2).f1) == 10))) = true then (some false) else (if bt181.2 = 0 then (if (bt181.1.length : Int) = 4 then (if 1 < (bt181.1.length : Int) then (if (((rd_T39 bt181.1 1).f1.f0) == 0 && (((rd_T39 bt181.1 1).f1.f1) == 10)) = true then (if ((rd_T39 bt181.1 1).f2.f0.f1) = 3 then (if 2 < (bt181.1.length : Int) then (if ((rd_T39 bt181.1 2).f2.f0.f0) = 2 then (if 0 < (bt181.1.length : Int) then (some (((rd_T39 bt181.1 0).f2.f0.f0) == 1)) else (none)) else (some false)) else (none)) else (some false)) else (some false)) else (none)) else (some false)) else (some false))) else (none)) else (some false)) else (some false)) else (some false)) else (some false)))))) = some r := H
  have A1 := Aside0.mk A10
  clear A10
  replace H := Option.bind_eq_some_iff.mp H
  obtain ⟨⟨t168, t169, t170⟩, A20, H⟩ := H
  replace H : ((panes_Parts.f k t168 t169 t170 4 14).bind fun bt171 => ((tailwaterlaw19_example.f).bind fun bt175 => ((panes_Values.f bt175.1 bt175.2.1 bt175.2.2 (([(⟨0, 5, 1⟩ : S26), (⟨0, 9, 2⟩ : S26)] : List (S26)))).bind fun bt181 => (if t167 = 0 then (if t166 = 2 then (if bt171.2 = 0 then (if (bt171.1.length : Int) = 5 then (if 2 < (bt171.1.length : Int) then (if (!(((rd_T34 bt171.1 2).f0) == 8) || (!(((rd_T34 bt171.1 2).f1) == 10))) = true then (some false) else (if bt181.2 = 0 then (if (bt181.1.length : Int) = 4 then (if 1 < (bt181.1.length : Int) then (if (((rd_T39 bt181.1 1).f1.f0) == 0 && (((rd_T39 bt181.1 1).f1.f1) == 10)) = true then (if ((rd_T39 bt181.1 1).f2.f0.f1) = 3 then (if 2 < (bt181.1.length : Int) then (if ((rd_T39 bt181.1 2).f2.f0.f0) = 2 then (if 0 < (bt181.1.length : Int) then (some (((rd_T39 bt181.1 0).f2.f0.f0) == 1)) else (none)) else (some false)) else (none)) else (some false)) else (some false)) else (none)) else (some false)) else (some false))) else (none)) else (some false)) else (some false)) else (some false)) else (some false))))) = some r := H
  have A2 := Aside0.mk A20
  clear A20
  replace H := Option.bind_eq_some_iff.mp H
  obtain ⟨⟨t171, t174⟩, A30, H⟩ := H
  replace H : ((tailwaterlaw19_example.f).bind fun bt175 => ((panes_Values.f bt175.1 bt175.2.1 bt175.2.2 (([(⟨0, 5, 1⟩ : S26), (⟨0, 9, 2⟩ : S26)] : List (S26)))).bind fun bt181 => (if t167 = 0 then (if t166 = 2 then (if t174 = 0 then (if (t171.length : Int) = 5 then (if 2 < (t171.length : Int) then (if (!(((rd_T34 t171 2).f0) == 8) || (!(((rd_T34 t171 2).f1) == 10))) = true then (some false) else (if bt181.2 = 0 then (if (bt181.1.length : Int) = 4 then (if 1 < (bt181.1.length : Int) then (if (((rd_T39 bt181.1 1).f1.f0) == 0 && (((rd_T39 bt181.1 1).f1.f1) == 10)) = true then (if ((rd_T39 bt181.1 1).f2.f0.f1) = 3 then (if 2 < (bt181.1.length : Int) then (if ((rd_T39 bt181.1 2).f2.f0.f0) = 2 then (if 0 < (bt181.1.length : Int) then (some (((rd_T39 bt181.1 0).f2.f0.f0) == 1)) else (none)) else (some false)) else (none)) else (some false)) else (some false)) else (none)) else (some false)) else (some false))) else (none)) else (some false)) else (some false)) else (some false)) else (some false)))) = some r := H
  have A3 := Aside0.mk A30
  clear A30
  replace H := Option.bind_eq_some_iff.mp H
  obtain ⟨⟨t175, t176, t177⟩, A40, H⟩ := H
  replace H : ((panes_Values.f t175 t176 t177 (([(⟨0, 5, 1⟩ : S26), (⟨0, 9, 2⟩ : S26)] : List (S26)))).bind fun bt181 => (if t167 = 0 then (if t166 = 2 then (if t174 = 0 then (if (t171.length : Int) = 5 then (if 2 < (t171.length : Int) then (if (!(((rd_T34 t171 2).f0) == 8) || (!(((rd_T34 t171 2).f1) == 10))) = true then (some false) else (if bt181.2 = 0 then (if (bt181.1.length : Int) = 4 then (if 1 < (bt181.1.length : Int) then (if (((rd_T39 bt181.1 1).f1.f0) == 0 && (((rd_T39 bt181.1 1).f1.f1) == 10)) = true then (if ((rd_T39 bt181.1 1).f2.f0.f1) = 3 then (if 2 < (bt181.1.length : Int) then (if ((rd_T39 bt181.1 2).f2.f0.f0) = 2 then (if 0 < (bt181.1.length : Int) then (some (((rd_T39 bt181.1 0).f2.f0.f0) == 1)) else (none)) else (some false)) else (none)) else (some false)) else (some false)) else (none)) else (some false)) else (some false))) else (none)) else (some false)) else (some false)) else (some false)) else (some false))) = some r := H
  have A4 := Aside0.mk A40
  clear A40
  obtain ⟨y178, hy178⟩ : ∃ y_ : List (S26), y_ = (([(⟨0, 5, 1⟩ : S26), (⟨0, 9, 2⟩ : S26)] : List (S26))) := ⟨_, rfl⟩
  replace H : ((panes_Values.f t175 t176 t177 y178).bind fun bt181 => (if t167 = 0 then (if t166 = 2 then (if t174 = 0 then (if (t171.length : Int) = 5 then (if 2 < (t171.length : Int) then (if (!(((rd_T34 t171 2).f0) == 8) || (!(((rd_T34 t171 2).f1) == 10))) = true then (some false) else (if bt181.2 = 0 then (if (bt181.1.length : Int) = 4 then (if 1 < (bt181.1.length : Int) then (if (((rd_T39 bt181.1 1).f1.f0) == 0 && (((rd_T39 bt181.1 1).f1.f1) == 10)) = true then (if ((rd_T39 bt181.1 1).f2.f0.f1) = 3 then (if 2 < (bt181.1.length : Int) then (if ((rd_T39 bt181.1 2).f2.f0.f0) = 2 then (if 0 < (bt181.1.length : Int) then (some (((rd_T39 bt181.1 0).f2.f0.f0) == 1)) else (none)) else (some false)) else (none)) else (some false)) else (some false)) else (none)) else (some false)) else (some false))) else (none)) else (some false)) else (some false)) else (some false)) else (some false))) = some r := by first | (rw [hy178]; with_reducible exact H) | (have H2_ := (Option.bind_some _ _).symm.trans H; rw [hy178]; with_reducible exact H2_) | (have H2_ := (Option.bind_some _ _).symm.trans H; with_reducible exact H2_) | with_reducible exact H | (rw [hy178]; exact H) | exact H
  have Ny178 := Aside0.mk hy178
  clear hy178
  replace H := Option.bind_eq_some_iff.mp H
  obtain ⟨⟨t181, t184⟩, A50, H⟩ := H
  replace H : (if t167 = 0 then (if t166 = 2 then (if t174 = 0 then (if (t171.length : Int) = 5 then (if 2 < (t171.length : Int) then (if (!(((rd_T34 t171 2).f0) == 8) || (!(((rd_T34 t171 2).f1) == 10))) = true then (some false) else (if t184 = 0 then (if (t181.length : Int) = 4 then (if 1 < (t181.length : Int) then (if (((rd_T39 t181 1).f1.f0) == 0 && (((rd_T39 t181 1).f1.f1) == 10)) = true then (if ((rd_T39 t181 1).f2.f0.f1) = 3 then (if 2 < (t181.length : Int) then (if ((rd_T39 t181 2).f2.f0.f0) = 2 then (if 0 < (t181.length : Int) then (some (((rd_T39 t181 0).f2.f0.f0) == 1)) else (none)) else (some false)) else (none)) else (some false)) else (some false)) else (none)) else (some false)) else (some false))) else (none)) else (some false)) else (some false)) else (some false)) else (some false)) = some r := H
  have A5 := Aside0.mk A50
  clear A50
  by_cases c6 : t167 = 0
  · rw [if_pos c6] at H
    have c6b0 : (t167 == 0) = true := beq_iff_eq.mpr c6
    have c6b1 : (t167 != 0) = false := bne_eq_false_iff_eq.mpr c6
    clear c6
    by_cases c7 : t166 = 2
    · rw [if_pos c7] at H
      have c7b0 : (t166 == 2) = true := beq_iff_eq.mpr c7
      have c7b1 : (t166 != 2) = false := bne_eq_false_iff_eq.mpr c7
      clear c7
      by_cases c8 : t174 = 0
      · rw [if_pos c8] at H
        have c8b0 : (t174 == 0) = true := beq_iff_eq.mpr c8
        have c8b1 : (t174 != 0) = false := bne_eq_false_iff_eq.mpr c8
        clear c8
        by_cases c9 : (t171.length : Int) = 5
        · rw [if_pos c9] at H
          have c9b0 : ((t171.length : Int) == 5) = true := beq_iff_eq.mpr c9
          have c9b1 : ((t171.length : Int) != 5) = false := bne_eq_false_iff_eq.mpr c9
          clear c9
          by_cases c10 : 2 < (t171.length : Int)
          · rw [if_pos c10] at H
            have c10b0 : decide (2 < (t171.length : Int)) = true := decide_eq_true c10
            have c10b1 : decide (2 < t171.length) = true := decide_eq_true (by omega)
            clear c10
            by_cases c11 : (!(((rd_T34 t171 2).f0) == 8) || (!(((rd_T34 t171 2).f1) == 10))) = true
            · rw [if_pos c11] at H
              have c11b0 : (!(((rd_T34 t171 2).f0) == 8) || (!(((rd_T34 t171 2).f1) == 10))) = true := c11
              clear c11
              exact absurd ((Option.some.inj H).trans hR_) (by decide)
            · rw [if_neg c11] at H
              have c11b0 : (!(((rd_T34 t171 2).f0) == 8) || (!(((rd_T34 t171 2).f1) == 10))) = false := by simpa using c11
              clear c11
              by_cases c12 : t184 = 0
              · rw [if_pos c12] at H
                have c12b0 : (t184 == 0) = true := beq_iff_eq.mpr c12
                have c12b1 : (t184 != 0) = false := bne_eq_false_iff_eq.mpr c12
                clear c12
                by_cases c13 : (t181.length : Int) = 4
                · rw [if_pos c13] at H
                  have c13b0 : ((t181.length : Int) == 4) = true := beq_iff_eq.mpr c13
                  have c13b1 : ((t181.length : Int) != 4) = false := bne_eq_false_iff_eq.mpr c13
                  clear c13
                  by_cases c14 : 1 < (t181.length : Int)
                  · rw [if_pos c14] at H
                    have c14b0 : decide (1 < (t181.length : Int)) = true := decide_eq_true c14
                    have c14b1 : decide (1 < t181.length) = true := decide_eq_true (by omega)
                    clear c14
                    by_cases c15 : (((rd_T39 t181 1).f1.f0) == 0 && (((rd_T39 t181 1).f1.f1) == 10)) = true
                    · rw [if_pos c15] at H
                      have c15b0 : (((rd_T39 t181 1).f1.f0) == 0 && (((rd_T39 t181 1).f1.f1) == 10)) = true := c15
                      (try (have c15b1 : decide (((rd_T39 t181 1).f1.f0) = 0 && (((rd_T39 t181 1).f1.f1) == 10)) = true := by simpa using c15))
                      (try (have c15b2 : (((rd_T39 t181 1).f1.f0) == 0 && (((rd_T39 t181 1).f1.f1) == 10)) = true := by simpa using c15))
                      clear c15
                      by_cases c16 : ((rd_T39 t181 1).f2.f0.f1) = 3
                      · rw [if_pos c16] at H
                        have c16b0 : (((rd_T39 t181 1).f2.f0.f1) == 3) = true := beq_iff_eq.mpr c16
                        have c16b1 : (((rd_T39 t181 1).f2.f0.f1) != 3) = false := bne_eq_false_iff_eq.mpr c16
                        clear c16
                        by_cases c17 : 2 < (t181.length : Int)
                        · rw [if_pos c17] at H
                          have c17b0 : decide (2 < (t181.length : Int)) = true := decide_eq_true c17
                          have c17b1 : decide (2 < t181.length) = true := decide_eq_true (by omega)
                          clear c17
                          by_cases c18 : ((rd_T39 t181 2).f2.f0.f0) = 2
                          · rw [if_pos c18] at H
                            have c18b0 : (((rd_T39 t181 2).f2.f0.f0) == 2) = true := beq_iff_eq.mpr c18
                            have c18b1 : (((rd_T39 t181 2).f2.f0.f0) != 2) = false := bne_eq_false_iff_eq.mpr c18
                            clear c18
                            by_cases c19 : 0 < (t181.length : Int)
                            · rw [if_pos c19] at H
                              have c19b0 : decide (0 < (t181.length : Int)) = true := decide_eq_true c19
                              have c19b1 : decide (0 < t181.length) = true := decide_eq_true (by omega)
                              clear c19
                              obtain rfl := Option.some.inj H
                              go_enter Try.func30, Try.ntmps30
                              go_wp2_with (first | ((with_reducible refine gate_callee (f := 34) rfl ?_); refine goesL_ (some 8) rfl rfl Try.func34 (by kernel_rfl) rfl #[.int .i64 10, .int .i64 4] rfl (by (try simp only [List.map_toArray, List.map_cons, List.map_nil]); first | done | rfl | (simp only [List.length_drop, List.length_take]; rfl)) ?_; (with_reducible refine (panes_Size.calls k 10 4 t166 t167 _ A1.out).mono ?_); rintro e w20 ⟨rfl, hb⟩; refine ⟨_, rfl, ?_⟩; have n0_ := Aside0.mk (below_step (by repeat (first | (with_reducible first | exact HB.out | apply below_alloc | apply pw_below_drewN | apply below_drew1) | exact HB.out)) hb); clear HB; have HB := n0_; clear n0_; (try clear hb); (try clear hb2); (try clear hk); (try clear hi)) | ((with_reducible refine gate_callee (f := 40) rfl ?_); refine goesL_ (some 12) rfl rfl Try.func40 (by kernel_rfl) rfl #[] rfl (by (try simp only [List.map_toArray, List.map_cons, List.map_nil]); first | done | rfl | (simp only [List.length_drop, List.length_take]; rfl)) ?_; (with_reducible refine (tailwaterlaw19_example.calls  t168 t169 t170 _ A2.out).mono ?_); rintro e w21 ⟨rfl, hb⟩; refine ⟨_, rfl, ?_⟩; have n0_ := Aside0.mk (below_step (by repeat (first | (with_reducible first | exact HB.out | apply below_alloc | apply pw_below_drewN | apply below_drew1) | exact HB.out)) hb); clear HB; have HB := n0_; clear n0_; (try clear hb); (try clear hb2); (try clear hk); (try clear hi)) | ((with_reducible refine gate_callee (f := 36) rfl ?_); refine goesL_ (some 14) rfl rfl Try.func36 (by kernel_rfl) rfl #[.agg #[.int .u8 t168, .int .i64 t169, .int .i64 t170], .agg #[.int .i64 4, .int .i64 14]] rfl (by (try simp only [List.map_toArray, List.map_cons, List.map_nil]); first | done | rfl | (simp only [List.length_drop, List.length_take]; rfl)) ?_; (with_reducible refine (panes_Parts.calls k t168 t169 t170 4 14 t171 t174 _ A3.out).mono ?_); rintro e w22 ⟨v172, rfl, ho0, hb⟩; refine ⟨_, rfl, ?_⟩; have n0_ := Aside0.mk (Kd.R_lower ho0 (below_size (by repeat (first | (with_reducible first | exact HB.out | apply below_alloc | apply pw_below_drewN | apply below_drew1) | exact HB.out)))); have n1_ := Aside0.mk (below_step (by repeat (first | (with_reducible first | exact HB.out | apply below_alloc | apply pw_below_drewN | apply below_drew1) | exact HB.out)) hb); clear HB; have HO173 := n0_; have HB := n1_; clear n0_ n1_; (try clear hb); (try clear hb2); (try clear hk); (try clear hi); (try clear ho0)) | ((with_reducible refine gate_callee (f := 40) rfl ?_); refine goesL_ (some 18) rfl rfl Try.func40 (by kernel_rfl) rfl #[] rfl (by (try simp only [List.map_toArray, List.map_cons, List.map_nil]); first | done | rfl | (simp only [List.length_drop, List.length_take]; rfl)) ?_; (with_reducible refine (tailwaterlaw19_example.calls  t175 t176 t177 _ A4.out).mono ?_); rintro e w23 ⟨rfl, hb⟩; refine ⟨_, rfl, ?_⟩; have n0_ := Aside0.mk (Kd.R_below (by (with_reducible repeat (first | apply Kd.R_alloc | apply Kd.R_drewN | apply Kd.R_drew)); exact HO173.out) hb); have n1_ := Aside0.mk (below_step (by repeat (first | (with_reducible first | exact HB.out | apply below_alloc | apply pw_below_drewN | apply below_drew1) | exact HB.out)) hb); clear HO173 HB; have HO173 := n0_; have HB := n1_; clear n0_ n1_; (try clear hb); (try clear hb2); (try clear hk); (try clear hi)) | ((with_reducible refine gate_dst (N := 21) rfl ?_); (try (refine gate_guard (by rfl) ?_; dsimp only)); refine Kd.R_lit k26 _ 26 ?hg (N := 21) ?hd (xs := ([(⟨0, 5, 1⟩ : S26), (⟨0, 9, 2⟩ : S26)] : List (S26))) (inner := [.int .i64 0, .int .i64 5, .int .i64 1, .int .i64 0, .int .i64 9, .int .i64 2]) (ok := fun _ => True) (okp := fun _ => True) ?hr ?hp (fun _ hk => hk) trivial (Below.refl _ _) (Nat.le_refl _) (by simp) ?_; (case hd => rfl); (case hg => rfl); (case hr => first | (go_simp; done) | (go_simp; rfl)); (case hp => exact (Reps.c3 (show Kd.M k26 _ _ _ (⟨0, 5, 1⟩ : S26) [.int .i64 0, .int .i64 5, .int .i64 1] from (k26_mkM _ _ _ (⟨0, 5, 1⟩ : S26) )) (Reps.c3 (show Kd.M k26 _ _ _ (⟨0, 9, 2⟩ : S26) [.int .i64 0, .int .i64 9, .int .i64 2] from (k26_mkM _ _ _ (⟨0, 9, 2⟩ : S26) )) (Reps.none _ _)))); intro v179 w24 ho25 hb hg_ hnew_; clear hg_ hnew_; (first | rw [← Ny178.out] at ho25 | (simp only [Int.reduceToNat] at ho25; rw [← Ny178.out] at ho25)); have n0_ := Aside0.mk (Kd.R_below (by (with_reducible repeat (first | apply Kd.R_alloc | apply Kd.R_drewN | apply Kd.R_drew)); exact HO173.out) hb); have n1_ := Aside0.mk (Kd.R_lower ho25 (below_size (by repeat (first | (with_reducible first | exact HB.out | apply below_alloc | apply pw_below_drewN | apply below_drew1) | exact HB.out)))); have n2_ := Aside0.mk (below_step (by repeat (first | (with_reducible first | exact HB.out | apply below_alloc | apply pw_below_drewN | apply below_drew1) | exact HB.out)) hb); clear HO173 HB; have HO173 := n0_; have HO180 := n1_; have HB := n2_; clear n0_ n1_ n2_; clear hb ho25; obtain ⟨Ao26, co26, eo26⟩ := Kd.R_slice HO180.out; subst eo26) | ((with_reducible refine gate_callee (f := 33) rfl ?_); refine goesL_ (some 22) rfl rfl Try.func33 (by kernel_rfl) rfl #[.agg #[.int .u8 t175, .int .i64 t176, .int .i64 t177], .slice Ao26 y178.length co26] rfl (by (try simp only [List.map_toArray, List.map_cons, List.map_nil]); first | done | rfl | (simp only [List.length_drop, List.length_take]; rfl)) ?_; (with_reducible refine (panes_Values.calls t175 t176 t177 _ _ y178 t181 t184 _ ?side1 ?side2 A5.out).mono ?_); (case side1 => repeat (first | exact (Kd.R_reads' HO180.out).2.2 | (with_reducible refine Kd.C_alloc ?_ _) | (with_reducible refine Kd.C_drewN ?_ _) | (with_reducible refine Kd.C_drew ?_))); (case side2 => exact (Kd.R_reads' HO180.out).2.1); rintro e w27 ⟨v182, rfl, ho0, hb⟩; refine ⟨_, rfl, ?_⟩; have n0_ := Aside0.mk (Kd.R_below (by (with_reducible repeat (first | apply Kd.R_alloc | apply Kd.R_drewN | apply Kd.R_drew)); exact HO173.out) hb); have n1_ := Aside0.mk (Kd.R_lower ho0 (below_size (by repeat (first | (with_reducible first | exact HB.out | apply below_alloc | apply pw_below_drewN | apply below_drew1) | exact HB.out)))); have n2_ := Aside0.mk (below_step (by repeat (first | (with_reducible first | exact HB.out | apply below_alloc | apply pw_below_drewN | apply below_drew1) | exact HB.out)) hb); clear HO173 HB; have HO173 := n0_; have HO183 := n1_; have HB := n2_; clear n0_ n1_ n2_; (try clear hb); (try clear hb2); (try clear hk); (try clear hi); (try clear ho0); obtain ⟨Ao28, co28, eo28⟩ := Kd.R_slice HO173.out; subst eo28; have p185 : 0 ≤ (2 : Int) := (by omega); have q185 : 2 < (t171.length : Int) := of_decide_eq_true (by first | (with_reducible assumption) | assumption); obtain ⟨ad185, e185, hx185_0, hx185_1⟩ := at_T34 (Kd.R_reads' HO173.out).2.2 2 p185 q185; cases e185; (try simp only [show (2 : Int).toNat = 2 from rfl, Nat.reduceMul, Nat.reduceEqDiff, Go.Addr.add, ↓reduceIte] at hx185_0); (try simp only [show (2 : Int).toNat = 2 from rfl, Nat.reduceMul, Nat.reduceEqDiff, Go.Addr.add, ↓reduceIte] at hx185_1); have qi185 : (2 < t171.length) = True := eq_true (by omega); (try rw [show ((2 : Int)).toNat = 2 from rfl] at hx185_0); (try rw [show 2 * 2 = 4 from rfl] at hx185_0); (try rw [show ((2 : Int)).toNat = 2 from rfl] at hx185_1); (try rw [show 2 * 2 = 4 from rfl] at hx185_1); replace p185 := eq_true p185; replace q185 := eq_true q185; obtain ⟨Ao29, co29, eo29⟩ := Kd.R_slice HO183.out; subst eo29; have p186 : 0 ≤ (1 : Int) := (by omega); have q186 : 1 < (t181.length : Int) := of_decide_eq_true (by first | (with_reducible assumption) | assumption); obtain ⟨ad186, e186, hx186_0, hx186_1, hx186_2, hx186_3, hx186_4, hx186_5, hx186_6, hx186_7, hx186_8, hx186_9, hx186_10⟩ := at_T39 (Kd.R_reads' HO183.out).2.2 1 p186 q186; cases e186; (try simp only [show (1 : Int).toNat = 1 from rfl, Nat.reduceMul, Nat.reduceEqDiff, Go.Addr.add, ↓reduceIte] at hx186_0); (try simp only [show (1 : Int).toNat = 1 from rfl, Nat.reduceMul, Nat.reduceEqDiff, Go.Addr.add, ↓reduceIte] at hx186_1); (try simp only [show (1 : Int).toNat = 1 from rfl, Nat.reduceMul, Nat.reduceEqDiff, Go.Addr.add, ↓reduceIte] at hx186_2); (try simp only [show (1 : Int).toNat = 1 from rfl, Nat.reduceMul, Nat.reduceEqDiff, Go.Addr.add, ↓reduceIte] at hx186_3); (try simp only [show (1 : Int).toNat = 1 from rfl, Nat.reduceMul, Nat.reduceEqDiff, Go.Addr.add, ↓reduceIte] at hx186_4); (try simp only [show (1 : Int).toNat = 1 from rfl, Nat.reduceMul, Nat.reduceEqDiff, Go.Addr.add, ↓reduceIte] at hx186_5); (try simp only [show (1 : Int).toNat = 1 from rfl, Nat.reduceMul, Nat.reduceEqDiff, Go.Addr.add, ↓reduceIte] at hx186_6); (try simp only [show (1 : Int).toNat = 1 from rfl, Nat.reduceMul, Nat.reduceEqDiff, Go.Addr.add, ↓reduceIte] at hx186_7); (try simp only [show (1 : Int).toNat = 1 from rfl, Nat.reduceMul, Nat.reduceEqDiff, Go.Addr.add, ↓reduceIte] at hx186_8); (try simp only [show (1 : Int).toNat = 1 from rfl, Nat.reduceMul, Nat.reduceEqDiff, Go.Addr.add, ↓reduceIte] at hx186_9); (try simp only [show (1 : Int).toNat = 1 from rfl, Nat.reduceMul, Nat.reduceEqDiff, Go.Addr.add, ↓reduceIte] at hx186_10); have qi186 : (1 < t181.length) = True := eq_true (by omega); (try rw [show ((1 : Int)).toNat = 1 from rfl] at hx186_0); (try rw [show 1 * 11 = 11 from rfl] at hx186_0); (try rw [show ((1 : Int)).toNat = 1 from rfl] at hx186_1); (try rw [show 1 * 11 = 11 from rfl] at hx186_1); (try rw [show ((1 : Int)).toNat = 1 from rfl] at hx186_2); (try rw [show 1 * 11 = 11 from rfl] at hx186_2); (try rw [show ((1 : Int)).toNat = 1 from rfl] at hx186_3); (try rw [show 1 * 11 = 11 from rfl] at hx186_3); (try rw [show ((1 : Int)).toNat = 1 from rfl] at hx186_4); (try rw [show 1 * 11 = 11 from rfl] at hx186_4); (try rw [show ((1 : Int)).toNat = 1 from rfl] at hx186_5); (try rw [show 1 * 11 = 11 from rfl] at hx186_5); (try rw [show ((1 : Int)).toNat = 1 from rfl] at hx186_6); (try rw [show 1 * 11 = 11 from rfl] at hx186_6); (try rw [show ((1 : Int)).toNat = 1 from rfl] at hx186_7); (try rw [show 1 * 11 = 11 from rfl] at hx186_7); (try rw [show ((1 : Int)).toNat = 1 from rfl] at hx186_8); (try rw [show 1 * 11 = 11 from rfl] at hx186_8); (try rw [show ((1 : Int)).toNat = 1 from rfl] at hx186_9); (try rw [show 1 * 11 = 11 from rfl] at hx186_9); (try rw [show ((1 : Int)).toNat = 1 from rfl] at hx186_10); (try rw [show 1 * 11 = 11 from rfl] at hx186_10); replace p186 := eq_true p186; replace q186 := eq_true q186; have p187 : 0 ≤ (1 : Int) := (by omega); have q187 : 1 < (t181.length : Int) := of_decide_eq_true (by first | (with_reducible assumption) | assumption); obtain ⟨ad187, e187, hx187_0, hx187_1, hx187_2, hx187_3, hx187_4, hx187_5, hx187_6, hx187_7, hx187_8, hx187_9, hx187_10⟩ := at_T39 (Kd.R_reads' HO183.out).2.2 1 p187 q187; obtain rfl : ad186 = ad187 := (by injection e187); (try simp only [show (1 : Int).toNat = 1 from rfl, Nat.reduceMul, Nat.reduceEqDiff, Go.Addr.add, ↓reduceIte] at hx187_0); (try simp only [show (1 : Int).toNat = 1 from rfl, Nat.reduceMul, Nat.reduceEqDiff, Go.Addr.add, ↓reduceIte] at hx187_1); (try simp only [show (1 : Int).toNat = 1 from rfl, Nat.reduceMul, Nat.reduceEqDiff, Go.Addr.add, ↓reduceIte] at hx187_2); (try simp only [show (1 : Int).toNat = 1 from rfl, Nat.reduceMul, Nat.reduceEqDiff, Go.Addr.add, ↓reduceIte] at hx187_3); (try simp only [show (1 : Int).toNat = 1 from rfl, Nat.reduceMul, Nat.reduceEqDiff, Go.Addr.add, ↓reduceIte] at hx187_4); (try simp only [show (1 : Int).toNat = 1 from rfl, Nat.reduceMul, Nat.reduceEqDiff, Go.Addr.add, ↓reduceIte] at hx187_5); (try simp only [show (1 : Int).toNat = 1 from rfl, Nat.reduceMul, Nat.reduceEqDiff, Go.Addr.add, ↓reduceIte] at hx187_6); (try simp only [show (1 : Int).toNat = 1 from rfl, Nat.reduceMul, Nat.reduceEqDiff, Go.Addr.add, ↓reduceIte] at hx187_7); (try simp only [show (1 : Int).toNat = 1 from rfl, Nat.reduceMul, Nat.reduceEqDiff, Go.Addr.add, ↓reduceIte] at hx187_8); (try simp only [show (1 : Int).toNat = 1 from rfl, Nat.reduceMul, Nat.reduceEqDiff, Go.Addr.add, ↓reduceIte] at hx187_9); (try simp only [show (1 : Int).toNat = 1 from rfl, Nat.reduceMul, Nat.reduceEqDiff, Go.Addr.add, ↓reduceIte] at hx187_10); have qi187 : (1 < t181.length) = True := eq_true (by omega); (try rw [show ((1 : Int)).toNat = 1 from rfl] at hx187_0); (try rw [show 1 * 11 = 11 from rfl] at hx187_0); (try rw [show ((1 : Int)).toNat = 1 from rfl] at hx187_1); (try rw [show 1 * 11 = 11 from rfl] at hx187_1); (try rw [show ((1 : Int)).toNat = 1 from rfl] at hx187_2); (try rw [show 1 * 11 = 11 from rfl] at hx187_2); (try rw [show ((1 : Int)).toNat = 1 from rfl] at hx187_3); (try rw [show 1 * 11 = 11 from rfl] at hx187_3); (try rw [show ((1 : Int)).toNat = 1 from rfl] at hx187_4); (try rw [show 1 * 11 = 11 from rfl] at hx187_4); (try rw [show ((1 : Int)).toNat = 1 from rfl] at hx187_5); (try rw [show 1 * 11 = 11 from rfl] at hx187_5); (try rw [show ((1 : Int)).toNat = 1 from rfl] at hx187_6); (try rw [show 1 * 11 = 11 from rfl] at hx187_6); (try rw [show ((1 : Int)).toNat = 1 from rfl] at hx187_7); (try rw [show 1 * 11 = 11 from rfl] at hx187_7); (try rw [show ((1 : Int)).toNat = 1 from rfl] at hx187_8); (try rw [show 1 * 11 = 11 from rfl] at hx187_8); (try rw [show ((1 : Int)).toNat = 1 from rfl] at hx187_9); (try rw [show 1 * 11 = 11 from rfl] at hx187_9); (try rw [show ((1 : Int)).toNat = 1 from rfl] at hx187_10); (try rw [show 1 * 11 = 11 from rfl] at hx187_10); replace p187 := eq_true p187; replace q187 := eq_true q187; have p188 : 0 ≤ (2 : Int) := (by omega); have q188 : 2 < (t181.length : Int) := of_decide_eq_true (by first | (with_reducible assumption) | assumption); obtain ⟨ad188, e188, hx188_0, hx188_1, hx188_2, hx188_3, hx188_4, hx188_5, hx188_6, hx188_7, hx188_8, hx188_9, hx188_10⟩ := at_T39 (Kd.R_reads' HO183.out).2.2 2 p188 q188; obtain rfl : ad186 = ad188 := (by injection e188); (try simp only [show (2 : Int).toNat = 2 from rfl, Nat.reduceMul, Nat.reduceEqDiff, Go.Addr.add, ↓reduceIte] at hx188_0); (try simp only [show (2 : Int).toNat = 2 from rfl, Nat.reduceMul, Nat.reduceEqDiff, Go.Addr.add, ↓reduceIte] at hx188_1); (try simp only [show (2 : Int).toNat = 2 from rfl, Nat.reduceMul, Nat.reduceEqDiff, Go.Addr.add, ↓reduceIte] at hx188_2); (try simp only [show (2 : Int).toNat = 2 from rfl, Nat.reduceMul, Nat.reduceEqDiff, Go.Addr.add, ↓reduceIte] at hx188_3); (try simp only [show (2 : Int).toNat = 2 from rfl, Nat.reduceMul, Nat.reduceEqDiff, Go.Addr.add, ↓reduceIte] at hx188_4); (try simp only [show (2 : Int).toNat = 2 from rfl, Nat.reduceMul, Nat.reduceEqDiff, Go.Addr.add, ↓reduceIte] at hx188_5); (try simp only [show (2 : Int).toNat = 2 from rfl, Nat.reduceMul, Nat.reduceEqDiff, Go.Addr.add, ↓reduceIte] at hx188_6); (try simp only [show (2 : Int).toNat = 2 from rfl, Nat.reduceMul, Nat.reduceEqDiff, Go.Addr.add, ↓reduceIte] at hx188_7); (try simp only [show (2 : Int).toNat = 2 from rfl, Nat.reduceMul, Nat.reduceEqDiff, Go.Addr.add, ↓reduceIte] at hx188_8); (try simp only [show (2 : Int).toNat = 2 from rfl, Nat.reduceMul, Nat.reduceEqDiff, Go.Addr.add, ↓reduceIte] at hx188_9); (try simp only [show (2 : Int).toNat = 2 from rfl, Nat.reduceMul, Nat.reduceEqDiff, Go.Addr.add, ↓reduceIte] at hx188_10); have qi188 : (2 < t181.length) = True := eq_true (by omega); (try rw [show ((2 : Int)).toNat = 2 from rfl] at hx188_0); (try rw [show 2 * 11 = 22 from rfl] at hx188_0); (try rw [show ((2 : Int)).toNat = 2 from rfl] at hx188_1); (try rw [show 2 * 11 = 22 from rfl] at hx188_1); (try rw [show ((2 : Int)).toNat = 2 from rfl] at hx188_2); (try rw [show 2 * 11 = 22 from rfl] at hx188_2); (try rw [show ((2 : Int)).toNat = 2 from rfl] at hx188_3); (try rw [show 2 * 11 = 22 from rfl] at hx188_3); (try rw [show ((2 : Int)).toNat = 2 from rfl] at hx188_4); (try rw [show 2 * 11 = 22 from rfl] at hx188_4); (try rw [show ((2 : Int)).toNat = 2 from rfl] at hx188_5); (try rw [show 2 * 11 = 22 from rfl] at hx188_5); (try rw [show ((2 : Int)).toNat = 2 from rfl] at hx188_6); (try rw [show 2 * 11 = 22 from rfl] at hx188_6); (try rw [show ((2 : Int)).toNat = 2 from rfl] at hx188_7); (try rw [show 2 * 11 = 22 from rfl] at hx188_7); (try rw [show ((2 : Int)).toNat = 2 from rfl] at hx188_8); (try rw [show 2 * 11 = 22 from rfl] at hx188_8); (try rw [show ((2 : Int)).toNat = 2 from rfl] at hx188_9); (try rw [show 2 * 11 = 22 from rfl] at hx188_9); (try rw [show ((2 : Int)).toNat = 2 from rfl] at hx188_10); (try rw [show 2 * 11 = 22 from rfl] at hx188_10); replace p188 := eq_true p188; replace q188 := eq_true q188; have p189 : 0 ≤ (0 : Int) := (by omega); have q189 : 0 < (t181.length : Int) := of_decide_eq_true (by first | (with_reducible assumption) | assumption); obtain ⟨ad189, e189, hx189_0, hx189_1, hx189_2, hx189_3, hx189_4, hx189_5, hx189_6, hx189_7, hx189_8, hx189_9, hx189_10⟩ := at_T39 (Kd.R_reads' HO183.out).2.2 0 p189 q189; obtain rfl : ad186 = ad189 := (by injection e189); have qi189 : (0 < t181.length) = True := eq_true (by omega); (try rw [show ((0 : Int)).toNat = 0 from rfl] at hx189_0); (try rw [show 0 * 11 = 0 from rfl] at hx189_0); (try rw [Addr.add_zero'] at hx189_0); (try rw [show ((0 : Int)).toNat = 0 from rfl] at hx189_1); (try rw [show 0 * 11 = 0 from rfl] at hx189_1); (try rw [Addr.add_zero'] at hx189_1); (try rw [show ((0 : Int)).toNat = 0 from rfl] at hx189_2); (try rw [show 0 * 11 = 0 from rfl] at hx189_2); (try rw [Addr.add_zero'] at hx189_2); (try rw [show ((0 : Int)).toNat = 0 from rfl] at hx189_3); (try rw [show 0 * 11 = 0 from rfl] at hx189_3); (try rw [Addr.add_zero'] at hx189_3); (try rw [show ((0 : Int)).toNat = 0 from rfl] at hx189_4); (try rw [show 0 * 11 = 0 from rfl] at hx189_4); (try rw [Addr.add_zero'] at hx189_4); (try rw [show ((0 : Int)).toNat = 0 from rfl] at hx189_5); (try rw [show 0 * 11 = 0 from rfl] at hx189_5); (try rw [Addr.add_zero'] at hx189_5); (try rw [show ((0 : Int)).toNat = 0 from rfl] at hx189_6); (try rw [show 0 * 11 = 0 from rfl] at hx189_6); (try rw [Addr.add_zero'] at hx189_6); (try rw [show ((0 : Int)).toNat = 0 from rfl] at hx189_7); (try rw [show 0 * 11 = 0 from rfl] at hx189_7); (try rw [Addr.add_zero'] at hx189_7); (try rw [show ((0 : Int)).toNat = 0 from rfl] at hx189_8); (try rw [show 0 * 11 = 0 from rfl] at hx189_8); (try rw [Addr.add_zero'] at hx189_8); (try rw [show ((0 : Int)).toNat = 0 from rfl] at hx189_9); (try rw [show 0 * 11 = 0 from rfl] at hx189_9); (try rw [Addr.add_zero'] at hx189_9); (try rw [show ((0 : Int)).toNat = 0 from rfl] at hx189_10); (try rw [show 0 * 11 = 0 from rfl] at hx189_10); (try rw [Addr.add_zero'] at hx189_10); replace p189 := eq_true p189; replace q189 := eq_true q189))
                              go_ret
                              exact ⟨by first | rfl | (simp [errW_none, errW_some] <;> rfl) | (simp [*, errW_none, errW_some] <;> rfl), by repeat (first | (with_reducible first | exact HB.out | apply below_alloc | apply pw_below_drewN | apply below_drew1) | exact HB.out)⟩
                            · rw [if_neg c19] at H
                              exact absurd H (by simp)
                          · rw [if_neg c18] at H
                            have c18b0 : (((rd_T39 t181 2).f2.f0.f0) == 2) = false := beq_eq_false_iff_ne.mpr c18
                            have c18b1 : (((rd_T39 t181 2).f2.f0.f0) != 2) = true := bne_iff_ne.mpr c18
                            exact absurd ((Option.some.inj H).trans hR_) (by decide)
                        · rw [if_neg c17] at H
                          exact absurd H (by simp)
                      · rw [if_neg c16] at H
                        have c16b0 : (((rd_T39 t181 1).f2.f0.f1) == 3) = false := beq_eq_false_iff_ne.mpr c16
                        have c16b1 : (((rd_T39 t181 1).f2.f0.f1) != 3) = true := bne_iff_ne.mpr c16
                        exact absurd ((Option.some.inj H).trans hR_) (by decide)
                    · rw [if_neg c15] at H
                      have c15b0 : (((rd_T39 t181 1).f1.f0) == 0 && (((rd_T39 t181 1).f1.f1) == 10)) = false := by simpa using c15
                      (try (have c15b1 : decide (((rd_T39 t181 1).f1.f0) = 0 && (((rd_T39 t181 1).f1.f1) == 10)) = false := by simpa using c15))
                      (try (have c15b2 : (((rd_T39 t181 1).f1.f0) == 0 && (((rd_T39 t181 1).f1.f1) == 10)) = false := by simpa using c15))
                      (try (have c15b3 : ¬ (((rd_T39 t181 1).f1.f0) = 0 && (((rd_T39 t181 1).f1.f1) == 10)) := by simpa using c15))
                      clear c15
                      exact absurd ((Option.some.inj H).trans hR_) (by decide)
                  · rw [if_neg c14] at H
                    exact absurd H (by simp)
                · rw [if_neg c13] at H
                  have c13b0 : ((t181.length : Int) == 4) = false := beq_eq_false_iff_ne.mpr c13
                  have c13b1 : ((t181.length : Int) != 4) = true := bne_iff_ne.mpr c13
                  exact absurd ((Option.some.inj H).trans hR_) (by decide)
              · rw [if_neg c12] at H
                have c12b0 : (t184 == 0) = false := beq_eq_false_iff_ne.mpr c12
                have c12b1 : (t184 != 0) = true := bne_iff_ne.mpr c12
                exact absurd ((Option.some.inj H).trans hR_) (by decide)
          · rw [if_neg c10] at H
            exact absurd H (by simp)
        · rw [if_neg c9] at H
          have c9b0 : ((t171.length : Int) == 5) = false := beq_eq_false_iff_ne.mpr c9
          have c9b1 : ((t171.length : Int) != 5) = true := bne_iff_ne.mpr c9
          exact absurd ((Option.some.inj H).trans hR_) (by decide)
      · rw [if_neg c8] at H
        have c8b0 : (t174 == 0) = false := beq_eq_false_iff_ne.mpr c8
        have c8b1 : (t174 != 0) = true := bne_iff_ne.mpr c8
        exact absurd ((Option.some.inj H).trans hR_) (by decide)
    · rw [if_neg c7] at H
      have c7b0 : (t166 == 2) = false := beq_eq_false_iff_ne.mpr c7
      have c7b1 : (t166 != 2) = true := bne_iff_ne.mpr c7
      exact absurd ((Option.some.inj H).trans hR_) (by decide)
  · rw [if_neg c6] at H
    have c6b0 : (t167 == 0) = false := beq_eq_false_iff_ne.mpr c6
    have c6b1 : (t167 != 0) = true := bne_iff_ne.mpr c6
    exact absurd ((Option.some.inj H).trans hR_) (by decide)

theorem tailwaterlaw19_alive.yes : tailwaterlaw19_alive.f 40 = some true := by kernel_rfl
theorem tailwaterlaw19_alive.calls (k : Nat) (r : Bool) (w : World) (h : tailwaterlaw19_alive.f k = some r) : Calls Try.prog 30 #[] w fun e w' => e = .returned (.bool r) ∧ Below w.heap.size w w' := by
  have hr : r = true := by
    have h1 := at_rounds tailwaterlaw19_alive.mono (Nat.le_max_left k 40) h
    have h2 := at_rounds tailwaterlaw19_alive.mono (Nat.le_max_right k 40) tailwaterlaw19_alive.yes
    exact Option.some.inj (h1.symm.trans h2)
  exact tailwaterlaw19_alive.calls_ k r w h hr

end Go.Proofs.Ytepgpbbeeiebkaa.St
