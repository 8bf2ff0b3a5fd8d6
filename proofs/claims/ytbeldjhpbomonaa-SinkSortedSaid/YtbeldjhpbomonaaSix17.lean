/- Contracts of functions of the program, each over a plain Lean function of the same answers: written by pdrive.py, a program of this session that drives the kit's printer with some functions given by hand; conditions: as each theorem says. -/
import Derived.Test.YtbeldjhpbomonaaSix0
import Derived.Test.YtbeldjhpbomonaaSix3
namespace Go.Proofs.Ytbeldjhpbomonaa.Si
open Go.RowKit Go.Proofs.YtbeldjhpbomonaaW.PrintWords Go.Proofs.YtbeldjhpbomonaaW.PrintLast Go.Proofs.YtbeldjhpbomonaaW.PrintMore
attribute [local go_sem] max2_int min2_int max_two min_two max_three min_three max_four min_four   -- for this text's walks alone
set_option linter.unusedVariables false
set_option linter.unusedSimpArgs false

attribute [local go_sem high] eqA38
/-! ### tailwaterlaw34_often: function 27 -/
def tailwaterlaw34_often.l0 : Nat → List (S38) → Int → Int → Int → Int → Int → Int → Int → Option (Int)
  | 0, _, _, _, _, _, _, _, _ => none
  | k + 1, x0, x5, x6, x339000, x339001, x339002, x339003, x339004 => if x6 < (x0.length : Int) then (if 0 ≤ x6 then (if (((rd_T38 x0 x6).f0) == x339000 && ((((rd_T38 x0 x6).f1.f0) == x339001 && (((rd_T38 x0 x6).f1.f1) == x339002)) && ((((rd_T38 x0 x6).f2.f0) == x339003 && (((rd_T38 x0 x6).f2.f1) == x339004))))) = true then (tailwaterlaw34_often.l0 k x0 (wrap64 (x5 + 1)) (wrap64 (x6 + 1)) x339000 x339001 x339002 x339003 x339004) else (tailwaterlaw34_often.l0 k x0 x5 (wrap64 (x6 + 1)) x339000 x339001 x339002 x339003 x339004)) else (none)) else (some x5)
def tailwaterlaw34_often.f (k : Nat) (l0 : List (S38)) (a1_0 : Int) (a1_1 : Int) (a1_2 : Int) (a1_3 : Int) (a1_4 : Int) : Option (Int) := tailwaterlaw34_often.l0 k l0 0 0 a1_0 a1_1 a1_2 a1_3 a1_4
theorem tailwaterlaw34_often.mono_l : ∀ k, (∀ y0 y1 y2 y3 y4 y5 y6 y7, LeO (tailwaterlaw34_often.l0 k y0 y1 y2 y3 y4 y5 y6 y7) (tailwaterlaw34_often.l0 (k + 1) y0 y1 y2 y3 y4 y5 y6 y7))
  | 0 => fun _ _ _ _ _ _ _ _ r h => by simp [tailwaterlaw34_often.l0] at h
  | k + 1 => by
    have ih0 := tailwaterlaw34_often.mono_l k
    · intro y0 y1 y2 y3 y4 y5 y6 y7
      unfold tailwaterlaw34_often.l0
      repeat' first
      | (with_reducible exact ih0 _ _ _ _ _ _ _ _)
      | (with_reducible exact LeO.refl _)
      | (with_reducible exact LeO.none _)
      | (with_reducible refine LeO.ite ?_ ?_)
      | (with_reducible refine LeO.bind ?_ (fun _ => ?_))
      | exact ih0 _ _ _ _ _ _ _ _
      | exact LeO.none _
      | refine LeO.ite ?_ ?_
      | refine LeO.bind ?_ (fun _ => ?_)
theorem tailwaterlaw34_often.mono : ∀ a0 a1 a2 a3 a4 a5 k, LeO (tailwaterlaw34_often.f k a0 a1 a2 a3 a4 a5) (tailwaterlaw34_often.f (k + 1) a0 a1 a2 a3 a4 a5) := by
  intro a0 a1 a2 a3 a4 a5 k
  have ih0 := tailwaterlaw34_often.mono_l k
  unfold tailwaterlaw34_often.f
  repeat' first
      | (with_reducible exact ih0 _ _ _ _ _ _ _ _)
      | (with_reducible exact LeO.refl _)
      | (with_reducible exact LeO.none _)
      | (with_reducible refine LeO.ite ?_ ?_)
      | (with_reducible refine LeO.bind ?_ (fun _ => ?_))
      | exact ih0 _ _ _ _ _ _ _ _
      | exact LeO.none _
      | refine LeO.ite ?_ ?_
      | refine LeO.bind ?_ (fun _ => ?_)
set_option maxHeartbeats 8000000 in
set_option maxRecDepth 100000 in
theorem tailwaterlaw34_often.calls (k : Nat) (A0 : Option Addr) (c0 : Nat) (l0 : List (S38)) (a1_0 : Int) (a1_1 : Int) (a1_2 : Int) (a1_3 : Int) (a1_4 : Int) (r : Int) (w : World) (hr0 : Kd.C k38 w A0 l0.length l0) (hc0 : l0.length ≤ c0) (h : tailwaterlaw34_often.f k l0 a1_0 a1_1 a1_2 a1_3 a1_4 = some r) :
    Calls Try.prog 27 #[.slice A0 l0.length c0, .agg #[.int .i64 a1_0, .int .i64 a1_1, .int .i64 a1_2, .int .i64 a1_3, .int .i64 a1_4]] w fun e w' => e = .returned (.int .i64 r) ∧ Below w.heap.size w w' := by
  have hu38 := Try.underlying38
  have HR0 := Aside0.mk hr0
  have HC0 := Aside0.mk hc0
  clear hr0 hc0
  have HB := Aside0.mk (Below.refl w.heap.size w)
  have H : (tailwaterlaw34_often.l0 k l0 0 0 a1_0 a1_1 a1_2 a1_3 a1_4) = some r := h
  clear h
  have H' := Aside0.mk H
  clear H
  go_enter Try.func27, Try.ntmps27
  go_wp2_with (first | ((with_reducible refine gate_dst (N := 3) rfl ?_); refine box_event ?hg (N := 3) ?hd (cs := #[.int .i64 a1_0, .int .i64 a1_1, .int .i64 a1_2, .int .i64 a1_3, .int .i64 a1_4]) (t := 38) ?hr ?_; (case hd => rfl); (case hg => rfl); (case hr => first | (go_simp; done) | (go_simp; rfl)); intro gb338 hg w3 hbox hb; have n0_ := Aside0.mk (below_step (by repeat (first | (with_reducible first | exact HB.out | apply below_alloc | apply pw_below_drewN | apply below_drew1) | exact HB.out)) hb); have n1_ := Aside0.mk (hbox); have n2_ := Aside0.mk ((by rw [hg]; exact (below_size (by repeat (first | (with_reducible first | exact HB.out | apply below_alloc | apply pw_below_drewN | apply below_drew1) | exact HB.out))) : w.heap.size ≤ gb338)); clear HB; have HB := n0_; have BK338 := n1_; have GE338 := n2_; clear n0_ n1_ n2_; clear hb hbox hg))
  repeat (go_quiet (first | ((with_reducible refine gate_dst (N := 3) rfl ?_); refine box_event ?hg (N := 3) ?hd (cs := #[.int .i64 a1_0, .int .i64 a1_1, .int .i64 a1_2, .int .i64 a1_3, .int .i64 a1_4]) (t := 38) ?hr ?_; (case hd => rfl); (case hg => rfl); (case hr => first | (go_simp; done) | (go_simp; rfl)); intro gb338 hg w3 hbox hb; have n0_ := Aside0.mk (below_step (by repeat (first | (with_reducible first | exact HB.out | apply below_alloc | apply pw_below_drewN | apply below_drew1) | exact HB.out)) hb); have n1_ := Aside0.mk (hbox); have n2_ := Aside0.mk ((by rw [hg]; exact (below_size (by repeat (first | (with_reducible first | exact HB.out | apply below_alloc | apply pw_below_drewN | apply below_drew1) | exact HB.out))) : w.heap.size ≤ gb338)); clear HB; have HB := n0_; have BK338 := n1_; have GE338 := n2_; clear n0_ n1_ n2_; clear hb hbox hg)); try go_wp2_with (first | ((with_reducible refine gate_dst (N := 3) rfl ?_); refine box_event ?hg (N := 3) ?hd (cs := #[.int .i64 a1_0, .int .i64 a1_1, .int .i64 a1_2, .int .i64 a1_3, .int .i64 a1_4]) (t := 38) ?hr ?_; (case hd => rfl); (case hg => rfl); (case hr => first | (go_simp; done) | (go_simp; rfl)); intro gb338 hg w3 hbox hb; have n0_ := Aside0.mk (below_step (by repeat (first | (with_reducible first | exact HB.out | apply below_alloc | apply pw_below_drewN | apply below_drew1) | exact HB.out)) hb); have n1_ := Aside0.mk (hbox); have n2_ := Aside0.mk ((by rw [hg]; exact (below_size (by repeat (first | (with_reducible first | exact HB.out | apply below_alloc | apply pw_below_drewN | apply below_drew1) | exact HB.out))) : w.heap.size ≤ gb338)); clear HB; have HB := n0_; have BK338 := n1_; have GE338 := n2_; clear n0_ n1_ n2_; clear hb hbox hg)))
  go_loopg [5, 6] k (fun kq v5 v6 w' => ∃ (x5_1 : Int) (x6_1 : Int), v5 = .int .i64 x5_1 ∧ v6 = .int .i64 x6_1 ∧ Aside0 (tailwaterlaw34_often.l0 kq l0 x5_1 x6_1 a1_0 a1_1 a1_2 a1_3 a1_4 = some r) ∧ Aside0 (kq ≤ k) ∧ Aside0 (w'.heap[gb338]? = some (.cells #[.int .i64 a1_0, .int .i64 a1_1, .int .i64 a1_2, .int .i64 a1_3, .int .i64 a1_4] 38 (0, 0))) ∧ Aside0 (Below w.heap.size w w'))
  case atStart => exact ⟨(0), (0), (by first | rfl | (simp; done) | (simp [*]; done)), (by first | rfl | (simp; done) | (simp [*]; done)), H', ⟨Nat.le_refl _⟩, ⟨by (with_reducible repeat (first | refine blk_drewN ?_ _ | refine blk_drew ?_ | refine blk_alloc ?_ _)); exact BK338.out⟩, ⟨by repeat (first | (with_reducible first | exact HB.out | apply below_alloc | apply pw_below_drewN | apply below_drew1 | refine below_set ?_ GE338.out) | exact HB.out)⟩⟩
  case round =>
    clear H'
    try clear c2
    try clear p2
    obtain ⟨x5_1, x6_1, rfl, rfl, HA, HK1, BK338, HB⟩ := hrel
    cases gk with
    | zero => exact absurd HA.out (by simp [tailwaterlaw34_often.l0])
    | succ k1 =>
      have H := HA.out
      clear HA
      simp only [tailwaterlaw34_often.l0] at H
      by_cases c4 : x6_1 < (l0.length : Int)
      · rw [if_pos c4] at H
        have c4b0 : decide (x6_1 < (l0.length : Int)) = true := decide_eq_true c4
        clear c4
        by_cases c5 : 0 ≤ x6_1
        · rw [if_pos c5] at H
          have c5b0 : decide (0 ≤ x6_1) = true := decide_eq_true c5
          clear c5
          by_cases c6 : (((rd_T38 l0 x6_1).f0) == a1_0 && ((((rd_T38 l0 x6_1).f1.f0) == a1_1 && (((rd_T38 l0 x6_1).f1.f1) == a1_2)) && ((((rd_T38 l0 x6_1).f2.f0) == a1_3 && (((rd_T38 l0 x6_1).f2.f1) == a1_4))))) = true
          · rw [if_pos c6] at H
            have c6b0 : (((rd_T38 l0 x6_1).f0) == a1_0 && ((((rd_T38 l0 x6_1).f1.f0) == a1_1 && (((rd_T38 l0 x6_1).f1.f1) == a1_2)) && ((((rd_T38 l0 x6_1).f2.f0) == a1_3 && (((rd_T38 l0 x6_1).f2.f1) == a1_4))))) = true := c6
            (try (have c6b1 : decide (((rd_T38 l0 x6_1).f0) = a1_0 && ((((rd_T38 l0 x6_1).f1.f0) == a1_1 && (((rd_T38 l0 x6_1).f1.f1) == a1_2)) && ((((rd_T38 l0 x6_1).f2.f0) == a1_3 && (((rd_T38 l0 x6_1).f2.f1) == a1_4))))) = true := by simpa using c6))
            (try (have c6b2 : (((rd_T38 l0 x6_1).f0) == a1_0 && ((((rd_T38 l0 x6_1).f1.f0) == a1_1 && (((rd_T38 l0 x6_1).f1.f1) == a1_2)) && ((((rd_T38 l0 x6_1).f2.f0) == a1_3 && (((rd_T38 l0 x6_1).f2.f1) == a1_4))))) = true := by simpa using c6))
            clear c6
            have H' := Aside0.mk H
            clear H
            have p339 : 0 ≤ (x6_1 : Int) := of_decide_eq_true (by first | (with_reducible assumption) | assumption)
            have q339 : x6_1 < (l0.length : Int) := of_decide_eq_true (by first | (with_reducible assumption) | assumption)
            obtain ⟨ad339, e339, hx339_0, hx339_1, hx339_2, hx339_3, hx339_4⟩ := at_T38 HR0.out x6_1 p339 q339
            cases e339
            replace hx339_0 := (HB.out.cell (World.block_lt_of_cell? w _ hx339_0)).trans hx339_0
            replace hx339_1 := (HB.out.cell (World.block_lt_of_cell? w _ hx339_1)).trans hx339_1
            replace hx339_2 := (HB.out.cell (World.block_lt_of_cell? w _ hx339_2)).trans hx339_2
            replace hx339_3 := (HB.out.cell (World.block_lt_of_cell? w _ hx339_3)).trans hx339_3
            replace hx339_4 := (HB.out.cell (World.block_lt_of_cell? w _ hx339_4)).trans hx339_4
            replace p339 := eq_true p339
            replace q339 := eq_true q339
            have hcz7_0 : wr.cell? ⟨gb338, 0, none⟩ = some (.int .i64 a1_0) := (blk_cell BK338.out 0).trans rfl
            have hcz7_1 : wr.cell? ⟨gb338, 1, none⟩ = some (.int .i64 a1_1) := (blk_cell BK338.out 1).trans rfl
            have hcz7_2 : wr.cell? ⟨gb338, 2, none⟩ = some (.int .i64 a1_2) := (blk_cell BK338.out 2).trans rfl
            have hcz7_3 : wr.cell? ⟨gb338, 3, none⟩ = some (.int .i64 a1_3) := (blk_cell BK338.out 3).trans rfl
            have hcz7_4 : wr.cell? ⟨gb338, 4, none⟩ = some (.int .i64 a1_4) := (blk_cell BK338.out 4).trans rfl
            have hfz7_0 := blk_frozen BK338.out 0
            have hfz7_1 := blk_frozen BK338.out 1
            have hfz7_2 := blk_frozen BK338.out 2
            have hfz7_3 := blk_frozen BK338.out 3
            have hfz7_4 := blk_frozen BK338.out 4
            go_wp2
            repeat (go_quiet (fail); try go_wp2)
            go_roundg k1
            case measure => have := HK1.out; omega
            case rel => exact ⟨(wrap64 (x5_1 + 1)), (wrap64 (x6_1 + 1)), (by first | rfl | (simp; done) | (simp [*]; done)), (by first | rfl | (simp; done) | (simp [*]; done)), H', ⟨by have := HK1.out; omega⟩, ⟨by (with_reducible repeat (first | refine blk_drewN ?_ _ | refine blk_drew ?_ | refine blk_alloc ?_ _)); exact BK338.out⟩, ⟨by repeat (first | (with_reducible first | exact HB.out | apply below_alloc | apply pw_below_drewN | apply below_drew1 | refine below_set ?_ GE338.out) | exact HB.out)⟩⟩
          · rw [if_neg c6] at H
            have c6b0 : (((rd_T38 l0 x6_1).f0) == a1_0 && ((((rd_T38 l0 x6_1).f1.f0) == a1_1 && (((rd_T38 l0 x6_1).f1.f1) == a1_2)) && ((((rd_T38 l0 x6_1).f2.f0) == a1_3 && (((rd_T38 l0 x6_1).f2.f1) == a1_4))))) = false := by simpa using c6
            (try (have c6b1 : decide (((rd_T38 l0 x6_1).f0) = a1_0 && ((((rd_T38 l0 x6_1).f1.f0) == a1_1 && (((rd_T38 l0 x6_1).f1.f1) == a1_2)) && ((((rd_T38 l0 x6_1).f2.f0) == a1_3 && (((rd_T38 l0 x6_1).f2.f1) == a1_4))))) = false := by simpa using c6))
            (try (have c6b2 : (((rd_T38 l0 x6_1).f0) == a1_0 && ((((rd_T38 l0 x6_1).f1.f0) == a1_1 && (((rd_T38 l0 x6_1).f1.f1) == a1_2)) && ((((rd_T38 l0 x6_1).f2.f0) == a1_3 && (((rd_T38 l0 x6_1).f2.f1) == a1_4))))) = false := by simpa using c6))
            (try (have c6b3 : ¬ (((rd_T38 l0 x6_1).f0) = a1_0 && ((((rd_T38 l0 x6_1).f1.f0) == a1_1 && (((rd_T38 l0 x6_1).f1.f1) == a1_2)) && ((((rd_T38 l0 x6_1).f2.f0) == a1_3 && (((rd_T38 l0 x6_1).f2.f1) == a1_4))))) := by simpa using c6))
            clear c6
            have H' := Aside0.mk H
            clear H
            have p339 : 0 ≤ (x6_1 : Int) := of_decide_eq_true (by first | (with_reducible assumption) | assumption)
            have q339 : x6_1 < (l0.length : Int) := of_decide_eq_true (by first | (with_reducible assumption) | assumption)
            obtain ⟨ad339, e339, hx339_0, hx339_1, hx339_2, hx339_3, hx339_4⟩ := at_T38 HR0.out x6_1 p339 q339
            cases e339
            replace hx339_0 := (HB.out.cell (World.block_lt_of_cell? w _ hx339_0)).trans hx339_0
            replace hx339_1 := (HB.out.cell (World.block_lt_of_cell? w _ hx339_1)).trans hx339_1
            replace hx339_2 := (HB.out.cell (World.block_lt_of_cell? w _ hx339_2)).trans hx339_2
            replace hx339_3 := (HB.out.cell (World.block_lt_of_cell? w _ hx339_3)).trans hx339_3
            replace hx339_4 := (HB.out.cell (World.block_lt_of_cell? w _ hx339_4)).trans hx339_4
            replace p339 := eq_true p339
            replace q339 := eq_true q339
            have hcz8_0 : wr.cell? ⟨gb338, 0, none⟩ = some (.int .i64 a1_0) := (blk_cell BK338.out 0).trans rfl
            have hcz8_1 : wr.cell? ⟨gb338, 1, none⟩ = some (.int .i64 a1_1) := (blk_cell BK338.out 1).trans rfl
            have hcz8_2 : wr.cell? ⟨gb338, 2, none⟩ = some (.int .i64 a1_2) := (blk_cell BK338.out 2).trans rfl
            have hcz8_3 : wr.cell? ⟨gb338, 3, none⟩ = some (.int .i64 a1_3) := (blk_cell BK338.out 3).trans rfl
            have hcz8_4 : wr.cell? ⟨gb338, 4, none⟩ = some (.int .i64 a1_4) := (blk_cell BK338.out 4).trans rfl
            have hfz8_0 := blk_frozen BK338.out 0
            have hfz8_1 := blk_frozen BK338.out 1
            have hfz8_2 := blk_frozen BK338.out 2
            have hfz8_3 := blk_frozen BK338.out 3
            have hfz8_4 := blk_frozen BK338.out 4
            go_wp2
            repeat (go_quiet (fail); try go_wp2)
            go_roundg k1
            case measure => have := HK1.out; omega
            case rel => exact ⟨(x5_1), (wrap64 (x6_1 + 1)), (by first | rfl | (simp; done) | (simp [*]; done)), (by first | rfl | (simp; done) | (simp [*]; done)), H', ⟨by have := HK1.out; omega⟩, ⟨by (with_reducible repeat (first | refine blk_drewN ?_ _ | refine blk_drew ?_ | refine blk_alloc ?_ _)); exact BK338.out⟩, ⟨by repeat (first | (with_reducible first | exact HB.out | apply below_alloc | apply pw_below_drewN | apply below_drew1 | refine below_set ?_ GE338.out) | exact HB.out)⟩⟩
        · rw [if_neg c5] at H
          exact absurd H (by simp)
      · rw [if_neg c4] at H
        have c4b0 : decide (x6_1 < (l0.length : Int)) = false := decide_eq_false c4
        clear c4
        obtain rfl := Option.some.inj H
        go_wp2
        repeat (go_quiet (fail); try go_wp2)
        go_ret
        exact ⟨by first | rfl | (simp [errW_none, errW_some] <;> rfl) | (simp [*, errW_none, errW_some] <;> rfl), by repeat (first | (with_reducible first | exact HB.out | apply below_alloc | apply pw_below_drewN | apply below_drew1 | refine below_set ?_ GE338.out) | exact HB.out)⟩

end Go.Proofs.Ytbeldjhpbomonaa.Si
