/- accums.Check: what it hands back, in plain words; no condition. -/
import Derived.Test.YtepgpbbeeiebkaaStx0
import Derived.Test.YtepgpbbeeiebkaaStx2
namespace Go.Proofs.Ytepgpbbeeiebkaa.St
open Go.RowKit Go.Proofs.YtepgpbbeeiebkaaW.PrintWords Go.Proofs.YtepgpbbeeiebkaaW.PrintLast Go.Proofs.YtepgpbbeeiebkaaW.PrintMore
set_option linter.unusedVariables false
set_option linter.unusedSimpArgs false
attribute [local go_sem high] eqA36
/-- Is an accumulator right? -/
def okA (c s lo hi : Int) : Bool := if c = 0 then s == 0 && (lo == 0 && hi == 0) else if c = 1 then s == lo && s == hi else decide (1 < c) && (decide (c ≤ 1073741824) && decide (lo ≤ hi))
def accums_Check.f (a b c d : Int) : Option Int := some (if okA a b c d = true then 0 else 8)
set_option maxHeartbeats 8000000 in
set_option maxRecDepth 100000 in
theorem accums_Check.calls (a0_0 a0_1 a0_2 a0_3 r : Int) (w : World) (h : accums_Check.f a0_0 a0_1 a0_2 a0_3 = some r) :
    Calls Try.prog 76 #[.agg #[.int .i64 a0_0, .int .i64 a0_1, .int .i64 a0_2, .int .i64 a0_3]] w fun e w' => e = .returned (.int .i64 r) ∧ Below w.heap.size w w' := by
  have hu := Try.underlying36
  have HB := Aside0.mk (Below.refl w.heap.size w)
  obtain rfl := Option.some.inj h
  clear h
  unfold okA
  by_cases e0 : a0_0 = 0
  · have e0b : (a0_0 == 0) = true := beq_iff_eq.mpr e0
    have e0n : (a0_0 != 0) = false := bne_eq_false_iff_eq.mpr e0
    by_cases e1 : a0_1 = 0
    · have e1b : (a0_1 == 0) = true := beq_iff_eq.mpr e1
      have e1n : (a0_1 != 0) = false := bne_eq_false_iff_eq.mpr e1
      by_cases e2 : a0_2 = 0
      · have e2b : (a0_2 == 0) = true := beq_iff_eq.mpr e2
        have e2n : (a0_2 != 0) = false := bne_eq_false_iff_eq.mpr e2
        by_cases e3 : a0_3 = 0
        · have e3b : (a0_3 == 0) = true := beq_iff_eq.mpr e3
          have e3n : (a0_3 != 0) = false := bne_eq_false_iff_eq.mpr e3
          rw [show (if (if a0_0 = 0 then a0_1 == 0 && (a0_2 == 0 && a0_3 == 0) else if a0_0 = 1 then a0_1 == a0_2 && a0_1 == a0_3 else decide (1 < a0_0) && (decide (a0_0 ≤ 1073741824) && decide (a0_2 ≤ a0_3))) = true then (0 : Int) else 8) = 0 from by simp [e0, e1, e2, e3]]
          clear e0 e1 e2 e3
          go_enter Try.func76, Try.ntmps76
          go_wp2_with (first | ((with_reducible refine gate_dst (N := 1) rfl ?_); refine box_event ?hg (N := 1) ?hd (cs := #[.int .i64 a0_0, .int .i64 a0_1, .int .i64 a0_2, .int .i64 a0_3]) (t := 36) ?hr ?_; (case hd => rfl); (case hg => rfl); (case hr => first | (go_simp; done) | (go_simp; rfl)); intro gb hg w4 hbox hb; have n0_ := Aside0.mk (below_step HB.out hb); have n1_ := Aside0.mk hbox; have n2_ := Aside0.mk ((by rw [hg]; exact (below_size HB.out)) : w.heap.size ≤ gb); clear HB; have HB := n0_; have BK := n1_; have GE := n2_; clear n0_ n1_ n2_ hb hbox hg; have hc0 : w4.cell? ⟨gb, 0, none⟩ = some (.int .i64 a0_0) := (blk_cell BK.out 0).trans rfl; have hf0 := blk_frozen BK.out 0; have hc1 : w4.cell? ⟨gb, 1, none⟩ = some (.int .i64 a0_1) := (blk_cell BK.out 1).trans rfl; have hf1 := blk_frozen BK.out 1; have hc2 : w4.cell? ⟨gb, 2, none⟩ = some (.int .i64 a0_2) := (blk_cell BK.out 2).trans rfl; have hf2 := blk_frozen BK.out 2; have hc3 : w4.cell? ⟨gb, 3, none⟩ = some (.int .i64 a0_3) := (blk_cell BK.out 3).trans rfl; have hf3 := blk_frozen BK.out 3))
          go_ret
          exact ⟨rfl, by repeat (first | (with_reducible first | exact HB.out | apply below_alloc | apply pw_below_drewN | apply below_drew1) | exact HB.out)⟩
        · have e3b : (a0_3 == 0) = false := beq_eq_false_iff_ne.mpr e3
          have e3n : (a0_3 != 0) = true := bne_iff_ne.mpr e3
          rw [show (if (if a0_0 = 0 then a0_1 == 0 && (a0_2 == 0 && a0_3 == 0) else if a0_0 = 1 then a0_1 == a0_2 && a0_1 == a0_3 else decide (1 < a0_0) && (decide (a0_0 ≤ 1073741824) && decide (a0_2 ≤ a0_3))) = true then (0 : Int) else 8) = 8 from by simp [e0, e1, e2, e3]]
          clear e0 e1 e2 e3
          go_enter Try.func76, Try.ntmps76
          go_wp2_with (first | ((with_reducible refine gate_dst (N := 1) rfl ?_); refine box_event ?hg (N := 1) ?hd (cs := #[.int .i64 a0_0, .int .i64 a0_1, .int .i64 a0_2, .int .i64 a0_3]) (t := 36) ?hr ?_; (case hd => rfl); (case hg => rfl); (case hr => first | (go_simp; done) | (go_simp; rfl)); intro gb hg w4 hbox hb; have n0_ := Aside0.mk (below_step HB.out hb); have n1_ := Aside0.mk hbox; have n2_ := Aside0.mk ((by rw [hg]; exact (below_size HB.out)) : w.heap.size ≤ gb); clear HB; have HB := n0_; have BK := n1_; have GE := n2_; clear n0_ n1_ n2_ hb hbox hg; have hc0 : w4.cell? ⟨gb, 0, none⟩ = some (.int .i64 a0_0) := (blk_cell BK.out 0).trans rfl; have hf0 := blk_frozen BK.out 0; have hc1 : w4.cell? ⟨gb, 1, none⟩ = some (.int .i64 a0_1) := (blk_cell BK.out 1).trans rfl; have hf1 := blk_frozen BK.out 1; have hc2 : w4.cell? ⟨gb, 2, none⟩ = some (.int .i64 a0_2) := (blk_cell BK.out 2).trans rfl; have hf2 := blk_frozen BK.out 2; have hc3 : w4.cell? ⟨gb, 3, none⟩ = some (.int .i64 a0_3) := (blk_cell BK.out 3).trans rfl; have hf3 := blk_frozen BK.out 3))
          go_ret
          exact ⟨rfl, by repeat (first | (with_reducible first | exact HB.out | apply below_alloc | apply pw_below_drewN | apply below_drew1) | exact HB.out)⟩
      · have e2b : (a0_2 == 0) = false := beq_eq_false_iff_ne.mpr e2
        have e2n : (a0_2 != 0) = true := bne_iff_ne.mpr e2
        rw [show (if (if a0_0 = 0 then a0_1 == 0 && (a0_2 == 0 && a0_3 == 0) else if a0_0 = 1 then a0_1 == a0_2 && a0_1 == a0_3 else decide (1 < a0_0) && (decide (a0_0 ≤ 1073741824) && decide (a0_2 ≤ a0_3))) = true then (0 : Int) else 8) = 8 from by simp [e0, e1, e2]]
        clear e0 e1 e2
        go_enter Try.func76, Try.ntmps76
        go_wp2_with (first | ((with_reducible refine gate_dst (N := 1) rfl ?_); refine box_event ?hg (N := 1) ?hd (cs := #[.int .i64 a0_0, .int .i64 a0_1, .int .i64 a0_2, .int .i64 a0_3]) (t := 36) ?hr ?_; (case hd => rfl); (case hg => rfl); (case hr => first | (go_simp; done) | (go_simp; rfl)); intro gb hg w4 hbox hb; have n0_ := Aside0.mk (below_step HB.out hb); have n1_ := Aside0.mk hbox; have n2_ := Aside0.mk ((by rw [hg]; exact (below_size HB.out)) : w.heap.size ≤ gb); clear HB; have HB := n0_; have BK := n1_; have GE := n2_; clear n0_ n1_ n2_ hb hbox hg; have hc0 : w4.cell? ⟨gb, 0, none⟩ = some (.int .i64 a0_0) := (blk_cell BK.out 0).trans rfl; have hf0 := blk_frozen BK.out 0; have hc1 : w4.cell? ⟨gb, 1, none⟩ = some (.int .i64 a0_1) := (blk_cell BK.out 1).trans rfl; have hf1 := blk_frozen BK.out 1; have hc2 : w4.cell? ⟨gb, 2, none⟩ = some (.int .i64 a0_2) := (blk_cell BK.out 2).trans rfl; have hf2 := blk_frozen BK.out 2; have hc3 : w4.cell? ⟨gb, 3, none⟩ = some (.int .i64 a0_3) := (blk_cell BK.out 3).trans rfl; have hf3 := blk_frozen BK.out 3))
        go_ret
        exact ⟨rfl, by repeat (first | (with_reducible first | exact HB.out | apply below_alloc | apply pw_below_drewN | apply below_drew1) | exact HB.out)⟩
    · have e1b : (a0_1 == 0) = false := beq_eq_false_iff_ne.mpr e1
      have e1n : (a0_1 != 0) = true := bne_iff_ne.mpr e1
      rw [show (if (if a0_0 = 0 then a0_1 == 0 && (a0_2 == 0 && a0_3 == 0) else if a0_0 = 1 then a0_1 == a0_2 && a0_1 == a0_3 else decide (1 < a0_0) && (decide (a0_0 ≤ 1073741824) && decide (a0_2 ≤ a0_3))) = true then (0 : Int) else 8) = 8 from by simp [e0, e1]]
      clear e0 e1
      go_enter Try.func76, Try.ntmps76
      go_wp2_with (first | ((with_reducible refine gate_dst (N := 1) rfl ?_); refine box_event ?hg (N := 1) ?hd (cs := #[.int .i64 a0_0, .int .i64 a0_1, .int .i64 a0_2, .int .i64 a0_3]) (t := 36) ?hr ?_; (case hd => rfl); (case hg => rfl); (case hr => first | (go_simp; done) | (go_simp; rfl)); intro gb hg w4 hbox hb; have n0_ := Aside0.mk (below_step HB.out hb); have n1_ := Aside0.mk hbox; have n2_ := Aside0.mk ((by rw [hg]; exact (below_size HB.out)) : w.heap.size ≤ gb); clear HB; have HB := n0_; have BK := n1_; have GE := n2_; clear n0_ n1_ n2_ hb hbox hg; have hc0 : w4.cell? ⟨gb, 0, none⟩ = some (.int .i64 a0_0) := (blk_cell BK.out 0).trans rfl; have hf0 := blk_frozen BK.out 0; have hc1 : w4.cell? ⟨gb, 1, none⟩ = some (.int .i64 a0_1) := (blk_cell BK.out 1).trans rfl; have hf1 := blk_frozen BK.out 1; have hc2 : w4.cell? ⟨gb, 2, none⟩ = some (.int .i64 a0_2) := (blk_cell BK.out 2).trans rfl; have hf2 := blk_frozen BK.out 2; have hc3 : w4.cell? ⟨gb, 3, none⟩ = some (.int .i64 a0_3) := (blk_cell BK.out 3).trans rfl; have hf3 := blk_frozen BK.out 3))
      go_ret
      exact ⟨rfl, by repeat (first | (with_reducible first | exact HB.out | apply below_alloc | apply pw_below_drewN | apply below_drew1) | exact HB.out)⟩
  · have e0b : (a0_0 == 0) = false := beq_eq_false_iff_ne.mpr e0
    have e0n : (a0_0 != 0) = true := bne_iff_ne.mpr e0
    by_cases e4 : a0_0 = 1
    · have e4b : (a0_0 == 1) = true := beq_iff_eq.mpr e4
      have e4n : (a0_0 != 1) = false := bne_eq_false_iff_eq.mpr e4
      by_cases e5 : a0_1 = a0_2
      · have e5b : (a0_1 == a0_2) = true := beq_iff_eq.mpr e5
        have e5n : (a0_1 != a0_2) = false := bne_eq_false_iff_eq.mpr e5
        by_cases e6 : a0_1 = a0_3
        · have e6b : (a0_1 == a0_3) = true := beq_iff_eq.mpr e6
          have e6n : (a0_1 != a0_3) = false := bne_eq_false_iff_eq.mpr e6
          rw [show (if (if a0_0 = 0 then a0_1 == 0 && (a0_2 == 0 && a0_3 == 0) else if a0_0 = 1 then a0_1 == a0_2 && a0_1 == a0_3 else decide (1 < a0_0) && (decide (a0_0 ≤ 1073741824) && decide (a0_2 ≤ a0_3))) = true then (0 : Int) else 8) = 0 from by simp [e0, e4, e5b, e6b]]
          clear e0 e4 e5 e6
          go_enter Try.func76, Try.ntmps76
          go_wp2_with (first | ((with_reducible refine gate_dst (N := 1) rfl ?_); refine box_event ?hg (N := 1) ?hd (cs := #[.int .i64 a0_0, .int .i64 a0_1, .int .i64 a0_2, .int .i64 a0_3]) (t := 36) ?hr ?_; (case hd => rfl); (case hg => rfl); (case hr => first | (go_simp; done) | (go_simp; rfl)); intro gb hg w4 hbox hb; have n0_ := Aside0.mk (below_step HB.out hb); have n1_ := Aside0.mk hbox; have n2_ := Aside0.mk ((by rw [hg]; exact (below_size HB.out)) : w.heap.size ≤ gb); clear HB; have HB := n0_; have BK := n1_; have GE := n2_; clear n0_ n1_ n2_ hb hbox hg; have hc0 : w4.cell? ⟨gb, 0, none⟩ = some (.int .i64 a0_0) := (blk_cell BK.out 0).trans rfl; have hf0 := blk_frozen BK.out 0; have hc1 : w4.cell? ⟨gb, 1, none⟩ = some (.int .i64 a0_1) := (blk_cell BK.out 1).trans rfl; have hf1 := blk_frozen BK.out 1; have hc2 : w4.cell? ⟨gb, 2, none⟩ = some (.int .i64 a0_2) := (blk_cell BK.out 2).trans rfl; have hf2 := blk_frozen BK.out 2; have hc3 : w4.cell? ⟨gb, 3, none⟩ = some (.int .i64 a0_3) := (blk_cell BK.out 3).trans rfl; have hf3 := blk_frozen BK.out 3))
          go_ret
          exact ⟨rfl, by repeat (first | (with_reducible first | exact HB.out | apply below_alloc | apply pw_below_drewN | apply below_drew1) | exact HB.out)⟩
        · have e6b : (a0_1 == a0_3) = false := beq_eq_false_iff_ne.mpr e6
          have e6n : (a0_1 != a0_3) = true := bne_iff_ne.mpr e6
          rw [show (if (if a0_0 = 0 then a0_1 == 0 && (a0_2 == 0 && a0_3 == 0) else if a0_0 = 1 then a0_1 == a0_2 && a0_1 == a0_3 else decide (1 < a0_0) && (decide (a0_0 ≤ 1073741824) && decide (a0_2 ≤ a0_3))) = true then (0 : Int) else 8) = 8 from by simp [e0, e4, e5b, e6b]]
          clear e0 e4 e5 e6
          go_enter Try.func76, Try.ntmps76
          go_wp2_with (first | ((with_reducible refine gate_dst (N := 1) rfl ?_); refine box_event ?hg (N := 1) ?hd (cs := #[.int .i64 a0_0, .int .i64 a0_1, .int .i64 a0_2, .int .i64 a0_3]) (t := 36) ?hr ?_; (case hd => rfl); (case hg => rfl); (case hr => first | (go_simp; done) | (go_simp; rfl)); intro gb hg w4 hbox hb; have n0_ := Aside0.mk (below_step HB.out hb); have n1_ := Aside0.mk hbox; have n2_ := Aside0.mk ((by rw [hg]; exact (below_size HB.out)) : w.heap.size ≤ gb); clear HB; have HB := n0_; have BK := n1_; have GE := n2_; clear n0_ n1_ n2_ hb hbox hg; have hc0 : w4.cell? ⟨gb, 0, none⟩ = some (.int .i64 a0_0) := (blk_cell BK.out 0).trans rfl; have hf0 := blk_frozen BK.out 0; have hc1 : w4.cell? ⟨gb, 1, none⟩ = some (.int .i64 a0_1) := (blk_cell BK.out 1).trans rfl; have hf1 := blk_frozen BK.out 1; have hc2 : w4.cell? ⟨gb, 2, none⟩ = some (.int .i64 a0_2) := (blk_cell BK.out 2).trans rfl; have hf2 := blk_frozen BK.out 2; have hc3 : w4.cell? ⟨gb, 3, none⟩ = some (.int .i64 a0_3) := (blk_cell BK.out 3).trans rfl; have hf3 := blk_frozen BK.out 3))
          go_ret
          exact ⟨rfl, by repeat (first | (with_reducible first | exact HB.out | apply below_alloc | apply pw_below_drewN | apply below_drew1) | exact HB.out)⟩
      · have e5b : (a0_1 == a0_2) = false := beq_eq_false_iff_ne.mpr e5
        have e5n : (a0_1 != a0_2) = true := bne_iff_ne.mpr e5
        rw [show (if (if a0_0 = 0 then a0_1 == 0 && (a0_2 == 0 && a0_3 == 0) else if a0_0 = 1 then a0_1 == a0_2 && a0_1 == a0_3 else decide (1 < a0_0) && (decide (a0_0 ≤ 1073741824) && decide (a0_2 ≤ a0_3))) = true then (0 : Int) else 8) = 8 from by simp [e0, e4, e5b]]
        clear e0 e4 e5
        go_enter Try.func76, Try.ntmps76
        go_wp2_with (first | ((with_reducible refine gate_dst (N := 1) rfl ?_); refine box_event ?hg (N := 1) ?hd (cs := #[.int .i64 a0_0, .int .i64 a0_1, .int .i64 a0_2, .int .i64 a0_3]) (t := 36) ?hr ?_; (case hd => rfl); (case hg => rfl); (case hr => first | (go_simp; done) | (go_simp; rfl)); intro gb hg w4 hbox hb; have n0_ := Aside0.mk (below_step HB.out hb); have n1_ := Aside0.mk hbox; have n2_ := Aside0.mk ((by rw [hg]; exact (below_size HB.out)) : w.heap.size ≤ gb); clear HB; have HB := n0_; have BK := n1_; have GE := n2_; clear n0_ n1_ n2_ hb hbox hg; have hc0 : w4.cell? ⟨gb, 0, none⟩ = some (.int .i64 a0_0) := (blk_cell BK.out 0).trans rfl; have hf0 := blk_frozen BK.out 0; have hc1 : w4.cell? ⟨gb, 1, none⟩ = some (.int .i64 a0_1) := (blk_cell BK.out 1).trans rfl; have hf1 := blk_frozen BK.out 1; have hc2 : w4.cell? ⟨gb, 2, none⟩ = some (.int .i64 a0_2) := (blk_cell BK.out 2).trans rfl; have hf2 := blk_frozen BK.out 2; have hc3 : w4.cell? ⟨gb, 3, none⟩ = some (.int .i64 a0_3) := (blk_cell BK.out 3).trans rfl; have hf3 := blk_frozen BK.out 3))
        go_ret
        exact ⟨rfl, by repeat (first | (with_reducible first | exact HB.out | apply below_alloc | apply pw_below_drewN | apply below_drew1) | exact HB.out)⟩
    · have e4b : (a0_0 == 1) = false := beq_eq_false_iff_ne.mpr e4
      have e4n : (a0_0 != 1) = true := bne_iff_ne.mpr e4
      by_cases d1 : 1 < a0_0
      · have d1b : decide (1 < a0_0) = true := decide_eq_true d1
        by_cases d2 : a0_0 ≤ 1073741824
        · have d2b : decide (a0_0 ≤ 1073741824) = true := decide_eq_true d2
          by_cases d3 : a0_2 ≤ a0_3
          · have d3b : decide (a0_2 ≤ a0_3) = true := decide_eq_true d3
            rw [show (if (if a0_0 = 0 then a0_1 == 0 && (a0_2 == 0 && a0_3 == 0) else if a0_0 = 1 then a0_1 == a0_2 && a0_1 == a0_3 else decide (1 < a0_0) && (decide (a0_0 ≤ 1073741824) && decide (a0_2 ≤ a0_3))) = true then (0 : Int) else 8) = 0 from by simp [e0, e4, d1, d2, d3]]
            clear e0 e4 d1 d2 d3
            go_enter Try.func76, Try.ntmps76
            go_wp2_with (first | ((with_reducible refine gate_dst (N := 1) rfl ?_); refine box_event ?hg (N := 1) ?hd (cs := #[.int .i64 a0_0, .int .i64 a0_1, .int .i64 a0_2, .int .i64 a0_3]) (t := 36) ?hr ?_; (case hd => rfl); (case hg => rfl); (case hr => first | (go_simp; done) | (go_simp; rfl)); intro gb hg w4 hbox hb; have n0_ := Aside0.mk (below_step HB.out hb); have n1_ := Aside0.mk hbox; have n2_ := Aside0.mk ((by rw [hg]; exact (below_size HB.out)) : w.heap.size ≤ gb); clear HB; have HB := n0_; have BK := n1_; have GE := n2_; clear n0_ n1_ n2_ hb hbox hg; have hc0 : w4.cell? ⟨gb, 0, none⟩ = some (.int .i64 a0_0) := (blk_cell BK.out 0).trans rfl; have hf0 := blk_frozen BK.out 0; have hc1 : w4.cell? ⟨gb, 1, none⟩ = some (.int .i64 a0_1) := (blk_cell BK.out 1).trans rfl; have hf1 := blk_frozen BK.out 1; have hc2 : w4.cell? ⟨gb, 2, none⟩ = some (.int .i64 a0_2) := (blk_cell BK.out 2).trans rfl; have hf2 := blk_frozen BK.out 2; have hc3 : w4.cell? ⟨gb, 3, none⟩ = some (.int .i64 a0_3) := (blk_cell BK.out 3).trans rfl; have hf3 := blk_frozen BK.out 3))
            go_ret
            exact ⟨rfl, by repeat (first | (with_reducible first | exact HB.out | apply below_alloc | apply pw_below_drewN | apply below_drew1) | exact HB.out)⟩
          · have d3b : decide (a0_2 ≤ a0_3) = false := decide_eq_false d3
            rw [show (if (if a0_0 = 0 then a0_1 == 0 && (a0_2 == 0 && a0_3 == 0) else if a0_0 = 1 then a0_1 == a0_2 && a0_1 == a0_3 else decide (1 < a0_0) && (decide (a0_0 ≤ 1073741824) && decide (a0_2 ≤ a0_3))) = true then (0 : Int) else 8) = 8 from by simp [e0, e4, d1, d2, d3]]
            clear e0 e4 d1 d2 d3
            go_enter Try.func76, Try.ntmps76
            go_wp2_with (first | ((with_reducible refine gate_dst (N := 1) rfl ?_); refine box_event ?hg (N := 1) ?hd (cs := #[.int .i64 a0_0, .int .i64 a0_1, .int .i64 a0_2, .int .i64 a0_3]) (t := 36) ?hr ?_; (case hd => rfl); (case hg => rfl); (case hr => first | (go_simp; done) | (go_simp; rfl)); intro gb hg w4 hbox hb; have n0_ := Aside0.mk (below_step HB.out hb); have n1_ := Aside0.mk hbox; have n2_ := Aside0.mk ((by rw [hg]; exact (below_size HB.out)) : w.heap.size ≤ gb); clear HB; have HB := n0_; have BK := n1_; have GE := n2_; clear n0_ n1_ n2_ hb hbox hg; have hc0 : w4.cell? ⟨gb, 0, none⟩ = some (.int .i64 a0_0) := (blk_cell BK.out 0).trans rfl; have hf0 := blk_frozen BK.out 0; have hc1 : w4.cell? ⟨gb, 1, none⟩ = some (.int .i64 a0_1) := (blk_cell BK.out 1).trans rfl; have hf1 := blk_frozen BK.out 1; have hc2 : w4.cell? ⟨gb, 2, none⟩ = some (.int .i64 a0_2) := (blk_cell BK.out 2).trans rfl; have hf2 := blk_frozen BK.out 2; have hc3 : w4.cell? ⟨gb, 3, none⟩ = some (.int .i64 a0_3) := (blk_cell BK.out 3).trans rfl; have hf3 := blk_frozen BK.out 3))
            go_ret
            exact ⟨rfl, by repeat (first | (with_reducible first | exact HB.out | apply below_alloc | apply pw_below_drewN | apply below_drew1) | exact HB.out)⟩
        · have d2b : decide (a0_0 ≤ 1073741824) = false := decide_eq_false d2
          rw [show (if (if a0_0 = 0 then a0_1 == 0 && (a0_2 == 0 && a0_3 == 0) else if a0_0 = 1 then a0_1 == a0_2 && a0_1 == a0_3 else decide (1 < a0_0) && (decide (a0_0 ≤ 1073741824) && decide (a0_2 ≤ a0_3))) = true then (0 : Int) else 8) = 8 from by simp [e0, e4, d1, d2]]
          clear e0 e4 d1 d2
          go_enter Try.func76, Try.ntmps76
          go_wp2_with (first | ((with_reducible refine gate_dst (N := 1) rfl ?_); refine box_event ?hg (N := 1) ?hd (cs := #[.int .i64 a0_0, .int .i64 a0_1, .int .i64 a0_2, .int .i64 a0_3]) (t := 36) ?hr ?_; (case hd => rfl); (case hg => rfl); (case hr => first | (go_simp; done) | (go_simp; rfl)); intro gb hg w4 hbox hb; have n0_ := Aside0.mk (below_step HB.out hb); have n1_ := Aside0.mk hbox; have n2_ := Aside0.mk ((by rw [hg]; exact (below_size HB.out)) : w.heap.size ≤ gb); clear HB; have HB := n0_; have BK := n1_; have GE := n2_; clear n0_ n1_ n2_ hb hbox hg; have hc0 : w4.cell? ⟨gb, 0, none⟩ = some (.int .i64 a0_0) := (blk_cell BK.out 0).trans rfl; have hf0 := blk_frozen BK.out 0; have hc1 : w4.cell? ⟨gb, 1, none⟩ = some (.int .i64 a0_1) := (blk_cell BK.out 1).trans rfl; have hf1 := blk_frozen BK.out 1; have hc2 : w4.cell? ⟨gb, 2, none⟩ = some (.int .i64 a0_2) := (blk_cell BK.out 2).trans rfl; have hf2 := blk_frozen BK.out 2; have hc3 : w4.cell? ⟨gb, 3, none⟩ = some (.int .i64 a0_3) := (blk_cell BK.out 3).trans rfl; have hf3 := blk_frozen BK.out 3))
          go_ret
          exact ⟨rfl, by repeat (first | (with_reducible first | exact HB.out | apply below_alloc | apply pw_below_drewN | apply below_drew1) | exact HB.out)⟩
      · have d1b : decide (1 < a0_0) = false := decide_eq_false d1
        rw [show (if (if a0_0 = 0 then a0_1 == 0 && (a0_2 == 0 && a0_3 == 0) else if a0_0 = 1 then a0_1 == a0_2 && a0_1 == a0_3 else decide (1 < a0_0) && (decide (a0_0 ≤ 1073741824) && decide (a0_2 ≤ a0_3))) = true then (0 : Int) else 8) = 8 from by simp [e0, e4, d1]]
        clear e0 e4 d1
        go_enter Try.func76, Try.ntmps76
        go_wp2_with (first | ((with_reducible refine gate_dst (N := 1) rfl ?_); refine box_event ?hg (N := 1) ?hd (cs := #[.int .i64 a0_0, .int .i64 a0_1, .int .i64 a0_2, .int .i64 a0_3]) (t := 36) ?hr ?_; (case hd => rfl); (case hg => rfl); (case hr => first | (go_simp; done) | (go_simp; rfl)); intro gb hg w4 hbox hb; have n0_ := Aside0.mk (below_step HB.out hb); have n1_ := Aside0.mk hbox; have n2_ := Aside0.mk ((by rw [hg]; exact (below_size HB.out)) : w.heap.size ≤ gb); clear HB; have HB := n0_; have BK := n1_; have GE := n2_; clear n0_ n1_ n2_ hb hbox hg; have hc0 : w4.cell? ⟨gb, 0, none⟩ = some (.int .i64 a0_0) := (blk_cell BK.out 0).trans rfl; have hf0 := blk_frozen BK.out 0; have hc1 : w4.cell? ⟨gb, 1, none⟩ = some (.int .i64 a0_1) := (blk_cell BK.out 1).trans rfl; have hf1 := blk_frozen BK.out 1; have hc2 : w4.cell? ⟨gb, 2, none⟩ = some (.int .i64 a0_2) := (blk_cell BK.out 2).trans rfl; have hf2 := blk_frozen BK.out 2; have hc3 : w4.cell? ⟨gb, 3, none⟩ = some (.int .i64 a0_3) := (blk_cell BK.out 3).trans rfl; have hf3 := blk_frozen BK.out 3))
        go_ret
        exact ⟨rfl, by repeat (first | (with_reducible first | exact HB.out | apply below_alloc | apply pw_below_drewN | apply below_drew1) | exact HB.out)⟩
end Go.Proofs.Ytepgpbbeeiebkaa.St
