/- Contracts of functions of the program, each over a plain Lean function of the same answers: written by pdrive.py, a program of this session that drives the kit's printer with some functions given by hand; conditions: as each theorem says. -/
import Derived.Test.YtbeldjhpbomonaaSix0
import Derived.Test.YtbeldjhpbomonaaSix11
import Derived.Test.YtbeldjhpbomonaaSix12
import Derived.Test.YtbeldjhpbomonaaSix13
namespace Go.Proofs.Ytbeldjhpbomonaa.Si
open Go.RowKit Go.Proofs.YtbeldjhpbomonaaW.PrintWords Go.Proofs.YtbeldjhpbomonaaW.PrintLast Go.Proofs.YtbeldjhpbomonaaW.PrintMore
attribute [local go_sem] max2_int min2_int max_two min_two max_three min_three max_four min_four   -- for this text's walks alone
set_option linter.unusedVariables false
set_option linter.unusedSimpArgs false

/-! ### tailwaterlaw34_SinkSorts: function 6 -/
def tailwaterlaw34_SinkSorts.j0 : Nat → List (S38) → List (S38) → List (S33) → Bool → Option (Bool)
  | 0, _, _, _, _ => none
  | k + 1, x0, x1, x2, x33 => if x33 = true then (some true) else ((some (([] : List (S38)) : List (S38))).bind fun y245 => (if y245.length + x0.length < 3518437208883 then ((some (y245 ++ x0 : List (S38))).bind fun y248 => ((some (([] : List (S33)) : List (S33))).bind fun y251 => (if y251.length + x2.length < 5864062014805 then ((some (y251 ++ x2 : List (S33))).bind fun y254 => ((sink_Rows.f x0).bind fun bt257 => ((tailwaterref34_Rows.f k y248).bind fun bt261 => ((sink_Late.f x2).bind fun bt265 => ((tailwaterref34_Late.f k y254).bind fun bt269 => ((sink_Same.f k x0 x1).bind fun bt273 => ((tailwaterref34_Same.f k y248 x1).bind fun bt275 => ((tailwaterref34_SameRows.f k bt257.1 bt261.1).bind fun t277 => (if t277 = true then (if bt257.2 = bt261.2 then ((tailwaterref34_SameRecords.f k bt265.1 bt269.1).bind fun t278 => (if t278 = true then (if bt265.2 = bt269.2 then (if (bt273.1 == bt275.1) = true then (if bt273.2 = bt275.2 then ((tailwaterref34_SameRows.f k x0 y248).bind fun t279 => (if t279 = true then ((tailwaterref34_SameRecords.f k x2 y254).bind fun t280 => (some t280)) else (some false))) else (some false)) else (some false)) else (some false)) else (some false))) else (some false)) else (some false)))))))))) else (none)))) else (none)))
def tailwaterlaw34_SinkSorts.f (k : Nat) (l0 : List (S38)) (l1 : List (S38)) (l2 : List (S33)) : Option (Bool) := (tailwaterref34_Great.f (l0.length : Int)).bind fun t242 => (if t242 = true then (tailwaterlaw34_SinkSorts.j0 k l0 l1 l2 true) else ((tailwaterref34_Great.f (l1.length : Int)).bind fun t243 => (if t243 = true then (tailwaterlaw34_SinkSorts.j0 k l0 l1 l2 true) else ((tailwaterref34_Great.f (l2.length : Int)).bind fun t244 => (tailwaterlaw34_SinkSorts.j0 k l0 l1 l2 t244)))))
theorem tailwaterlaw34_SinkSorts.mono_l : ∀ k, (∀ y0 y1 y2 y3, LeO (tailwaterlaw34_SinkSorts.j0 k y0 y1 y2 y3) (tailwaterlaw34_SinkSorts.j0 (k + 1) y0 y1 y2 y3))
  | 0 => fun _ _ _ _ r h => by simp [tailwaterlaw34_SinkSorts.j0] at h
  | k + 1 => by
    have ih0 := tailwaterlaw34_SinkSorts.mono_l k
    · intro y0 y1 y2 y3
      unfold tailwaterlaw34_SinkSorts.j0
      repeat' first
      | (with_reducible exact ih0 _ _ _ _)
      | (with_reducible exact sink_Same.mono _ _ _)
      | (with_reducible exact tailwaterref34_Late.mono _ _)
      | (with_reducible exact tailwaterref34_Rows.mono _ _)
      | (with_reducible exact tailwaterref34_Same.mono _ _ _)
      | (with_reducible exact tailwaterref34_SameRecords.mono _ _ _)
      | (with_reducible exact tailwaterref34_SameRows.mono _ _ _)
      | (with_reducible exact LeO.refl _)
      | (with_reducible exact LeO.none _)
      | (with_reducible refine LeO.ite ?_ ?_)
      | (with_reducible refine LeO.bind ?_ (fun _ => ?_))
      | exact ih0 _ _ _ _
      | exact sink_Same.mono _ _ _
      | exact tailwaterref34_Late.mono _ _
      | exact tailwaterref34_Rows.mono _ _
      | exact tailwaterref34_Same.mono _ _ _
      | exact tailwaterref34_SameRecords.mono _ _ _
      | exact tailwaterref34_SameRows.mono _ _ _
      | exact LeO.none _
      | refine LeO.ite ?_ ?_
      | refine LeO.bind ?_ (fun _ => ?_)
theorem tailwaterlaw34_SinkSorts.mono : ∀ a0 a1 a2 k, LeO (tailwaterlaw34_SinkSorts.f k a0 a1 a2) (tailwaterlaw34_SinkSorts.f (k + 1) a0 a1 a2) := by
  intro a0 a1 a2 k
  have ih0 := tailwaterlaw34_SinkSorts.mono_l k
  unfold tailwaterlaw34_SinkSorts.f
  repeat' first
      | (with_reducible exact ih0 _ _ _ _)
      | (with_reducible exact sink_Same.mono _ _ _)
      | (with_reducible exact tailwaterref34_Late.mono _ _)
      | (with_reducible exact tailwaterref34_Rows.mono _ _)
      | (with_reducible exact tailwaterref34_Same.mono _ _ _)
      | (with_reducible exact tailwaterref34_SameRecords.mono _ _ _)
      | (with_reducible exact tailwaterref34_SameRows.mono _ _ _)
      | (with_reducible exact LeO.refl _)
      | (with_reducible exact LeO.none _)
      | (with_reducible refine LeO.ite ?_ ?_)
      | (with_reducible refine LeO.bind ?_ (fun _ => ?_))
      | exact ih0 _ _ _ _
      | exact sink_Same.mono _ _ _
      | exact tailwaterref34_Late.mono _ _
      | exact tailwaterref34_Rows.mono _ _
      | exact tailwaterref34_Same.mono _ _ _
      | exact tailwaterref34_SameRecords.mono _ _ _
      | exact tailwaterref34_SameRows.mono _ _ _
      | exact LeO.none _
      | refine LeO.ite ?_ ?_
      | refine LeO.bind ?_ (fun _ => ?_)
set_option maxHeartbeats 8000000 in
set_option maxRecDepth 100000 in
theorem tailwaterlaw34_SinkSorts.calls (k : Nat) (A0 : Option Addr) (c0 : Nat) (l0 : List (S38)) (A1 : Option Addr) (c1 : Nat) (l1 : List (S38)) (A2 : Option Addr) (c2 : Nat) (l2 : List (S33)) (r : Bool) (w : World) (hr0 : Kd.C k38 w A0 l0.length l0) (hc0 : l0.length ≤ c0) (hr1 : Kd.C k38 w A1 l1.length l1) (hc1 : l1.length ≤ c1) (hr2 : Kd.C k33 w A2 l2.length l2) (hc2 : l2.length ≤ c2) (h : tailwaterlaw34_SinkSorts.f k l0 l1 l2 = some r) (hR_ : r = true) :
    Calls Try.prog 6 #[.slice A0 l0.length c0, .slice A1 l1.length c1, .slice A2 l2.length c2] w fun e w' => e = .returned (.bool r) ∧ Below w.heap.size w w' := by
  have HR0 := Aside0.mk hr0
  have HC0 := Aside0.mk hc0
  clear hr0 hc0
  have HR1 := Aside0.mk hr1
  have HC1 := Aside0.mk hc1
  clear hr1 hc1
  have HR2 := Aside0.mk hr2
  have HC2 := Aside0.mk hc2
  clear hr2 hc2
  have HB := Aside0.mk (Below.refl w.heap.size w)
  have H : ((tailwaterref34_Great.f (l0.length : Int)).bind fun t242 => (if t242 = true then (tailwaterlaw34_SinkSorts.j0 k l0 l1 l2 true) else ((tailwaterref34_Great.f (l1.length : Int)).bind fun t243 => (if t243 = true then (tailwaterlaw34_SinkSorts.j0 k l0 l1 l2 true) else ((tailwaterref34_Great.f (l2.length : Int)).bind fun t244 => (tailwaterlaw34_SinkSorts.j0 k l0 l1 l2 t244)))))) = some r := h
  clear h
  have HC4 := Aside0.mk H
  clear H
  go_enter Try.func6, Try.ntmps6
  go_upto_region 1 with (fail)
  go_cut [33] (fun v33 wc => ∃ (kq : Nat) (x33_3 : Bool), v33 = .bool x33_3 ∧ Aside0 (tailwaterlaw34_SinkSorts.j0 kq l0 l1 l2 x33_3 = some r) ∧ Aside0 (kq ≤ k) ∧ Aside0 (Below w.heap.size w wc))
  case first =>
    have H := HC4.out
    clear HC4
    replace H := Option.bind_eq_some_iff.mp H
    obtain ⟨t242, A50, H⟩ := H
    replace H : (if t242 = true then (tailwaterlaw34_SinkSorts.j0 k l0 l1 l2 true) else ((tailwaterref34_Great.f (l1.length : Int)).bind fun t243 => (if t243 = true then (tailwaterlaw34_SinkSorts.j0 k l0 l1 l2 true) else ((tailwaterref34_Great.f (l2.length : Int)).bind fun t244 => (tailwaterlaw34_SinkSorts.j0 k l0 l1 l2 t244))))) = some r := H
    have A5 := Aside0.mk A50
    clear A50
    by_cases c6 : t242 = true
    · subst c6
      have H1 : (tailwaterlaw34_SinkSorts.j0 k l0 l1 l2 true) = some r := by rw [if_pos rfl] at H; exact H
      clear H
      have H := H1
      clear H1
      have H' := Aside0.mk H
      clear H
      go_wp2_with (first | ((with_reducible refine gate_callee (f := 28) rfl ?_); refine goesL_ (some 23) rfl rfl Try.func28 (by kernel_rfl) rfl #[.int .i64 (l0.length : Int)] rfl (by (try simp only [List.map_toArray, List.map_cons, List.map_nil]); first | done | rfl | (simp only [List.length_drop, List.length_take]; rfl)) ?_; (with_reducible refine (tailwaterref34_Great.calls (l0.length : Int) true _ A5.out).mono ?_); rintro e w' ⟨rfl, ⟨nd, rfl⟩⟩; refine ⟨_, rfl, ?_⟩))
      go_meet
      case rel => exact ⟨_, (true), (by first | rfl | (simp; done) | (simp [*]; done)), H', ⟨by first | omega | exact Nat.le_refl _⟩, ⟨by repeat (first | (with_reducible first | exact HB.out | apply below_alloc | apply pw_below_drewN | apply below_drew1) | exact HB.out)⟩⟩
    · replace c6 := Bool.eq_false_iff.mpr c6
      subst c6
      have H1 : ((tailwaterref34_Great.f (l1.length : Int)).bind fun t243 => (if t243 = true then (tailwaterlaw34_SinkSorts.j0 k l0 l1 l2 true) else ((tailwaterref34_Great.f (l2.length : Int)).bind fun t244 => (tailwaterlaw34_SinkSorts.j0 k l0 l1 l2 t244)))) = some r := by rw [if_neg (show ¬ (false = true) by decide)] at H; exact H
      clear H
      have H := H1
      clear H1
      replace H := Option.bind_eq_some_iff.mp H
      obtain ⟨t243, A70, H⟩ := H
      replace H : (if t243 = true then (tailwaterlaw34_SinkSorts.j0 k l0 l1 l2 true) else ((tailwaterref34_Great.f (l2.length : Int)).bind fun t244 => (tailwaterlaw34_SinkSorts.j0 k l0 l1 l2 t244))) = some r := H
      have A7 := Aside0.mk A70
      clear A70
      by_cases c8 : t243 = true
      · subst c8
        have H1 : (tailwaterlaw34_SinkSorts.j0 k l0 l1 l2 true) = some r := by rw [if_pos rfl] at H; exact H
        clear H
        have H := H1
        clear H1
        have H' := Aside0.mk H
        clear H
        go_wp2_with (first | ((with_reducible refine gate_callee (f := 28) rfl ?_); refine goesL_ (some 23) rfl rfl Try.func28 (by kernel_rfl) rfl #[.int .i64 (l0.length : Int)] rfl (by (try simp only [List.map_toArray, List.map_cons, List.map_nil]); first | done | rfl | (simp only [List.length_drop, List.length_take]; rfl)) ?_; (with_reducible refine (tailwaterref34_Great.calls (l0.length : Int) false _ A5.out).mono ?_); rintro e w' ⟨rfl, ⟨nd, rfl⟩⟩; refine ⟨_, rfl, ?_⟩) | (go_at_call 28; (with_reducible refine (tailwaterref34_Great.calls (l1.length : Int) true _ A7.out).mono ?_); rintro e w' ⟨rfl, ⟨nd, rfl⟩⟩))
        go_meet
        case rel => exact ⟨_, (true), (by first | rfl | (simp; done) | (simp [*]; done)), H', ⟨by first | omega | exact Nat.le_refl _⟩, ⟨by repeat (first | (with_reducible first | exact HB.out | apply below_alloc | apply pw_below_drewN | apply below_drew1) | exact HB.out)⟩⟩
      · replace c8 := Bool.eq_false_iff.mpr c8
        subst c8
        have H1 : ((tailwaterref34_Great.f (l2.length : Int)).bind fun t244 => (tailwaterlaw34_SinkSorts.j0 k l0 l1 l2 t244)) = some r := by rw [if_neg (show ¬ (false = true) by decide)] at H; exact H
        clear H
        have H := H1
        clear H1
        replace H := Option.bind_eq_some_iff.mp H
        obtain ⟨t244, A90, H⟩ := H
        replace H : (tailwaterlaw34_SinkSorts.j0 k l0 l1 l2 t244) = some r := H
        have A9 := Aside0.mk A90
        clear A90
        have H' := Aside0.mk H
        clear H
        go_wp2_with (first | ((with_reducible refine gate_callee (f := 28) rfl ?_); refine goesL_ (some 23) rfl rfl Try.func28 (by kernel_rfl) rfl #[.int .i64 (l0.length : Int)] rfl (by (try simp only [List.map_toArray, List.map_cons, List.map_nil]); first | done | rfl | (simp only [List.length_drop, List.length_take]; rfl)) ?_; (with_reducible refine (tailwaterref34_Great.calls (l0.length : Int) false _ A5.out).mono ?_); rintro e w' ⟨rfl, ⟨nd, rfl⟩⟩; refine ⟨_, rfl, ?_⟩) | (go_at_call 28; (with_reducible refine (tailwaterref34_Great.calls (l1.length : Int) false _ A7.out).mono ?_); rintro e w' ⟨rfl, ⟨nd, rfl⟩⟩) | (go_at_call 28; (with_reducible refine (tailwaterref34_Great.calls (l2.length : Int) t244 _ A9.out).mono ?_); rintro e w' ⟨rfl, ⟨nd, rfl⟩⟩))
        go_meet
        case rel => exact ⟨_, (t244), (by first | rfl | (simp; done) | (simp [*]; done)), H', ⟨by first | omega | exact Nat.le_refl _⟩, ⟨by repeat (first | (with_reducible first | exact HB.out | apply below_alloc | apply pw_below_drewN | apply below_drew1) | exact HB.out)⟩⟩
  case rest =>
    clear HC4
    try clear c1
    try clear c2
    try clear p2
    try clear c6
    try clear c8
    obtain ⟨kq, x33_3, rfl, HA, HJ3, HB⟩ := hcut
    cases kq with
    | zero => exact absurd HA.out (by simp [tailwaterlaw34_SinkSorts.j0])
    | succ kj3 =>
      have H := HA.out
      clear HA
      simp only [tailwaterlaw34_SinkSorts.j0] at H
      by_cases c10 : x33_3 = true
      · subst c10
        have H1 : (some true) = some r := by rw [if_pos rfl] at H; exact H
        clear H
        have H := H1
        clear H1
        obtain rfl := Option.some.inj H
        go_wp2
        go_ret
        exact ⟨by first | rfl | (simp [errW_none, errW_some] <;> rfl) | (simp [*, errW_none, errW_some] <;> rfl), by repeat (first | (with_reducible first | exact HB.out | apply below_alloc | apply pw_below_drewN | apply below_drew1) | exact HB.out)⟩
      · replace c10 := Bool.eq_false_iff.mpr c10
        subst c10
        have H1 : ((some (([] : List (S38)) : List (S38))).bind fun y245 => (if y245.length + l0.length < 3518437208883 then ((some (y245 ++ l0 : List (S38))).bind fun y248 => ((some (([] : List (S33)) : List (S33))).bind fun y251 => (if y251.length + l2.length < 5864062014805 then ((some (y251 ++ l2 : List (S33))).bind fun y254 => ((sink_Rows.f l0).bind fun bt257 => ((tailwaterref34_Rows.f kj3 y248).bind fun bt261 => ((sink_Late.f l2).bind fun bt265 => ((tailwaterref34_Late.f kj3 y254).bind fun bt269 => ((sink_Same.f kj3 l0 l1).bind fun bt273 => ((tailwaterref34_Same.f kj3 y248 l1).bind fun bt275 => ((tailwaterref34_SameRows.f kj3 bt257.1 bt261.1).bind fun t277 => (if t277 = true then (if bt257.2 = bt261.2 then ((tailwaterref34_SameRecords.f kj3 bt265.1 bt269.1).bind fun t278 => (if t278 = true then (if bt265.2 = bt269.2 then (if (bt273.1 == bt275.1) = true then (if bt273.2 = bt275.2 then ((tailwaterref34_SameRows.f kj3 l0 y248).bind fun t279 => (if t279 = true then ((tailwaterref34_SameRecords.f kj3 l2 y254).bind fun t280 => (some t280)) else (some false))) else (some false)) else (some false)) else (some false)) else (some false))) else (some false)) else (some false)))))))))) else (none)))) else (none))) = some r := by rw [if_neg (show ¬ (false = true) by decide)] at H; exact H
        clear H
        have H := H1
        clear H1
        obtain ⟨y245, hy245⟩ : ∃ y_ : List (S38), y_ = (([] : List (S38))) := ⟨_, rfl⟩
        replace H : (if y245.length + l0.length < 3518437208883 then ((some (y245 ++ l0 : List (S38))).bind fun y248 => ((some (([] : List (S33)) : List (S33))).bind fun y251 => (if y251.length + l2.length < 5864062014805 then ((some (y251 ++ l2 : List (S33))).bind fun y254 => ((sink_Rows.f l0).bind fun bt257 => ((tailwaterref34_Rows.f kj3 y248).bind fun bt261 => ((sink_Late.f l2).bind fun bt265 => ((tailwaterref34_Late.f kj3 y254).bind fun bt269 => ((sink_Same.f kj3 l0 l1).bind fun bt273 => ((tailwaterref34_Same.f kj3 y248 l1).bind fun bt275 => ((tailwaterref34_SameRows.f kj3 bt257.1 bt261.1).bind fun t277 => (if t277 = true then (if bt257.2 = bt261.2 then ((tailwaterref34_SameRecords.f kj3 bt265.1 bt269.1).bind fun t278 => (if t278 = true then (if bt265.2 = bt269.2 then (if (bt273.1 == bt275.1) = true then (if bt273.2 = bt275.2 then ((tailwaterref34_SameRows.f kj3 l0 y248).bind fun t279 => (if t279 = true then ((tailwaterref34_SameRecords.f kj3 l2 y254).bind fun t280 => (some t280)) else (some false))) else (some false)) else (some false)) else (some false)) else (some false))) else (some false)) else (some false)))))))))) else (none)))) else (none)) = some r := by first | (rw [hy245]; with_reducible exact H) | (have H2_ := (Option.bind_some _ _).symm.trans H; rw [hy245]; with_reducible exact H2_) | (have H2_ := (Option.bind_some _ _).symm.trans H; with_reducible exact H2_) | with_reducible exact H | (rw [hy245]; exact H) | exact H
        have Ny245 := Aside0.mk hy245
        clear hy245
        by_cases c11 : y245.length + l0.length < 3518437208883
        · rw [if_pos c11] at H
          have LMc11 := Aside0.mk c11
          clear c11
          obtain ⟨y248, hy248⟩ : ∃ y_ : List (S38), y_ = (y245 ++ l0) := ⟨_, rfl⟩
          replace H : ((some (([] : List (S33)) : List (S33))).bind fun y251 => (if y251.length + l2.length < 5864062014805 then ((some (y251 ++ l2 : List (S33))).bind fun y254 => ((sink_Rows.f l0).bind fun bt257 => ((tailwaterref34_Rows.f kj3 y248).bind fun bt261 => ((sink_Late.f l2).bind fun bt265 => ((tailwaterref34_Late.f kj3 y254).bind fun bt269 => ((sink_Same.f kj3 l0 l1).bind fun bt273 => ((tailwaterref34_Same.f kj3 y248 l1).bind fun bt275 => ((tailwaterref34_SameRows.f kj3 bt257.1 bt261.1).bind fun t277 => (if t277 = true then (if bt257.2 = bt261.2 then ((tailwaterref34_SameRecords.f kj3 bt265.1 bt269.1).bind fun t278 => (if t278 = true then (if bt265.2 = bt269.2 then (if (bt273.1 == bt275.1) = true then (if bt273.2 = bt275.2 then ((tailwaterref34_SameRows.f kj3 l0 y248).bind fun t279 => (if t279 = true then ((tailwaterref34_SameRecords.f kj3 l2 y254).bind fun t280 => (some t280)) else (some false))) else (some false)) else (some false)) else (some false)) else (some false))) else (some false)) else (some false)))))))))) else (none))) = some r := by first | (rw [hy248]; with_reducible exact H) | (have H2_ := (Option.bind_some _ _).symm.trans H; rw [hy248]; with_reducible exact H2_) | (have H2_ := (Option.bind_some _ _).symm.trans H; with_reducible exact H2_) | with_reducible exact H | (rw [hy248]; exact H) | exact H
          have Ny248 := Aside0.mk hy248
          clear hy248
          obtain ⟨y251, hy251⟩ : ∃ y_ : List (S33), y_ = (([] : List (S33))) := ⟨_, rfl⟩
          replace H : (if y251.length + l2.length < 5864062014805 then ((some (y251 ++ l2 : List (S33))).bind fun y254 => ((sink_Rows.f l0).bind fun bt257 => ((tailwaterref34_Rows.f kj3 y248).bind fun bt261 => ((sink_Late.f l2).bind fun bt265 => ((tailwaterref34_Late.f kj3 y254).bind fun bt269 => ((sink_Same.f kj3 l0 l1).bind fun bt273 => ((tailwaterref34_Same.f kj3 y248 l1).bind fun bt275 => ((tailwaterref34_SameRows.f kj3 bt257.1 bt261.1).bind fun t277 => (if t277 = true then (if bt257.2 = bt261.2 then ((tailwaterref34_SameRecords.f kj3 bt265.1 bt269.1).bind fun t278 => (if t278 = true then (if bt265.2 = bt269.2 then (if (bt273.1 == bt275.1) = true then (if bt273.2 = bt275.2 then ((tailwaterref34_SameRows.f kj3 l0 y248).bind fun t279 => (if t279 = true then ((tailwaterref34_SameRecords.f kj3 l2 y254).bind fun t280 => (some t280)) else (some false))) else (some false)) else (some false)) else (some false)) else (some false))) else (some false)) else (some false)))))))))) else (none)) = some r := by first | (rw [hy251]; with_reducible exact H) | (have H2_ := (Option.bind_some _ _).symm.trans H; rw [hy251]; with_reducible exact H2_) | (have H2_ := (Option.bind_some _ _).symm.trans H; with_reducible exact H2_) | with_reducible exact H | (rw [hy251]; exact H) | exact H
          have Ny251 := Aside0.mk hy251
          clear hy251
          by_cases c12 : y251.length + l2.length < 5864062014805
          · rw [if_pos c12] at H
            have LMc12 := Aside0.mk c12
            clear c12
            obtain ⟨y254, hy254⟩ : ∃ y_ : List (S33), y_ = (y251 ++ l2) := ⟨_, rfl⟩
            replace H : ((sink_Rows.f l0).bind fun bt257 => ((tailwaterref34_Rows.f kj3 y248).bind fun bt261 => ((sink_Late.f l2).bind fun bt265 => ((tailwaterref34_Late.f kj3 y254).bind fun bt269 => ((sink_Same.f kj3 l0 l1).bind fun bt273 => ((tailwaterref34_Same.f kj3 y248 l1).bind fun bt275 => ((tailwaterref34_SameRows.f kj3 bt257.1 bt261.1).bind fun t277 => (if t277 = true then (if bt257.2 = bt261.2 then ((tailwaterref34_SameRecords.f kj3 bt265.1 bt269.1).bind fun t278 => (if t278 = true then (if bt265.2 = bt269.2 then (if (bt273.1 == bt275.1) = true then (if bt273.2 = bt275.2 then ((tailwaterref34_SameRows.f kj3 l0 y248).bind fun t279 => (if t279 = true then ((tailwaterref34_SameRecords.f kj3 l2 y254).bind fun t280 => (some t280)) else (some false))) else (some false)) else (some false)) else (some false)) else (some false))) else (some false)) else (some false))))))))) = some r := by first | (rw [hy254]; with_reducible exact H) | (have H2_ := (Option.bind_some _ _).symm.trans H; rw [hy254]; with_reducible exact H2_) | (have H2_ := (Option.bind_some _ _).symm.trans H; with_reducible exact H2_) | with_reducible exact H | (rw [hy254]; exact H) | exact H
            have Ny254 := Aside0.mk hy254
            clear hy254
            replace H := Option.bind_eq_some_iff.mp H
            obtain ⟨⟨t257, t258⟩, A130, H⟩ := H
            replace H : ((tailwaterref34_Rows.f kj3 y248).bind fun bt261 => ((sink_Late.f l2).bind fun bt265 => ((tailwaterref34_Late.f kj3 y254).bind fun bt269 => ((sink_Same.f kj3 l0 l1).bind fun bt273 => ((tailwaterref34_Same.f kj3 y248 l1).bind fun bt275 => ((tailwaterref34_SameRows.f kj3 t257 bt261.1).bind fun t277 => (if t277 = true then (if t258 = bt261.2 then ((tailwaterref34_SameRecords.f kj3 bt265.1 bt269.1).bind fun t278 => (if t278 = true then (if bt265.2 = bt269.2 then (if (bt273.1 == bt275.1) = true then (if bt273.2 = bt275.2 then ((tailwaterref34_SameRows.f kj3 l0 y248).bind fun t279 => (if t279 = true then ((tailwaterref34_SameRecords.f kj3 l2 y254).bind fun t280 => (some t280)) else (some false))) else (some false)) else (some false)) else (some false)) else (some false))) else (some false)) else (some false)))))))) = some r := H
            have A13 := Aside0.mk A130
            clear A130
            replace H := Option.bind_eq_some_iff.mp H
            obtain ⟨⟨t261, t262⟩, A140, H⟩ := H
            replace H : ((sink_Late.f l2).bind fun bt265 => ((tailwaterref34_Late.f kj3 y254).bind fun bt269 => ((sink_Same.f kj3 l0 l1).bind fun bt273 => ((tailwaterref34_Same.f kj3 y248 l1).bind fun bt275 => ((tailwaterref34_SameRows.f kj3 t257 t261).bind fun t277 => (if t277 = true then (if t258 = t262 then ((tailwaterref34_SameRecords.f kj3 bt265.1 bt269.1).bind fun t278 => (if t278 = true then (if bt265.2 = bt269.2 then (if (bt273.1 == bt275.1) = true then (if bt273.2 = bt275.2 then ((tailwaterref34_SameRows.f kj3 l0 y248).bind fun t279 => (if t279 = true then ((tailwaterref34_SameRecords.f kj3 l2 y254).bind fun t280 => (some t280)) else (some false))) else (some false)) else (some false)) else (some false)) else (some false))) else (some false)) else (some false))))))) = some r := H
            have A14 := Aside0.mk A140
            clear A140
            replace H := Option.bind_eq_some_iff.mp H
            obtain ⟨⟨t265, t266⟩, A150, H⟩ := H
            replace H : ((tailwaterref34_Late.f kj3 y254).bind fun bt269 => ((sink_Same.f kj3 l0 l1).bind fun bt273 => ((tailwaterref34_Same.f kj3 y248 l1).bind fun bt275 => ((tailwaterref34_SameRows.f kj3 t257 t261).bind fun t277 => (if t277 = true then (if t258 = t262 then ((tailwaterref34_SameRecords.f kj3 t265 bt269.1).bind fun t278 => (if t278 = true then (if t266 = bt269.2 then (if (bt273.1 == bt275.1) = true then (if bt273.2 = bt275.2 then ((tailwaterref34_SameRows.f kj3 l0 y248).bind fun t279 => (if t279 = true then ((tailwaterref34_SameRecords.f kj3 l2 y254).bind fun t280 => (some t280)) else (some false))) else (some false)) else (some false)) else (some false)) else (some false))) else (some false)) else (some false)))))) = some r := H
            have A15 := Aside0.mk A150
            clear A150
            replace H := Option.bind_eq_some_iff.mp H
            obtain ⟨⟨t269, t270⟩, A160, H⟩ := H
            replace H : ((sink_Same.f kj3 l0 l1).bind fun bt273 => ((tailwaterref34_Same.f kj3 y248 l1).bind fun bt275 => ((tailwaterref34_SameRows.f kj3 t257 t261).bind fun t277 => (if t277 = true then (if t258 = t262 then ((tailwaterref34_SameRecords.f kj3 t265 t269).bind fun t278 => (if t278 = true then (if t266 = t270 then (if (bt273.1 == bt275.1) = true then (if bt273.2 = bt275.2 then ((tailwaterref34_SameRows.f kj3 l0 y248).bind fun t279 => (if t279 = true then ((tailwaterref34_SameRecords.f kj3 l2 y254).bind fun t280 => (some t280)) else (some false))) else (some false)) else (some false)) else (some false)) else (some false))) else (some false)) else (some false))))) = some r := H
            have A16 := Aside0.mk A160
            clear A160
            replace H := Option.bind_eq_some_iff.mp H
            obtain ⟨⟨t273, t274⟩, A170, H⟩ := H
            replace H : ((tailwaterref34_Same.f kj3 y248 l1).bind fun bt275 => ((tailwaterref34_SameRows.f kj3 t257 t261).bind fun t277 => (if t277 = true then (if t258 = t262 then ((tailwaterref34_SameRecords.f kj3 t265 t269).bind fun t278 => (if t278 = true then (if t266 = t270 then (if (t273 == bt275.1) = true then (if t274 = bt275.2 then ((tailwaterref34_SameRows.f kj3 l0 y248).bind fun t279 => (if t279 = true then ((tailwaterref34_SameRecords.f kj3 l2 y254).bind fun t280 => (some t280)) else (some false))) else (some false)) else (some false)) else (some false)) else (some false))) else (some false)) else (some false)))) = some r := H
            have A17 := Aside0.mk A170
            clear A170
            replace H := Option.bind_eq_some_iff.mp H
            obtain ⟨⟨t275, t276⟩, A180, H⟩ := H
            replace H : ((tailwaterref34_SameRows.f kj3 t257 t261).bind fun t277 => (if t277 = true then (if t258 = t262 then ((tailwaterref34_SameRecords.f kj3 t265 t269).bind fun t278 => (if t278 = true then (if t266 = t270 then (if (t273 == t275) = true then (if t274 = t276 then ((tailwaterref34_SameRows.f kj3 l0 y248).bind fun t279 => (if t279 = true then ((tailwaterref34_SameRecords.f kj3 l2 y254).bind fun t280 => (some t280)) else (some false))) else (some false)) else (some false)) else (some false)) else (some false))) else (some false)) else (some false))) = some r := H
            have A18 := Aside0.mk A180
            clear A180
            replace H := Option.bind_eq_some_iff.mp H
            obtain ⟨t277, A190, H⟩ := H
            replace H : (if t277 = true then (if t258 = t262 then ((tailwaterref34_SameRecords.f kj3 t265 t269).bind fun t278 => (if t278 = true then (if t266 = t270 then (if (t273 == t275) = true then (if t274 = t276 then ((tailwaterref34_SameRows.f kj3 l0 y248).bind fun t279 => (if t279 = true then ((tailwaterref34_SameRecords.f kj3 l2 y254).bind fun t280 => (some t280)) else (some false))) else (some false)) else (some false)) else (some false)) else (some false))) else (some false)) else (some false)) = some r := H
            have A19 := Aside0.mk A190
            clear A190
            by_cases c20 : t277 = true
            · subst c20
              have H1 : (if t258 = t262 then ((tailwaterref34_SameRecords.f kj3 t265 t269).bind fun t278 => (if t278 = true then (if t266 = t270 then (if (t273 == t275) = true then (if t274 = t276 then ((tailwaterref34_SameRows.f kj3 l0 y248).bind fun t279 => (if t279 = true then ((tailwaterref34_SameRecords.f kj3 l2 y254).bind fun t280 => (some t280)) else (some false))) else (some false)) else (some false)) else (some false)) else (some false))) else (some false)) = some r := by rw [if_pos rfl] at H; exact H
              clear H
              have H := H1
              clear H1
              by_cases c21 : t258 = t262
              · rw [if_pos c21] at H
                have c21b0 : (t258 == t262) = true := beq_iff_eq.mpr c21
                have c21b1 : (t258 != t262) = false := bne_eq_false_iff_eq.mpr c21
                clear c21
                replace H := Option.bind_eq_some_iff.mp H
                obtain ⟨t278, A220, H⟩ := H
                replace H : (if t278 = true then (if t266 = t270 then (if (t273 == t275) = true then (if t274 = t276 then ((tailwaterref34_SameRows.f kj3 l0 y248).bind fun t279 => (if t279 = true then ((tailwaterref34_SameRecords.f kj3 l2 y254).bind fun t280 => (some t280)) else (some false))) else (some false)) else (some false)) else (some false)) else (some false)) = some r := H
                have A22 := Aside0.mk A220
                clear A220
                by_cases c23 : t278 = true
                · subst c23
                  have H1 : (if t266 = t270 then (if (t273 == t275) = true then (if t274 = t276 then ((tailwaterref34_SameRows.f kj3 l0 y248).bind fun t279 => (if t279 = true then ((tailwaterref34_SameRecords.f kj3 l2 y254).bind fun t280 => (some t280)) else (some false))) else (some false)) else (some false)) else (some false)) = some r := by rw [if_pos rfl] at H; exact H
                  clear H
                  have H := H1
                  clear H1
                  by_cases c24 : t266 = t270
                  · rw [if_pos c24] at H
                    have c24b0 : (t266 == t270) = true := beq_iff_eq.mpr c24
                    have c24b1 : (t266 != t270) = false := bne_eq_false_iff_eq.mpr c24
                    clear c24
                    by_cases c25 : (t273 == t275) = true
                    · rw [if_pos c25] at H
                      have c25b0 : (t273 == t275) = true := c25
                      (try (have c25b1 : decide (t273 = t275) = true := by simpa using c25))
                      (try (have c25b2 : (t273 == t275) = true := by simpa using c25))
                      clear c25
                      by_cases c26 : t274 = t276
                      · rw [if_pos c26] at H
                        have c26b0 : (t274 == t276) = true := beq_iff_eq.mpr c26
                        have c26b1 : (t274 != t276) = false := bne_eq_false_iff_eq.mpr c26
                        clear c26
                        replace H := Option.bind_eq_some_iff.mp H
                        obtain ⟨t279, A270, H⟩ := H
                        replace H : (if t279 = true then ((tailwaterref34_SameRecords.f kj3 l2 y254).bind fun t280 => (some t280)) else (some false)) = some r := H
                        have A27 := Aside0.mk A270
                        clear A270
                        by_cases c28 : t279 = true
                        · subst c28
                          have H1 : ((tailwaterref34_SameRecords.f kj3 l2 y254).bind fun t280 => (some t280)) = some r := by rw [if_pos rfl] at H; exact H
                          clear H
                          have H := H1
                          clear H1
                          replace H := Option.bind_eq_some_iff.mp H
                          obtain ⟨t280, A290, H⟩ := H
                          replace H : (some t280) = some r := H
                          have A29 := Aside0.mk A290
                          clear A290
                          obtain rfl := Option.some.inj H
                          go_wp2_with (first | ((with_reducible refine gate_dst (N := 34) rfl ?_); (try (refine gate_guard (by rfl) ?_; dsimp only)); refine Kd.R_lit k38 _ 38 ?hg (N := 34) ?hd (xs := ([] : List (S38))) (inner := []) (ok := fun _ => True) (okp := fun _ => True) ?hr ?hp (fun _ hk => hk) trivial (Below.refl _ _) (Nat.le_refl _) (by simp) ?_; (case hd => rfl); (case hg => rfl); (case hr => first | (go_simp; done) | (go_simp; rfl)); (case hp => exact (Reps.none _ _)); intro v246 w30 ho31 hb hg_ hnew_; clear hg_ hnew_; (first | rw [← Ny245.out] at ho31 | (simp only [Int.reduceToNat] at ho31; rw [← Ny245.out] at ho31)); have n0_ := Aside0.mk (Kd.R_lower ho31 (below_size (by repeat (first | (with_reducible first | exact HB.out | apply below_alloc | apply pw_below_drewN | apply below_drew1) | exact HB.out)))); have n1_ := Aside0.mk (below_step (by repeat (first | (with_reducible first | exact HB.out | apply below_alloc | apply pw_below_drewN | apply below_drew1) | exact HB.out)) hb); clear HB; have HO247 := n0_; have HB := n1_; clear n0_ n1_; clear hb ho31) | ((with_reducible refine gate_builtin (b := .append) (xs := #[.tmp 34, .tmp 35]) rfl ?_); (try (refine gate_guard (by rfl) ?_; dsimp only)); at_builtin; refine Kd.R_append_rows k38 (w0 := w) w.heap.size rfl (.tmp 34) (.tmp 35) 28 38 (.agg #[(.int .i64 0), (.int .i64 0), (.int .i64 0), (.int .i64 0), (.int .i64 0)]) 40 rfl Try.underlying28 info38 rfl (by decide) (by omega) v246 y245 l0 _ _ _ (fun _ => True) (fun _ => False) rfl rfl ?aO ?aR (fun _ _ h => h) (fun _ h => h.elim) ?aF ?aB ?aS ?aL ?_; (case aR => repeat (first | exact (Kd.C_below HR0.out HB.out) | (with_reducible refine Kd.C_alloc ?_ _) | (with_reducible refine Kd.C_drewN ?_ _) | (with_reducible refine Kd.C_drew ?_))); (case aB => exact (by repeat (first | (with_reducible first | exact HB.out | apply below_alloc | apply pw_below_drewN | apply below_drew1) | exact HB.out))); (case aF => exact (fun _ _ => trivial)); (case aO => exact (by (with_reducible repeat (first | apply Kd.R_alloc | apply Kd.R_drewN | apply Kd.R_drew)); exact HO247.out)); (case aS => exact (below_size (by repeat (first | (with_reducible first | exact HB.out | apply below_alloc | apply pw_below_drewN | apply below_drew1) | exact HB.out)))); (case aL => have := LMc11.out; omega); intro v249 w32 ho hb hg hat; rw [← Ny248.out] at ho; have n0_ := Aside0.mk (hb); have n1_ := Aside0.mk (ho); clear HB HO247; have HB := n0_; have HO250 := n1_; clear n0_ n1_; clear ho hb hg hat) | ((with_reducible refine gate_dst (N := 37) rfl ?_); (try (refine gate_guard (by rfl) ?_; dsimp only)); refine Kd.R_lit k33 _ 33 ?hg (N := 37) ?hd (xs := ([] : List (S33))) (inner := []) (ok := fun _ => True) (okp := fun _ => True) ?hr ?hp (fun _ hk => hk) trivial (Below.refl _ _) (Nat.le_refl _) (by simp) ?_; (case hd => rfl); (case hg => rfl); (case hr => first | (go_simp; done) | (go_simp; rfl)); (case hp => exact (Reps.none _ _)); intro v252 w33 ho34 hb hg_ hnew_; clear hg_ hnew_; (first | rw [← Ny251.out] at ho34 | (simp only [Int.reduceToNat] at ho34; rw [← Ny251.out] at ho34)); have n0_ := Aside0.mk (Kd.R_below (by (with_reducible repeat (first | apply Kd.R_alloc | apply Kd.R_drewN | apply Kd.R_drew)); exact HO250.out) hb); have n1_ := Aside0.mk (Kd.R_lower ho34 (below_size (by repeat (first | (with_reducible first | exact HB.out | apply below_alloc | apply pw_below_drewN | apply below_drew1) | exact HB.out)))); have n2_ := Aside0.mk (below_step (by repeat (first | (with_reducible first | exact HB.out | apply below_alloc | apply pw_below_drewN | apply below_drew1) | exact HB.out)) hb); clear HO250 HB; have HO250 := n0_; have HO253 := n1_; have HB := n2_; clear n0_ n1_ n2_; clear hb ho34) | ((with_reducible refine gate_builtin (b := .append) (xs := #[.tmp 37, .tmp 38]) rfl ?_); (try (refine gate_guard (by rfl) ?_; dsimp only)); at_builtin; refine Kd.R_append_rows k33 (w0 := w) w.heap.size rfl (.tmp 37) (.tmp 38) 29 33 (.agg #[(.int .i64 0), (.int .i64 0), (.int .i64 0)]) 24 rfl Try.underlying29 info33 rfl (by decide) (by omega) v252 y251 l2 _ _ _ (fun _ => True) (fun _ => False) rfl rfl ?aO ?aR (fun _ _ h => h) (fun _ h => h.elim) ?aF ?aB ?aS ?aL ?_; (case aR => repeat (first | exact (Kd.C_below HR2.out HB.out) | (with_reducible refine Kd.C_alloc ?_ _) | (with_reducible refine Kd.C_drewN ?_ _) | (with_reducible refine Kd.C_drew ?_))); (case aB => exact (by repeat (first | (with_reducible first | exact HB.out | apply below_alloc | apply pw_below_drewN | apply below_drew1) | exact HB.out))); (case aF => exact (fun _ _ => trivial)); (case aO => exact (by (with_reducible repeat (first | apply Kd.R_alloc | apply Kd.R_drewN | apply Kd.R_drew)); exact HO253.out)); (case aS => exact (below_size (by repeat (first | (with_reducible first | exact HB.out | apply below_alloc | apply pw_below_drewN | apply below_drew1) | exact HB.out)))); (case aL => have := LMc12.out; omega); intro v255 w35 ho hb hg hat; rw [← Ny254.out] at ho; have n0_ := Aside0.mk (Kd.R_over' (by (with_reducible repeat (first | apply Kd.R_alloc | apply Kd.R_drewN | apply Kd.R_drew)); exact HO250.out) (Kd.R_typed (by (with_reducible repeat (first | apply Kd.R_alloc | apply Kd.R_drewN | apply Kd.R_drew)); exact HO253.out)) (by decide) hg); have n1_ := Aside0.mk (hb); have n2_ := Aside0.mk (ho); clear HO250 HB HO253; have HO250 := n0_; have HB := n1_; have HO256 := n2_; clear n0_ n1_ n2_; clear ho hb hg hat) | ((with_reducible refine gate_callee (f := 24) rfl ?_); refine goesL_ (some 42) rfl rfl Try.func24 (by kernel_rfl) rfl #[.slice A0 l0.length c0] rfl (by (try simp only [List.map_toArray, List.map_cons, List.map_nil]); first | done | rfl | (simp only [List.length_drop, List.length_take]; rfl)) ?_; (with_reducible refine (sink_Rows.calls _ _ l0 t257 t258 _ ?side1 ?side2 A13.out).mono ?_); (case side1 => repeat (first | exact (Kd.C_below HR0.out HB.out) | (with_reducible refine Kd.C_alloc ?_ _) | (with_reducible refine Kd.C_drewN ?_ _) | (with_reducible refine Kd.C_drew ?_))); (case side2 => exact HC0.out); rintro e w36 ⟨v259, rfl, ho0, hb⟩; refine ⟨_, rfl, ?_⟩; have n0_ := Aside0.mk (Kd.R_elder' (by (with_reducible repeat (first | apply Kd.R_alloc | apply Kd.R_drewN | apply Kd.R_drew)); exact HO250.out) (Kd.R_base ho0) hb); have n1_ := Aside0.mk (Kd.R_below (by (with_reducible repeat (first | apply Kd.R_alloc | apply Kd.R_drewN | apply Kd.R_drew)); exact HO256.out) hb); have n2_ := Aside0.mk (Kd.R_lower (Kd.R_new' ho0 (Kd.R_lt (by (with_reducible repeat (first | apply Kd.R_alloc | apply Kd.R_drewN | apply Kd.R_drew)); exact HO250.out))) (below_size (by repeat (first | (with_reducible first | exact HB.out | apply below_alloc | apply pw_below_drewN | apply below_drew1) | exact HB.out)))); have n3_ := Aside0.mk (below_step (by repeat (first | (with_reducible first | exact HB.out | apply below_alloc | apply pw_below_drewN | apply below_drew1) | exact HB.out)) hb); clear HO250 HO256 HB; have HO250 := n0_; have HO256 := n1_; have HO260 := n2_; have HB := n3_; clear n0_ n1_ n2_ n3_; (try clear hb); (try clear hb2); (try clear hk); (try clear hi); (try clear ho0); obtain ⟨Ao37, co37, eo37⟩ := Kd.R_slice HO250.out; subst eo37) | ((with_reducible refine gate_callee (f := 29) rfl ?_); refine goesL_ (some 47) rfl rfl Try.func29 (by kernel_rfl) rfl #[.slice Ao37 y248.length co37] rfl (by (try simp only [List.map_toArray, List.map_cons, List.map_nil]); first | done | rfl | (simp only [List.length_drop, List.length_take]; rfl)) ?_; (with_reducible refine (tailwaterref34_Rows.calls kj3 _ _ y248 t261 t262 _ ?side1 ?side2 A14.out).mono ?_); (case side1 => repeat (first | exact (Kd.R_reads' HO250.out).2.2 | (with_reducible refine Kd.C_alloc ?_ _) | (with_reducible refine Kd.C_drewN ?_ _) | (with_reducible refine Kd.C_drew ?_))); (case side2 => exact (Kd.R_reads' HO250.out).2.1); rintro e w38 ⟨v263, rfl, ho0, hb⟩; refine ⟨_, rfl, ?_⟩; have n0_ := Aside0.mk (Kd.R_elder' (by (with_reducible repeat (first | apply Kd.R_alloc | apply Kd.R_drewN | apply Kd.R_drew)); exact HO250.out) (Kd.R_base ho0) hb); have n1_ := Aside0.mk (Kd.R_below (by (with_reducible repeat (first | apply Kd.R_alloc | apply Kd.R_drewN | apply Kd.R_drew)); exact HO256.out) hb); have n2_ := Aside0.mk (Kd.R_elder' (by (with_reducible repeat (first | apply Kd.R_alloc | apply Kd.R_drewN | apply Kd.R_drew)); exact HO260.out) (Kd.R_base ho0) hb); have n3_ := Aside0.mk (Kd.R_lower (Kd.R_new' (Kd.R_new' ho0 (Kd.R_lt (by (with_reducible repeat (first | apply Kd.R_alloc | apply Kd.R_drewN | apply Kd.R_drew)); exact HO250.out))) (Kd.R_lt (by (with_reducible repeat (first | apply Kd.R_alloc | apply Kd.R_drewN | apply Kd.R_drew)); exact HO260.out))) (below_size (by repeat (first | (with_reducible first | exact HB.out | apply below_alloc | apply pw_below_drewN | apply below_drew1) | exact HB.out)))); have n4_ := Aside0.mk (below_step (by repeat (first | (with_reducible first | exact HB.out | apply below_alloc | apply pw_below_drewN | apply below_drew1) | exact HB.out)) hb); clear HO250 HO256 HO260 HB; have HO250 := n0_; have HO256 := n1_; have HO260 := n2_; have HO264 := n3_; have HB := n4_; clear n0_ n1_ n2_ n3_ n4_; (try clear hb); (try clear hb2); (try clear hk); (try clear hi); (try clear ho0)) | ((with_reducible refine gate_callee (f := 23) rfl ?_); refine goesL_ (some 52) rfl rfl Try.func23 (by kernel_rfl) rfl #[.slice A2 l2.length c2] rfl (by (try simp only [List.map_toArray, List.map_cons, List.map_nil]); first | done | rfl | (simp only [List.length_drop, List.length_take]; rfl)) ?_; (with_reducible refine (sink_Late.calls _ _ l2 t265 t266 _ ?side1 ?side2 A15.out).mono ?_); (case side1 => repeat (first | exact (Kd.C_below HR2.out HB.out) | (with_reducible refine Kd.C_alloc ?_ _) | (with_reducible refine Kd.C_drewN ?_ _) | (with_reducible refine Kd.C_drew ?_))); (case side2 => exact HC2.out); rintro e w39 ⟨v267, rfl, ho0, hb⟩; refine ⟨_, rfl, ?_⟩; have n0_ := Aside0.mk (Kd.R_below (by (with_reducible repeat (first | apply Kd.R_alloc | apply Kd.R_drewN | apply Kd.R_drew)); exact HO250.out) hb); have n1_ := Aside0.mk (Kd.R_elder' (by (with_reducible repeat (first | apply Kd.R_alloc | apply Kd.R_drewN | apply Kd.R_drew)); exact HO256.out) (Kd.R_base ho0) hb); have n2_ := Aside0.mk (Kd.R_below (by (with_reducible repeat (first | apply Kd.R_alloc | apply Kd.R_drewN | apply Kd.R_drew)); exact HO260.out) hb); have n3_ := Aside0.mk (Kd.R_below (by (with_reducible repeat (first | apply Kd.R_alloc | apply Kd.R_drewN | apply Kd.R_drew)); exact HO264.out) hb); have n4_ := Aside0.mk (Kd.R_lower (Kd.R_new' ho0 (Kd.R_lt (by (with_reducible repeat (first | apply Kd.R_alloc | apply Kd.R_drewN | apply Kd.R_drew)); exact HO256.out))) (below_size (by repeat (first | (with_reducible first | exact HB.out | apply below_alloc | apply pw_below_drewN | apply below_drew1) | exact HB.out)))); have n5_ := Aside0.mk (below_step (by repeat (first | (with_reducible first | exact HB.out | apply below_alloc | apply pw_below_drewN | apply below_drew1) | exact HB.out)) hb); clear HO250 HO256 HO260 HO264 HB; have HO250 := n0_; have HO256 := n1_; have HO260 := n2_; have HO264 := n3_; have HO268 := n4_; have HB := n5_; clear n0_ n1_ n2_ n3_ n4_ n5_; (try clear hb); (try clear hb2); (try clear hk); (try clear hi); (try clear ho0); obtain ⟨Ao40, co40, eo40⟩ := Kd.R_slice HO256.out; subst eo40) | ((with_reducible refine gate_callee (f := 30) rfl ?_); refine goesL_ (some 57) rfl rfl Try.func30 (by kernel_rfl) rfl #[.slice Ao40 y254.length co40] rfl (by (try simp only [List.map_toArray, List.map_cons, List.map_nil]); first | done | rfl | (simp only [List.length_drop, List.length_take]; rfl)) ?_; (with_reducible refine (tailwaterref34_Late.calls kj3 _ _ y254 t269 t270 _ ?side1 ?side2 A16.out).mono ?_); (case side1 => repeat (first | exact (Kd.R_reads' HO256.out).2.2 | (with_reducible refine Kd.C_alloc ?_ _) | (with_reducible refine Kd.C_drewN ?_ _) | (with_reducible refine Kd.C_drew ?_))); (case side2 => exact (Kd.R_reads' HO256.out).2.1); rintro e w41 ⟨v271, rfl, ho0, hb⟩; refine ⟨_, rfl, ?_⟩; have n0_ := Aside0.mk (Kd.R_below (by (with_reducible repeat (first | apply Kd.R_alloc | apply Kd.R_drewN | apply Kd.R_drew)); exact HO250.out) hb); have n1_ := Aside0.mk (Kd.R_elder' (by (with_reducible repeat (first | apply Kd.R_alloc | apply Kd.R_drewN | apply Kd.R_drew)); exact HO256.out) (Kd.R_base ho0) hb); have n2_ := Aside0.mk (Kd.R_below (by (with_reducible repeat (first | apply Kd.R_alloc | apply Kd.R_drewN | apply Kd.R_drew)); exact HO260.out) hb); have n3_ := Aside0.mk (Kd.R_below (by (with_reducible repeat (first | apply Kd.R_alloc | apply Kd.R_drewN | apply Kd.R_drew)); exact HO264.out) hb); have n4_ := Aside0.mk (Kd.R_elder' (by (with_reducible repeat (first | apply Kd.R_alloc | apply Kd.R_drewN | apply Kd.R_drew)); exact HO268.out) (Kd.R_base ho0) hb); have n5_ := Aside0.mk (Kd.R_lower (Kd.R_new' (Kd.R_new' ho0 (Kd.R_lt (by (with_reducible repeat (first | apply Kd.R_alloc | apply Kd.R_drewN | apply Kd.R_drew)); exact HO256.out))) (Kd.R_lt (by (with_reducible repeat (first | apply Kd.R_alloc | apply Kd.R_drewN | apply Kd.R_drew)); exact HO268.out))) (below_size (by repeat (first | (with_reducible first | exact HB.out | apply below_alloc | apply pw_below_drewN | apply below_drew1) | exact HB.out)))); have n6_ := Aside0.mk (below_step (by repeat (first | (with_reducible first | exact HB.out | apply below_alloc | apply pw_below_drewN | apply below_drew1) | exact HB.out)) hb); clear HO250 HO256 HO260 HO264 HO268 HB; have HO250 := n0_; have HO256 := n1_; have HO260 := n2_; have HO264 := n3_; have HO268 := n4_; have HO272 := n5_; have HB := n6_; clear n0_ n1_ n2_ n3_ n4_ n5_ n6_; (try clear hb); (try clear hb2); (try clear hk); (try clear hi); (try clear ho0)) | ((with_reducible refine gate_callee (f := 25) rfl ?_); refine goesL_ (some 63) rfl rfl Try.func25 (by kernel_rfl) rfl #[.slice A0 l0.length c0, .slice A1 l1.length c1] rfl (by (try simp only [List.map_toArray, List.map_cons, List.map_nil]); first | done | rfl | (simp only [List.length_drop, List.length_take]; rfl)) ?_; (with_reducible refine (sink_Same.calls kj3 _ _ l0 _ _ l1 t273 t274 _ ?side1 ?side2 ?side3 ?side4 A17.out).mono ?_); (case side1 => repeat (first | exact (Kd.C_below HR0.out HB.out) | (with_reducible refine Kd.C_alloc ?_ _) | (with_reducible refine Kd.C_drewN ?_ _) | (with_reducible refine Kd.C_drew ?_))); (case side2 => exact HC0.out); (case side3 => repeat (first | exact (Kd.C_below HR1.out HB.out) | (with_reducible refine Kd.C_alloc ?_ _) | (with_reducible refine Kd.C_drewN ?_ _) | (with_reducible refine Kd.C_drew ?_))); (case side4 => exact HC1.out); rintro e w42 ⟨rfl, hb⟩; refine ⟨_, rfl, ?_⟩; have n0_ := Aside0.mk (Kd.R_below (by (with_reducible repeat (first | apply Kd.R_alloc | apply Kd.R_drewN | apply Kd.R_drew)); exact HO250.out) hb); have n1_ := Aside0.mk (Kd.R_below (by (with_reducible repeat (first | apply Kd.R_alloc | apply Kd.R_drewN | apply Kd.R_drew)); exact HO256.out) hb); have n2_ := Aside0.mk (Kd.R_below (by (with_reducible repeat (first | apply Kd.R_alloc | apply Kd.R_drewN | apply Kd.R_drew)); exact HO260.out) hb); have n3_ := Aside0.mk (Kd.R_below (by (with_reducible repeat (first | apply Kd.R_alloc | apply Kd.R_drewN | apply Kd.R_drew)); exact HO264.out) hb); have n4_ := Aside0.mk (Kd.R_below (by (with_reducible repeat (first | apply Kd.R_alloc | apply Kd.R_drewN | apply Kd.R_drew)); exact HO268.out) hb); have n5_ := Aside0.mk (Kd.R_below (by (with_reducible repeat (first | apply Kd.R_alloc | apply Kd.R_drewN | apply Kd.R_drew)); exact HO272.out) hb); have n6_ := Aside0.mk (below_step (by repeat (first | (with_reducible first | exact HB.out | apply below_alloc | apply pw_below_drewN | apply below_drew1) | exact HB.out)) hb); clear HO250 HO256 HO260 HO264 HO268 HO272 HB; have HO250 := n0_; have HO256 := n1_; have HO260 := n2_; have HO264 := n3_; have HO268 := n4_; have HO272 := n5_; have HB := n6_; clear n0_ n1_ n2_ n3_ n4_ n5_ n6_; (try clear hb); (try clear hb2); (try clear hk); (try clear hi)) | ((with_reducible refine gate_callee (f := 31) rfl ?_); refine goesL_ (some 69) rfl rfl Try.func31 (by kernel_rfl) rfl #[.slice Ao37 y248.length co37, .slice A1 l1.length c1] rfl (by (try simp only [List.map_toArray, List.map_cons, List.map_nil]); first | done | rfl | (simp only [List.length_drop, List.length_take]; rfl)) ?_; (with_reducible refine (tailwaterref34_Same.calls kj3 _ _ y248 _ _ l1 t275 t276 _ ?side1 ?side2 ?side3 ?side4 A18.out).mono ?_); (case side1 => repeat (first | exact (Kd.R_reads' HO250.out).2.2 | (with_reducible refine Kd.C_alloc ?_ _) | (with_reducible refine Kd.C_drewN ?_ _) | (with_reducible refine Kd.C_drew ?_))); (case side2 => exact (Kd.R_reads' HO250.out).2.1); (case side3 => repeat (first | exact (Kd.C_below HR1.out HB.out) | (with_reducible refine Kd.C_alloc ?_ _) | (with_reducible refine Kd.C_drewN ?_ _) | (with_reducible refine Kd.C_drew ?_))); (case side4 => exact HC1.out); rintro e w43 ⟨rfl, hb⟩; refine ⟨_, rfl, ?_⟩; have n0_ := Aside0.mk (Kd.R_below (by (with_reducible repeat (first | apply Kd.R_alloc | apply Kd.R_drewN | apply Kd.R_drew)); exact HO250.out) hb); have n1_ := Aside0.mk (Kd.R_below (by (with_reducible repeat (first | apply Kd.R_alloc | apply Kd.R_drewN | apply Kd.R_drew)); exact HO256.out) hb); have n2_ := Aside0.mk (Kd.R_below (by (with_reducible repeat (first | apply Kd.R_alloc | apply Kd.R_drewN | apply Kd.R_drew)); exact HO260.out) hb); have n3_ := Aside0.mk (Kd.R_below (by (with_reducible repeat (first | apply Kd.R_alloc | apply Kd.R_drewN | apply Kd.R_drew)); exact HO264.out) hb); have n4_ := Aside0.mk (Kd.R_below (by (with_reducible repeat (first | apply Kd.R_alloc | apply Kd.R_drewN | apply Kd.R_drew)); exact HO268.out) hb); have n5_ := Aside0.mk (Kd.R_below (by (with_reducible repeat (first | apply Kd.R_alloc | apply Kd.R_drewN | apply Kd.R_drew)); exact HO272.out) hb); have n6_ := Aside0.mk (below_step (by repeat (first | (with_reducible first | exact HB.out | apply below_alloc | apply pw_below_drewN | apply below_drew1) | exact HB.out)) hb); clear HO250 HO256 HO260 HO264 HO268 HO272 HB; have HO250 := n0_; have HO256 := n1_; have HO260 := n2_; have HO264 := n3_; have HO268 := n4_; have HO272 := n5_; have HB := n6_; clear n0_ n1_ n2_ n3_ n4_ n5_ n6_; (try clear hb); (try clear hb2); (try clear hk); (try clear hi); obtain ⟨Ao44, co44, eo44⟩ := Kd.R_slice HO260.out; subst eo44; obtain ⟨Ao45, co45, eo45⟩ := Kd.R_slice HO264.out; subst eo45) | ((with_reducible refine gate_callee (f := 26) rfl ?_); refine goesL_ (some 74) rfl rfl Try.func26 (by kernel_rfl) rfl #[.slice Ao44 t257.length co44, .slice Ao45 t261.length co45] rfl (by (try simp only [List.map_toArray, List.map_cons, List.map_nil]); first | done | rfl | (simp only [List.length_drop, List.length_take]; rfl)) ?_; (with_reducible refine (tailwaterref34_SameRows.calls kj3 _ _ t257 _ _ t261 true _ ?side1 ?side2 ?side3 ?side4 A19.out).mono ?_); (case side1 => repeat (first | exact (Kd.R_reads' HO260.out).2.2 | (with_reducible refine Kd.C_alloc ?_ _) | (with_reducible refine Kd.C_drewN ?_ _) | (with_reducible refine Kd.C_drew ?_))); (case side2 => exact (Kd.R_reads' HO260.out).2.1); (case side3 => repeat (first | exact (Kd.R_reads' HO264.out).2.2 | (with_reducible refine Kd.C_alloc ?_ _) | (with_reducible refine Kd.C_drewN ?_ _) | (with_reducible refine Kd.C_drew ?_))); (case side4 => exact (Kd.R_reads' HO264.out).2.1); rintro e w' ⟨rfl, ⟨nd, rfl⟩⟩; refine ⟨_, rfl, ?_⟩; obtain ⟨Ao46, co46, eo46⟩ := Kd.R_slice HO268.out; subst eo46; obtain ⟨Ao47, co47, eo47⟩ := Kd.R_slice HO272.out; subst eo47) | (go_at_call 32; (with_reducible refine (tailwaterref34_SameRecords.calls kj3 _ _ t265 _ _ t269 true _ ?side1 ?side2 ?side3 ?side4 A22.out).mono ?_); (case side1 => repeat (first | exact (Kd.R_reads' HO268.out).2.2 | (with_reducible refine Kd.C_alloc ?_ _) | (with_reducible refine Kd.C_drewN ?_ _) | (with_reducible refine Kd.C_drew ?_))); (case side2 => exact (Kd.R_reads' HO268.out).2.1); (case side3 => repeat (first | exact (Kd.R_reads' HO272.out).2.2 | (with_reducible refine Kd.C_alloc ?_ _) | (with_reducible refine Kd.C_drewN ?_ _) | (with_reducible refine Kd.C_drew ?_))); (case side4 => exact (Kd.R_reads' HO272.out).2.1); rintro e w' ⟨rfl, ⟨nd, rfl⟩⟩) | (go_at_call 26; (with_reducible refine (tailwaterref34_SameRows.calls kj3 _ _ l0 _ _ y248 true _ ?side1 ?side2 ?side3 ?side4 A27.out).mono ?_); (case side1 => repeat (first | exact (Kd.C_below HR0.out (by repeat (first | (with_reducible first | exact HB.out | apply below_alloc | apply pw_below_drewN | apply below_drew1) | exact HB.out))) | (with_reducible refine Kd.C_alloc ?_ _) | (with_reducible refine Kd.C_drewN ?_ _) | (with_reducible refine Kd.C_drew ?_))); (case side2 => exact HC0.out); (case side3 => repeat (first | exact (Kd.R_reads' HO250.out).2.2 | (with_reducible refine Kd.C_alloc ?_ _) | (with_reducible refine Kd.C_drewN ?_ _) | (with_reducible refine Kd.C_drew ?_))); (case side4 => exact (Kd.R_reads' HO250.out).2.1); rintro e w' ⟨rfl, ⟨nd, rfl⟩⟩) | (go_at_call 32; (with_reducible refine (tailwaterref34_SameRecords.calls kj3 _ _ l2 _ _ y254 t280 _ ?side1 ?side2 ?side3 ?side4 A29.out).mono ?_); (case side1 => repeat (first | exact (Kd.C_below HR2.out (by repeat (first | (with_reducible first | exact HB.out | apply below_alloc | apply pw_below_drewN | apply below_drew1) | exact HB.out))) | (with_reducible refine Kd.C_alloc ?_ _) | (with_reducible refine Kd.C_drewN ?_ _) | (with_reducible refine Kd.C_drew ?_))); (case side2 => exact HC2.out); (case side3 => repeat (first | exact (Kd.R_reads' HO256.out).2.2 | (with_reducible refine Kd.C_alloc ?_ _) | (with_reducible refine Kd.C_drewN ?_ _) | (with_reducible refine Kd.C_drew ?_))); (case side4 => exact (Kd.R_reads' HO256.out).2.1); rintro e w' ⟨rfl, ⟨nd, rfl⟩⟩))
                          go_ret
                          exact ⟨by first | rfl | (simp [errW_none, errW_some] <;> rfl) | (simp [*, errW_none, errW_some] <;> rfl), by repeat (first | (with_reducible first | exact HB.out | apply below_alloc | apply pw_below_drewN | apply below_drew1) | exact HB.out)⟩
                        · replace c28 := Bool.eq_false_iff.mpr c28
                          subst c28
                          have H1 : (some false) = some r := by rw [if_neg (show ¬ (false = true) by decide)] at H; exact H
                          clear H
                          have H := H1
                          clear H1
                          exact absurd ((Option.some.inj H).trans hR_) (by decide)
                      · rw [if_neg c26] at H
                        have c26b0 : (t274 == t276) = false := beq_eq_false_iff_ne.mpr c26
                        have c26b1 : (t274 != t276) = true := bne_iff_ne.mpr c26
                        exact absurd ((Option.some.inj H).trans hR_) (by decide)
                    · rw [if_neg c25] at H
                      have c25b0 : (t273 == t275) = false := by simpa using c25
                      (try (have c25b1 : decide (t273 = t275) = false := by simpa using c25))
                      (try (have c25b2 : (t273 == t275) = false := by simpa using c25))
                      (try (have c25b3 : ¬ (t273 = t275) := by simpa using c25))
                      clear c25
                      exact absurd ((Option.some.inj H).trans hR_) (by decide)
                  · rw [if_neg c24] at H
                    have c24b0 : (t266 == t270) = false := beq_eq_false_iff_ne.mpr c24
                    have c24b1 : (t266 != t270) = true := bne_iff_ne.mpr c24
                    exact absurd ((Option.some.inj H).trans hR_) (by decide)
                · replace c23 := Bool.eq_false_iff.mpr c23
                  subst c23
                  have H1 : (some false) = some r := by rw [if_neg (show ¬ (false = true) by decide)] at H; exact H
                  clear H
                  have H := H1
                  clear H1
                  exact absurd ((Option.some.inj H).trans hR_) (by decide)
              · rw [if_neg c21] at H
                have c21b0 : (t258 == t262) = false := beq_eq_false_iff_ne.mpr c21
                have c21b1 : (t258 != t262) = true := bne_iff_ne.mpr c21
                exact absurd ((Option.some.inj H).trans hR_) (by decide)
            · replace c20 := Bool.eq_false_iff.mpr c20
              subst c20
              have H1 : (some false) = some r := by rw [if_neg (show ¬ (false = true) by decide)] at H; exact H
              clear H
              have H := H1
              clear H1
              exact absurd ((Option.some.inj H).trans hR_) (by decide)
          · rw [if_neg c12] at H
            exact absurd H (by simp)
        · rw [if_neg c11] at H
          exact absurd H (by simp)

end Go.Proofs.Ytbeldjhpbomonaa.Si
