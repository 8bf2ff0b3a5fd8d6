/- slices.Grow of a nil slice of spans hands back an empty slice of the call's own; condition: the number is not below zero and not too great. -/
import Derived.Test.YtbeldjhpbomonaaSex0
namespace Go.Proofs.Ytbeldjhpbomonaa.Se
open Go.RowKit Go.Proofs.YtbeldjhpbomonaaW.PrintWords Go.Proofs.YtbeldjhpbomonaaW.PrintLast Go.Proofs.YtbeldjhpbomonaaW.PrintMore
set_option linter.unusedVariables false

def growSpan.f (a0 : Int) : Option (List S35) := if 0 ≤ a0 ∧ a0 ≤ 8000000000000 then some [] else none
theorem growSpan.cut (A1 : Option Addr) (n c1 : Nat) (w2 : World) : (Go.Instr.slice 75 (.slice A1 n c1) none (some (.int .i64 0)) none).run Try.prog w2 = .ok (.slice A1 0 c1) w2 := by
  rw [run_slice_h (t := 75) (a := A1) (len := n) (cap := c1) (ht := by kernel_rfl) (kh := .i64) (h := 0) (h0 := by omega) (h2 := by omega)]
  rw [show (Go.sizeOf (Try.prog.elem 75)).run Try.prog w2 = .ok 2 w2 from by kernel_rfl]
  simp [Result.andThen, sliced, Addr.add]
set_option maxHeartbeats 4000000 in
set_option maxRecDepth 100000 in
theorem growSpan.calls (a0 : Int) (r : List S35) (w : World) (h : growSpan.f a0 = some r) :
    Calls Try.prog 94 #[.slice none 0 0, .int .i64 a0] w fun e w' => ∃ v0_ : Value, e = .returned (v0_) ∧ Kd.R k35 35 w' w.heap.size (fun _ => True) v0_ r ∧ Below w.heap.size w w' := by
  unfold growSpan.f at h
  by_cases hc : 0 ≤ a0 ∧ a0 ≤ 8000000000000
  · rw [if_pos hc] at h
    obtain rfl := Option.some.inj h
    clear h
    obtain ⟨h0, h1⟩ := hc
    have hu35 := Try.underlying35
    have d0 : decide (a0 < 0) = false := decide_eq_false (by omega)
    have hl : (([] : List S35).length + a0.toNat) * 16 ≤ 140737488355328 := by simp only [List.length_nil]; omega
    have HL := Aside0.mk hl
    clear hl
    by_cases hp : 0 < a0
    · have d1 : decide (0 < a0) = true := decide_eq_true hp
      go_enter Try.func94, Try.ntmps94
      go_wp2_with (at_builtin; refine Kd.R_append_zeros k35 (w0 := w) w.heap.size rfl (.tmp 20) (.tmp 21) 75 3 35 (.agg #[(.int .i64 0), (.int .i64 0)]) 16 rfl Try.underlying75 Try.underlying3 info35 rfl (by decide) (by omega) (.slice none 0 0) [] z35 a0 (fun _ => True) rfl rfl (k35_mkM _ _ _ z35) ?aF ?aO h0 ?aB ?aS ?aL ?_; (case aF => exact fun _ _ => trivial); (case aO => exact Kd.R_nil _ _ _ _ _); (case aB => exact Below.refl _ _); (case aS => exact Nat.le_refl _); (case aL => exact HL.out); intro v1 w1 ho hb hg hat; obtain ⟨A1, c1, rfl⟩ := Kd.R_slice ho; have hR := Aside0.mk (Kd.R_take (m := 0) ho (Nat.zero_le _)); have hB := Aside0.mk hb; clear ho hb hg hat; have hs := growSpan.cut A1)
      go_ret
      exact ⟨_, rfl, hR.out, hB.out⟩
    · have d1 : decide (0 < a0) = false := decide_eq_false hp
      go_enter Try.func94, Try.ntmps94
      go_wp2
      go_ret
      exact ⟨_, rfl, Kd.R_nil _ _ _ _ _, Below.refl _ _⟩
  · rw [if_neg hc] at h
    exact absurd h (by simp)
end Go.Proofs.Ytbeldjhpbomonaa.Se
