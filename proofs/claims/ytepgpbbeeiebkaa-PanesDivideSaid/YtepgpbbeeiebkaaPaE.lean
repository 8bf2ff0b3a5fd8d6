/- panes.Values: what it hands back, its errors too; condition: where there are few records their keys are Go's numbers. -/
import Derived.Test.YtepgpbbeeiebkaaPaV
namespace Go.Proofs.Ytepgpbbeeiebkaa.St
open Go.RowKit Go.Proofs.YtepgpbbeeiebkaaFar Go.Proofs.YtepgpbbeeiebkaaW.PrintWords Go.Proofs.YtepgpbbeeiebkaaW.PrintLast Go.Proofs.YtepgpbbeeiebkaaW.PrintMore
set_option linter.unusedVariables false
set_option linter.unusedSimpArgs false

def panes_Values.f (kd sz ev : Int) (l : List S26) : Option (List S39 × Int) :=
  if slidE kd sz ev = 0 then (if l.length ≤ 240 then (if l.all (fun r => i64Ok r.f0) = true then (match valOut sz ev l with | some out => some (out, 0) | none => some ([], 16)) else none) else some ([], 4)) else some ([], slidE kd sz ev)

set_option maxHeartbeats 4000000 in
set_option maxRecDepth 100000 in
theorem values_err (kd sz ev er : Int) (hs : slidE kd sz ev = er) (hne : er ≠ 0) (A1 : Option Addr) (c1 n1 : Nat) (w : World) :
    Calls Try.prog 33 #[.agg #[.int .u8 kd, .int .i64 sz, .int .i64 ev], .slice A1 n1 c1] w fun e w' => e = .returned (.tuple #[.slice none 0 0, .int .i64 er]) ∧ Below w.heap.size w w' := by
  have hsl : panes_sliding.f 2 kd sz ev = some er := by rw [sliding_ok kd sz ev (by omega), hs]
  have HSL := Aside0.mk hsl
  have hu24 := Try.underlying24
  have he0 : (er == 0) = false := beq_eq_false_iff_ne.mpr hne
  have he1 : (er != 0) = true := bne_iff_ne.mpr hne
  have HB := Aside0.mk (Below.refl w.heap.size w)
  clear hs hne hsl
  go_enter Try.func33, Try.ntmps33
  go_wp2_with ((with_reducible refine gate_callee (f := 60) rfl ?_); refine goesL_ (some 27) rfl rfl Try.func60 (by kernel_rfl) rfl #[.agg #[.int .u8 kd, .int .i64 sz, .int .i64 ev]] rfl (by (try simp only [List.map_toArray, List.map_cons, List.map_nil]); first | done | rfl) ?_; (with_reducible refine (panes_sliding.calls 2 kd sz ev er _ HSL.out).mono ?_); rintro e w5 ⟨rfl, hb⟩; refine ⟨_, rfl, ?_⟩; have n1_ := Aside0.mk (below_step (below_alloc HB.out _) hb); clear HB hb; have HB := n1_; clear n1_)
  go_ret2
  exact ⟨rfl, HB.out⟩
set_option maxHeartbeats 4000000 in
set_option maxRecDepth 100000 in
theorem values_many (kd sz ev : Int) (hs : slidE kd sz ev = 0) (A1 : Option Addr) (c1 n1 : Nat) (hn : 240 < n1) (w : World) :
    Calls Try.prog 33 #[.agg #[.int .u8 kd, .int .i64 sz, .int .i64 ev], .slice A1 n1 c1] w fun e w' => e = .returned (.tuple #[.slice none 0 0, .int .i64 4]) ∧ Below w.heap.size w w' := by
  have hsl : panes_sliding.f 2 kd sz ev = some 0 := by rw [sliding_ok kd sz ev (by omega), hs]
  have HSL := Aside0.mk hsl
  have hu24 := Try.underlying24
  have he0 : decide (240 < (n1 : Int)) = true := decide_eq_true (by omega)
  have he1 : decide (240 < n1) = true := decide_eq_true hn
  have HB := Aside0.mk (Below.refl w.heap.size w)
  clear hs hsl hn
  go_enter Try.func33, Try.ntmps33
  go_wp2_with ((with_reducible refine gate_callee (f := 60) rfl ?_); refine goesL_ (some 27) rfl rfl Try.func60 (by kernel_rfl) rfl #[.agg #[.int .u8 kd, .int .i64 sz, .int .i64 ev]] rfl (by (try simp only [List.map_toArray, List.map_cons, List.map_nil]); first | done | rfl) ?_; (with_reducible refine (panes_sliding.calls 2 kd sz ev 0 _ HSL.out).mono ?_); rintro e w5 ⟨rfl, hb⟩; refine ⟨_, rfl, ?_⟩; have n1_ := Aside0.mk (below_step (below_alloc HB.out _) hb); clear HB hb; have HB := n1_; clear n1_)
  go_ret2
  exact ⟨rfl, HB.out⟩
theorem panes_Values.calls (kd sz ev : Int) (A1 : Option Addr) (c1 : Nat) (l1 : List S26) (r1 : List S39) (r2 : Int) (w : World) (hr1 : Kd.C k26 w A1 l1.length l1) (hc1 : l1.length ≤ c1) (h : panes_Values.f kd sz ev l1 = some (r1, r2)) :
    Calls Try.prog 33 #[.agg #[.int .u8 kd, .int .i64 sz, .int .i64 ev], .slice A1 l1.length c1] w fun e w' => ∃ v0_ : Value, e = .returned (.tuple #[v0_, .int .i64 r2]) ∧ Kd.R k39 39 w' w.heap.size (fun _ => True) v0_ r1 ∧ Below w.heap.size w w' := by
  unfold panes_Values.f at h
  split at h
  · rename_i hs
    split at h
    · rename_i hl
      split at h
      · rename_i hk
        have hw := values_walk kd sz ev _ hs rfl A1 c1 l1 w hr1 hc1 hl (List.all_eq_true.1 hk)
        cases hv : valOut sz ev l1 with
        | none =>
          rw [hv] at h hw
          simp only [Option.some.injEq, Prod.mk.injEq] at h
          obtain ⟨rfl, rfl⟩ := h
          refine hw.mono ?_
          rintro e w' ⟨rfl, hb⟩
          exact ⟨_, rfl, Kd.R_nil _ _ _ _ _, hb⟩
        | some out =>
          rw [hv] at h hw
          simp only [Option.some.injEq, Prod.mk.injEq] at h
          obtain ⟨rfl, rfl⟩ := h
          refine hw.mono ?_
          rintro e w' ⟨v, rfl, hR, hb⟩
          exact ⟨_, rfl, hR, hb⟩
      · cases h
    · rename_i hl
      simp only [Option.some.injEq, Prod.mk.injEq] at h
      obtain ⟨rfl, rfl⟩ := h
      refine (values_many kd sz ev hs A1 c1 l1.length (by omega) w).mono ?_
      rintro e w' ⟨rfl, hb⟩
      exact ⟨_, rfl, Kd.R_nil _ _ _ _ _, hb⟩
  · rename_i hs
    simp only [Option.some.injEq, Prod.mk.injEq] at h
    obtain ⟨rfl, rfl⟩ := h
    refine (values_err kd sz ev _ rfl hs A1 c1 l1.length w).mono ?_
    rintro e w' ⟨rfl, hb⟩
    exact ⟨_, rfl, Kd.R_nil _ _ _ _ _, hb⟩
end Go.Proofs.Ytepgpbbeeiebkaa.St
