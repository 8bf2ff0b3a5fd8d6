/- What the sessions of times are: each time in one, that begins with a time and ends with one and the gap; conditions: times in their range, a gap. -/
import Derived.Test.YtbeldjhpbomonaaSeE
namespace Go.Proofs.Ytbeldjhpbomonaa.Se
open Go.RowKit Go.Proofs.YtbeldjhpbomonaaW.PrintWords Go.Proofs.YtbeldjhpbomonaaW.PrintLast Go.Proofs.YtbeldjhpbomonaaW.PrintMore
set_option linter.unusedVariables false

theorem of_mem {xs : List Int} {g : Int} (hg : okGap g) : ∀ s ∈ ofL xs g, (∃ t ∈ xs, t = s.f0) ∧ ∃ t ∈ xs, t + g = s.f1 := by
  intro s hs
  rw [← merge_alone hg] at hs
  obtain ⟨⟨x, hx, e⟩, y, hy, e2⟩ := (mergeS_inv (alone_pos (times := xs) hg)).2.2.2.2 s hs
  obtain ⟨t, ht, rfl⟩ := List.mem_map.1 hx
  obtain ⟨u, hu, rfl⟩ := List.mem_map.1 hy
  exact ⟨⟨t, ht, e⟩, u, hu, e2⟩
theorem of_cov' {xs : List Int} {g : Int} (hg : okGap g) (q : Int) : Cov (ofL xs g) q ↔ ∃ t ∈ xs, 2 * t < q ∧ q < 2 * (t + g) := by
  rw [of_cov hg]
  unfold Cov
  constructor
  · rintro ⟨s, hs, h⟩
    obtain ⟨t, ht, rfl⟩ := List.mem_map.1 hs
    exact ⟨t, ht, h⟩
  · rintro ⟨t, ht, h⟩
    exact ⟨alone g t, List.mem_map.2 ⟨t, ht, rfl⟩, h⟩
theorem of_right {xs : List Int} {g : Int} (hg : okGap g) (ht : ∀ t ∈ xs, okTime t) (hl : xs.length ≤ 4000) : RightP (ofL xs g) := by
  refine ⟨Nat.le_trans (of_len hg) hl, fun s hs => ?_, of_ord hg⟩
  obtain ⟨⟨t, h1, e1⟩, u, h2, e2⟩ := of_mem hg s hs
  have h3 := ht t h1
  have h4 := ht u h2
  have h5 := of_pos hg s hs
  unfold okTime at h3 h4
  unfold okGap at hg
  unfold okSpan
  omega

theorem few_ev (xs : List Int) (g : Int) : ∃ r, Ev (fun k => tailwaterlaw15_few.f k xs g) r ∧ (r = true → xs.length ≤ 60 ∧ okGap g ∧ ∀ t ∈ xs, okTime t) := by
  obtain ⟨r, h1, h2⟩ := few_f xs g 131 (by omega)
  exact ⟨r, Ev.of (fun k => tailwaterlaw15_few.mono _ _ k) h1, h2⟩
theorem alive_ev : Ev (fun k => tailwaterlaw15_alive.f k) true := ⟨21, fun k hk => alive_f k (by omega)⟩
theorem of_ev {xs : List Int} {g : Int} (hg : okGap g) (ht : ∀ t ∈ xs, okTime t) (hl : xs.length ≤ 60) : Ev (fun k => session_Of.f k xs g) (ofL xs g, 0) := by
  refine ⟨1000, fun k hk => ?_⟩
  show session_Of.f k xs g = _
  rw [of_f xs g (by omega) k (by omega), if_pos hg, if_pos (by omega), if_pos ht]
theorem wraps {xs : List Int} {g : Int} (hg : okGap g) (ht : ∀ t ∈ xs, okTime t) : ∀ t ∈ xs, wrap64 (t + g) = t + g := fun t h => by
  have := ht t h
  unfold okTime at this
  unfold okGap at hg
  exact wrap_small _ (by omega) (by omega)

open Classical in
theorem refright_ev {l : List S35} (hr : RightP l) : Ev (fun k => tailwaterref15_Right.f k l) true := ⟨5000, fun k hk => by
  have := hr.1
  show tailwaterref15_Right.f k l = _
  rw [refright_f _ (by omega) k (by omega), decide_eq_true hr]⟩

end Go.Proofs.Ytbeldjhpbomonaa.Se
