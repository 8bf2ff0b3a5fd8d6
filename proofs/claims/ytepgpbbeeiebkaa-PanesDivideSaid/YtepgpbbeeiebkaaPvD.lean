/- What slide.All and slide.Of hand back, in closed words; conditions: as each theorem says. -/
import Derived.Test.YtepgpbbeeiebkaaPvC
import Derived.Test.YtepgpbbeeiebkaaStx12
namespace Go.Proofs.Ytepgpbbeeiebkaa.St
open Go.RowKit Go.Proofs.YtepgpbbeeiebkaaW.PrintWords Go.Proofs.YtepgpbbeeiebkaaW.PrintMore Go.Proofs.YtepgpbbeeiebkaaPv
set_option linter.unusedVariables false

theorem slide_l0 {t sz ev : Int} (h1 : 1 ≤ ev) (h2 : ev ≤ sz) (h3 : sz ≤ 16 * ev) (h4 : sz ≤ 1073741824) (h5 : -1099511627776 ≤ t) (h6 : t ≤ 1099511627776) (k : Nat) :
    ∀ (d j : Nat), j + d = winN sz ev t → slide_AllB.l0 (d + 1 + k) t sz ev ((List.range j).map fun i : Nat => (⟨t - t % ev - (i : Int) * ev, t - t % ev - (i : Int) * ev + sz⟩ : S34)) (t - t % ev - (j : Int) * ev) = some ((List.range (winN sz ev t)).map fun i : Nat => (⟨t - t % ev - (i : Int) * ev, t - t % ev - (i : Int) * ev + sz⟩ : S34), 0) := by
  have hn := winN_le h1 h2 h3 t
  have hp := winN_pos h1 h2 t
  have m1 := Int.emod_nonneg t (show ev ≠ 0 by omega)
  have m2 := Int.emod_lt_of_pos t (show 0 < ev by omega)
  have hlow : ∀ j : Nat, j ≤ winN sz ev t → t - sz - ev ≤ t - t % ev - (j : Int) * ev ∧ 0 ≤ (j : Int) * ev := by
    intro j hj
    refine ⟨?_, Int.mul_nonneg (by omega) (by omega)⟩
    rcases Nat.eq_zero_or_pos j with h0 | h0
    · subst h0
      simp
      omega
    · have h7 := (winN_spec h1 h2 t (j - 1)).1 (by omega)
      have e : (j : Int) * ev = ((j - 1 : Nat) : Int) * ev + ev := by
        rw [show (j : Int) = ((j - 1 : Nat) : Int) + 1 by omega, Int.add_mul, Int.one_mul]
      omega
  intro d
  induction d with
  | zero =>
    intro j hj
    have hl := hlow j (by omega)
    have hs := winN_spec h1 h2 t j
    rw [show 0 + 1 + k = k + 1 by omega, slide_AllB.l0, wrap_id (by omega) (by omega), if_neg (by omega), show j = winN sz ev t by omega]
  | succ d ih =>
    intro j hj
    have hl := hlow j (by omega)
    have hs := (winN_spec h1 h2 t j).1 (by omega)
    have e : t - t % ev - (j : Int) * ev - ev = t - t % ev - ((j + 1 : Nat) : Int) * ev := by
      rw [show ((j + 1 : Nat) : Int) = (j : Int) + 1 by omega, Int.add_mul, Int.one_mul]
      omega
    rw [show d + 1 + 1 + k = (d + 1 + k) + 1 by omega, slide_AllB.l0, wrap_id (by omega) (by omega), if_pos (by omega), if_pos (by simp; omega), wrap_id (x := t - t % ev - (j : Int) * ev - ev) (by omega) (by omega), e]
    have h9 := ih (j + 1) (by omega)
    rw [List.range_succ, List.map_append] at h9
    exact h9
/-- The sizes are right. -/
def sizesOk (sz ev : Int) : Bool := decide (1 ≤ sz) && decide (1 ≤ ev) && decide (sz ≤ 1073741824) && decide (ev ≤ sz) && decide (sz ≤ 16 * ev)
/-- Is a number a time? -/
def timeOk (t : Int) : Bool := decide (-1099511627776 ≤ t) && decide (t ≤ 1099511627776)
def spansAt (sz ev t : Int) : List S34 := (winsAt sz ev t).map fun s => ⟨s, s + sz⟩
theorem slide_ok {t sz ev : Int} (hs : sizesOk sz ev = true) (ht : timeOk t = true) {k : Nat} (hk : 18 ≤ k) : slide_All.f k t sz ev = some (spansAt sz ev t, 0) := by
  simp only [sizesOk, timeOk, Bool.and_eq_true, decide_eq_true_eq] at hs ht
  obtain ⟨⟨⟨⟨h0, h1⟩, h4⟩, h2⟩, h3⟩ := hs
  obtain ⟨h5, h6⟩ := ht
  have hm : ¬ mn sz ev < 1 := by rw [min_mn]; omega
  have hn := winN_le h1 h2 h3 t
  unfold slide_All.f slide_AllB.f
  rw [if_neg hm, if_neg (by omega), if_neg (by omega), wrap_id (by omega) (by omega), decide_eq_false (by omega)]
  obtain ⟨q, rfl⟩ : ∃ q, k = q + 2 := ⟨k - 2, by omega⟩
  rw [show q + 2 = (q + 1) + 1 by omega, slide_AllB.j0, if_neg (by decide), tumble_ok q t ev h1 (by omega) h5 h6, Option.bind_some, if_pos rfl]
  have h := slide_l0 h1 h2 h3 h4 h5 h6 (q - winN sz ev t) (winN sz ev t) 0 (by omega)
  rw [show winN sz ev t + 1 + (q - winN sz ev t) = q + 1 by omega] at h
  simp only [List.range_zero, List.map_nil, Int.natCast_zero, Int.zero_mul, Int.sub_zero] at h
  show Option.map _ (slide_AllB.l0 (q + 1) t sz ev [] (t - t % ev)) = _
  rw [h]
  simp only [Option.map_some, spansAt, winsAt, List.map_map, List.map_reverse]
  rfl
theorem slide_bad_time {t sz ev : Int} (hs : sizesOk sz ev = true) (ht : timeOk t = false) {k : Nat} (hk : 18 ≤ k) : slide_All.f k t sz ev = some ([], 16) := by
  simp only [sizesOk, Bool.and_eq_true, decide_eq_true_eq] at hs
  obtain ⟨⟨⟨⟨h0, h1⟩, h4⟩, h2⟩, h3⟩ := hs
  have ht' : t < -1099511627776 ∨ 1099511627776 < t := by
    simp only [timeOk, Bool.and_eq_false_iff, decide_eq_false_iff_not] at ht
    omega
  have hm : ¬ mn sz ev < 1 := by rw [min_mn]; omega
  unfold slide_All.f slide_AllB.f
  rw [if_neg hm, if_neg (by omega), if_neg (by omega), wrap_id (by omega) (by omega), decide_eq_false (by omega)]
  obtain ⟨q, rfl⟩ : ∃ q, k = q + 2 := ⟨k - 2, by omega⟩
  rw [show q + 2 = (q + 1) + 1 by omega, slide_AllB.j0, if_neg (by decide), tumble_bad_time q t ev h1 (by omega) ht']
  rfl
theorem slide_bad_size {t sz ev : Int} (hs : sizesOk sz ev = false) {k : Nat} (hk : 18 ≤ k) : slide_All.f k t sz ev = some ([], 2) := by
  obtain ⟨q, rfl⟩ : ∃ q, k = q + 2 := ⟨k - 2, by omega⟩
  have hj : slide_AllB.j0 (q + 2) t sz ev true = some ([], 2) := by rw [show q + 2 = (q + 1) + 1 by omega, slide_AllB.j0, if_pos rfl]
  unfold slide_All.f slide_AllB.f
  simp only [hj]
  by_cases c1 : mn sz ev < 1
  · rw [if_pos c1]; rfl
  · rw [if_neg c1]
    by_cases c2 : sz > 1073741824
    · rw [if_pos c2]; rfl
    · rw [if_neg c2]
      by_cases c3 : ev > sz
      · rw [if_pos c3]; rfl
      · rw [if_neg c3]
        rw [min_mn] at c1
        have c4 : sz > wrap64 (16 * ev) := by
          rw [wrap_id (by omega) (by omega)]
          have : ¬ (sz ≤ 16 * ev) := fun h => by
            have : sizesOk sz ev = true := by
              simp only [sizesOk, Bool.and_eq_true, decide_eq_true_eq]
              omega
            rw [hs] at this
            cases this
          omega
        rw [decide_eq_true c4, hj]
        rfl
/-- What clauses.Window says of a window. -/
def winE (kd sz ev : Int) : Int := if sz < 1 then 8 else if 1073741824 < sz then 8 else if kd = 2 then (if 1 ≤ ev ∧ ev ≤ sz ∧ sz ≤ 16 * ev then 0 else 8) else if kd = 1 ∨ kd = 3 then (if ev = 0 then 0 else 8) else 8
theorem window_ok (kd sz ev : Int) {k : Nat} (hk : 2 ≤ k) : clauses_Window.f k kd sz ev = some (winE kd sz ev) := by
  obtain ⟨q, rfl⟩ : ∃ q, k = q + 2 := ⟨k - 2, by omega⟩
  unfold clauses_Window.f winE
  have hj0 : ∀ b, clauses_Window.j1 (q + 1) b = some (if b = true then 0 else 8) := fun b => by
    rw [clauses_Window.j1]
    cases b <;> rfl
  by_cases c1 : sz < 1
  · rw [if_pos c1, if_pos c1, show q + 2 = (q + 1) + 1 by omega, clauses_Window.j0, if_pos rfl]
  · rw [if_neg c1, if_neg c1, show q + 2 = (q + 1) + 1 by omega, clauses_Window.j0]
    by_cases c2 : 1073741824 < sz
    · rw [if_pos (decide_eq_true c2), if_pos c2]
    · rw [if_neg (by simpa using c2), if_neg c2]
      by_cases c3 : kd = 2
      · rw [if_pos c3, if_pos c3]
        by_cases c4 : ev ≥ 1
        · rw [if_pos c4]
          by_cases c5 : ev ≤ sz
          · rw [if_pos c5, hj0, wrap_id (by omega) (by omega)]
            by_cases c6 : sz ≤ 16 * ev
            · rw [if_pos (decide_eq_true c6), if_pos ⟨c4, c5, c6⟩]
            · rw [if_neg (by simpa using c6), if_neg (fun h => c6 h.2.2)]
          · rw [if_neg c5, hj0, if_neg (by decide), if_neg (fun h => c5 h.2.1)]
        · rw [if_neg c4, hj0, if_neg (by decide), if_neg (fun h => c4 h.1)]
      · rw [if_neg c3, if_neg c3]
        by_cases c6 : ev = 0
        · simp only [if_pos c6]
          by_cases c4 : kd = 1
          · rw [if_pos c4, if_pos (Or.inl c4)]
          · rw [if_neg c4]
            by_cases c5 : kd = 3
            · rw [if_pos c5, if_pos (Or.inr c5)]
            · rw [if_neg c5, if_neg (by omega)]
        · simp only [if_neg c6, ite_self]
/-- What panes.sliding says of a window. -/
def slidE (kd sz ev : Int) : Int := if winE kd sz ev = 0 then (if kd = 2 then 0 else 2) else winE kd sz ev
theorem sliding_ok (kd sz ev : Int) {k : Nat} (hk : 2 ≤ k) : panes_sliding.f k kd sz ev = some (slidE kd sz ev) := by
  unfold panes_sliding.f slidE
  rw [window_ok kd sz ev hk, Option.bind_some]
  split
  · split <;> rfl
  · rfl
theorem slidE_zero {kd sz ev : Int} (h : slidE kd sz ev = 0) : kd = 2 ∧ winE kd sz ev = 0 ∧ sizesOk sz ev = true := by
  unfold slidE at h
  split at h
  · rename_i hw
    split at h
    · rename_i hk
      refine ⟨hk, hw, ?_⟩
      unfold winE at hw
      simp only [sizesOk, Bool.and_eq_true, decide_eq_true_eq]
      rw [if_pos hk] at hw
      split at hw
      · cases hw
      · split at hw
        · cases hw
        · split at hw
          · omega
          · cases hw
    · cases h
  · rename_i hw
    exact absurd h hw
theorem slideOf_ok {kd sz ev t : Int} (h : slidE kd sz ev = 0) (ht : timeOk t = true) {k : Nat} (hk : 18 ≤ k) : slide_Of.f k kd sz ev t = some (spansAt sz ev t, 0) := by
  obtain ⟨h1, h2, h3⟩ := slidE_zero h
  unfold slide_Of.f
  rw [window_ok kd sz ev (by omega), h2, Option.bind_some, if_pos rfl, if_neg (by omega), if_pos h1, slide_ok h3 ht hk]
  rfl
end Go.Proofs.Ytepgpbbeeiebkaa.St
