/- What panes.Parts hands back, in closed words, and the references that ask whether windows are right; conditions: as each theorem says. -/
import Derived.Test.YtepgpbbeeiebkaaPuC
import Derived.Test.YtepgpbbeeiebkaaStx13
import Derived.Test.YtepgpbbeeiebkaaStx17
namespace Go.Proofs.Ytepgpbbeeiebkaa.St
open Go.RowKit Go.Proofs.YtepgpbbeeiebkaaW.PrintWords Go.Proofs.YtepgpbbeeiebkaaW.PrintMore Go.Proofs.YtepgpbbeeiebkaaPv
set_option linter.unusedVariables false

theorem fits_ok (kd sz ev : Int) {k : Nat} (hk : 1 ≤ k) : tailwaterref08_Fits.f k kd sz ev = some (winE kd sz ev == 0) := by
  obtain ⟨q, rfl⟩ : ∃ q, k = q + 1 := ⟨k - 1, by omega⟩
  unfold tailwaterref08_Fits.f winE
  by_cases c1 : sz < 1
  · rw [if_pos c1, if_pos c1, tailwaterref08_Fits.j0, if_pos rfl]
    rfl
  · rw [if_neg c1, if_neg c1, tailwaterref08_Fits.j0]
    by_cases c2 : 1073741824 < sz
    · rw [if_pos (decide_eq_true c2), if_pos c2]
      rfl
    · rw [if_neg (by simpa using c2), if_neg c2]
      by_cases c3 : kd = 2
      · rw [if_pos c3, if_pos c3]
        by_cases c4 : ev ≥ 1
        · rw [if_pos c4]
          by_cases c5 : ev ≤ sz
          · rw [if_pos c5, wrap_id (by omega) (by omega)]
            by_cases c6 : sz ≤ 16 * ev
            · rw [if_pos ⟨c4, c5, c6⟩, decide_eq_true c6]
              rfl
            · rw [if_neg (fun h => c6 h.2.2), decide_eq_false c6]
              rfl
          · rw [if_neg c5, if_neg (fun h => c5 h.2.1)]
            rfl
        · rw [if_neg c4, if_neg (fun h => c4 h.1)]
          rfl
      · rw [if_neg c3, if_neg c3]
        by_cases c4 : kd = 1
        · rw [if_pos c4, if_pos (Or.inl c4)]
          by_cases c6 : ev = 0 <;> simp [c6]
        · rw [if_neg c4]
          by_cases c5 : kd = 3
          · rw [if_pos c5, if_pos (Or.inr c5)]
            by_cases c6 : ev = 0 <;> simp [c6]
          · rw [if_neg c5, if_neg (by omega)]
            rfl
theorem winE_cases (kd sz ev : Int) : winE kd sz ev = 0 ∨ winE kd sz ev = 8 := by
  unfold winE
  repeat' split
  all_goals simp
theorem refWindow_ok (kd sz ev : Int) {k : Nat} (hk : 1 ≤ k) : tailwaterref08_Window.f k kd sz ev = some (winE kd sz ev) := by
  unfold tailwaterref08_Window.f
  rw [fits_ok kd sz ev hk, Option.bind_some]
  rcases winE_cases kd sz ev with h | h <;> rw [h] <;> rfl
theorem asked_ok (kd sz ev : Int) {k : Nat} (hk : 1 ≤ k) : tailwaterref19_Asked.f k kd sz ev = some (slidE kd sz ev) := by
  unfold tailwaterref19_Asked.f slidE
  rw [refWindow_ok kd sz ev hk, Option.bind_some]
  split
  · split <;> rfl
  · rfl
theorem timeCheck_ok (t : Int) {k : Nat} (hk : 1 ≤ k) : tailwaterref13_Check.f k t 1 = some (if timeOk t = true then 0 else 16) := by
  obtain ⟨q, rfl⟩ : ∃ q, k = q + 1 := ⟨k - 1, by omega⟩
  unfold tailwaterref13_Check.f
  rw [if_neg (by omega), tailwaterref13_Check.j0, if_neg (by decide)]
  by_cases a : t < -1099511627776
  · rw [if_pos a, if_neg (by simp only [timeOk, Bool.and_eq_true, decide_eq_true_eq]; omega)]
  · rw [if_neg a]
    by_cases b : t > 1099511627776
    · rw [if_pos b, if_neg (by simp only [timeOk, Bool.and_eq_true, decide_eq_true_eq]; omega)]
    · rw [if_neg b, if_pos (by simp only [timeOk, Bool.and_eq_true, decide_eq_true_eq]; omega)]
theorem rd34_at (l : List S34) (j : Nat) (hj : j < l.length) : rd_T34 l (j : Int) = l[j] := by simp [rd_T34, hj]
theorem wrap_succ' (j : Nat) (hj : j < 100000) : wrap64 ((j : Int) + 1) = ((j + 1 : Nat) : Int) := by rw [wrap_id (by omega) (by omega)]; omega
/-- slices.Index of spans. -/
theorem index_ok (l : List S34) (hl : l.length < 100000) (a b : Int) (m : Nat) : ∀ (d i : Nat), i + d = l.length →
    ∃ r : Int, api_Span_91.l0 (d + 1 + m) l (l.length : Int) (i : Int) a b = some r ∧ (0 ≤ r ↔ (⟨a, b⟩ : S34) ∈ l.drop i) := by
  intro d
  induction d with
  | zero =>
    intro i hi
    refine ⟨-1, ?_, ?_⟩
    · rw [show 0 + 1 + m = m + 1 by omega, api_Span_91.l0, if_neg (by omega)]
    · rw [List.drop_eq_nil_of_le (by omega)]
      simp
  | succ d ih =>
    intro i hi
    have hlt : i < l.length := by omega
    have e : l.drop i = l[i] :: l.drop (i + 1) := List.drop_eq_getElem_cons hlt
    rw [show d + 1 + 1 + m = (d + 1 + m) + 1 by omega, api_Span_91.l0, if_pos (by omega), if_pos (by omega), if_pos (by omega), rd34_at l i hlt]
    by_cases c : (a == l[i].f0 && b == l[i].f1) = true
    · refine ⟨(i : Int), by rw [if_pos c], ?_⟩
      simp only [Bool.and_eq_true, beq_iff_eq] at c
      rw [e]
      refine ⟨fun _ => ?_, fun _ => by omega⟩
      have : (⟨a, b⟩ : S34) = l[i] := by rw [c.1, c.2]
      rw [this]
      exact List.mem_cons_self
    · rw [if_neg c, wrap_succ' i (by omega)]
      obtain ⟨r, h1, h2⟩ := ih (i + 1) (by omega)
      refine ⟨r, h1, h2.trans ?_⟩
      rw [e]
      refine ⟨fun h => List.mem_cons_of_mem _ h, fun h => ?_⟩
      rcases List.mem_cons.1 h with h | h
      · exfalso
        apply c
        rw [← h]
        simp
      · exact h
theorem contains_ok (l : List S34) (hl : l.length < 100000) (a b : Int) {k : Nat} (hk : l.length + 1 ≤ k) : ∃ r, api_Span_67.f k l a b = some r ∧ (r = true ↔ (⟨a, b⟩ : S34) ∈ l) := by
  obtain ⟨r, h1, h2⟩ := index_ok l hl a b (k - (l.length + 1)) l.length 0 (by omega)
  rw [show l.length + 1 + (k - (l.length + 1)) = k by omega] at h1
  unfold api_Span_67.f api_Span_91.f
  refine ⟨decide (r ≥ 0), ?_, ?_⟩
  · have e : api_Span_91.l0 k l (l.length : Int) 0 a b = some r := h1
    rw [e]
    rfl
  · rw [decide_eq_true_eq, ← List.drop_zero (l := l)]
    exact h2
theorem spansAt_length (sz ev t : Int) : (spansAt sz ev t).length = winN sz ev t := by unfold spansAt; rw [List.length_map, winsAt_length]
theorem mem_spansAt {sz ev : Int} (h1 : 1 ≤ ev) (h2 : ev ≤ sz) (t a b : Int) : (⟨a, b⟩ : S34) ∈ spansAt sz ev t ↔ (a % ev = 0 ∧ a ≤ t ∧ t < a + sz) ∧ b = a + sz := by
  unfold spansAt
  rw [List.mem_map]
  constructor
  · rintro ⟨s, hs, e⟩
    injection e with e1 e2
    subst e1
    exact ⟨(mem_winsAt h1 h2 t s).1 hs, e2.symm⟩
  · rintro ⟨h, rfl⟩
    exact ⟨a, (mem_winsAt h1 h2 t a).2 h, rfl⟩
/-- The panes of a window: how many, from where, of which size. -/
def partsL (s d : Int) (n : Nat) : List S34 := (List.range n).map fun i : Nat => ⟨s + (i : Int) * d, s + (i : Int) * d + d⟩
theorem partsL_length (s d : Int) (n : Nat) : (partsL s d n).length = n := by simp [partsL]
theorem partsL_succ (s d : Int) (n : Nat) : partsL s d (n + 1) = partsL s d n ++ [⟨s + (n : Int) * d, s + (n : Int) * d + d⟩] := by simp [partsL, List.range_succ]
theorem partsL_at (s d : Int) (n j : Nat) (hj : j < n) : rd_T34 (partsL s d n) (j : Int) = ⟨s + (j : Int) * d, s + (j : Int) * d + d⟩ := by
  rw [rd34_at _ _ (by rw [partsL_length]; exact hj)]
  simp [partsL]
theorem parts_l0 {s d sz : Int} {n : Nat} (hd : 1 ≤ d) (hn : (n : Int) * d = sz) (h1 : -1099511627776 ≤ s) (h2 : s ≤ 1099511627776) (h3 : sz ≤ 1073741824) (m : Nat) : ∀ (q j : Nat), j + q = n → panes_Parts.l0 (q + 1 + m) d (partsL s d j) (s + (j : Int) * d) s (s + sz) = some (partsL s d n, 0) := by
  intro q
  induction q with
  | zero =>
    intro j hj
    obtain rfl : j = n := by omega
    rw [show 0 + 1 + m = m + 1 by omega, panes_Parts.l0, if_neg (by omega)]
  | succ q ih =>
    intro j hj
    have e0 : ((j + 1 : Nat) : Int) * d = (j : Int) * d + d := by rw [show ((j + 1 : Nat) : Int) = (j : Int) + 1 by omega, Int.add_mul, Int.one_mul]
    have e1 : ((j + 1 : Nat) : Int) * d ≤ (n : Int) * d := Int.mul_le_mul_of_nonneg_right (by omega) (by omega)
    have e2 : 0 ≤ (j : Int) * d := Int.mul_nonneg (by omega) (by omega)
    have hn2 : (n : Int) ≤ sz := by
      have := Int.mul_le_mul_of_nonneg_left hd (show (0 : Int) ≤ n by omega)
      omega
    rw [show q + 1 + 1 + m = (q + 1 + m) + 1 by omega, panes_Parts.l0, if_pos (by omega), if_pos (by rw [partsL_length]; omega), wrap_id (by omega) (by omega), ← partsL_succ, show s + (j : Int) * d + d = s + ((j + 1 : Nat) : Int) * d by omega]
    exact ih (j + 1) (by omega)
/-- How many panes a window has. -/
def partN (sz ev : Int) : Nat := (sz / gcdI sz ev).toNat
theorem partN_mul {sz ev : Int} (h : sizesOk sz ev = true) : ((partN sz ev : Nat) : Int) * gcdI sz ev = sz ∧ sz / gcdI sz ev = ((partN sz ev : Nat) : Int) := by
  simp only [sizesOk, Bool.and_eq_true, decide_eq_true_eq] at h
  obtain ⟨g1, g2, g3, g4⟩ := gcdI_spec (a := sz) (b := ev) (by omega) (by omega)
  have h0 : 0 ≤ sz / gcdI sz ev := Int.ediv_nonneg (by omega) (by omega)
  have e : ((partN sz ev : Nat) : Int) = sz / gcdI sz ev := Int.toNat_of_nonneg h0
  refine ⟨?_, e.symm⟩
  rw [e, Int.mul_comm]
  exact Int.mul_ediv_cancel' (Int.dvd_of_emod_eq_zero g3)
theorem quo_ok {sz ev : Int} (h : sizesOk sz ev = true) : wrap64 (Int.tdiv sz (gcdI sz ev)) = ((partN sz ev : Nat) : Int) := by
  have hq := (partN_mul h).2
  simp only [sizesOk, Bool.and_eq_true, decide_eq_true_eq] at h
  obtain ⟨g1, g2, g3, g4⟩ := gcdI_spec (a := sz) (b := ev) (by omega) (by omega)
  have hb := ediv_bound (M := 1073741824) g1 (by omega) (show -1073741824 ≤ sz by omega) (show sz ≤ 1073741824 by omega)
  rw [Int.tdiv_eq_ediv_of_nonneg (by omega), wrap_id (by omega) (by omega), hq]
/-- panes.Parts of a span, where the windows are right ones. -/
def partsOut (sz ev a b : Int) : List S34 × Int :=
  if timeOk a = true ∧ a % ev = 0 ∧ b = a + sz then (if 4000 < partN sz ev then ([], 4) else (partsL a (gcdI sz ev) (partN sz ev), 0)) else ([], 2)
theorem parts_ok {kd sz ev : Int} (h : slidE kd sz ev = 0) (a b : Int) {k : Nat} (hk : ev.toNat + 4100 ≤ k) : panes_Parts.f k kd sz ev a b = some (partsOut sz ev a b) := by
  obtain ⟨h1, h2, h3⟩ := slidE_zero h
  have hs := h3
  simp only [sizesOk, Bool.and_eq_true, decide_eq_true_eq] at hs
  obtain ⟨g1, g2, g3, g4⟩ := gcdI_spec (a := sz) (b := ev) (by omega) (by omega)
  obtain ⟨q, rfl⟩ : ∃ q, k = q + 1 := ⟨k - 1, by omega⟩
  have hbad : panes_Parts.j0 (q + 1) true kd sz ev a b = some ([], 2) := by rw [panes_Parts.j0, if_pos rfl]
  unfold panes_Parts.f partsOut
  rw [sliding_ok kd sz ev (by omega), h, Option.bind_some, if_pos rfl]
  cases ht : timeOk a with
  | false =>
    have hso : slide_Of.f (q + 1) kd sz ev a = some ([], 16) := by
      unfold slide_Of.f
      rw [window_ok kd sz ev (by omega), h2, Option.bind_some, if_pos rfl, if_neg (by omega), if_pos h1, slide_bad_time h3 ht (by omega)]
      rfl
    rw [hso, Option.bind_some, if_neg (by decide), hbad, if_neg (by simp)]
  | true =>
    rw [slideOf_ok h ht (by omega), Option.bind_some, if_pos rfl]
    have hw : winN sz ev a ≤ 16 := winN_le (by omega) (by omega) (by omega) a
    obtain ⟨r, hr, hr2⟩ := contains_ok (spansAt sz ev a) (by rw [spansAt_length]; omega) a b (k := q + 1) (by rw [spansAt_length]; omega)
    rw [hr, Option.bind_some]
    rw [mem_spansAt (by omega) (by omega)] at hr2
    by_cases c : a % ev = 0 ∧ b = a + sz
    · have hrt : r = true := hr2.2 ⟨⟨c.1, by omega, by omega⟩, c.2⟩
      rw [hrt, if_pos ⟨rfl, c.1, c.2⟩, show (!true) = false by rfl, panes_Parts.j0, if_neg (by decide), divisor_ok (by omega) (by omega) (by omega), Option.bind_some, if_neg (by omega), quo_ok h3]
      by_cases c4 : 4000 < partN sz ev
      · rw [if_pos (by omega), if_pos c4]
      · rw [if_neg (by omega), if_neg c4]
        simp only [timeOk, Bool.and_eq_true, decide_eq_true_eq] at ht
        have hp := parts_l0 (s := a) (d := gcdI sz ev) (sz := sz) (n := partN sz ev) g1 (partN_mul h3).1 ht.1 ht.2 (by omega) (q - (partN sz ev + 1)) (partN sz ev) 0 (by omega)
        rw [show partN sz ev + 1 + (q - (partN sz ev + 1)) = q by omega] at hp
        simp only [Int.natCast_zero, Int.zero_mul, Int.add_zero] at hp
        rw [c.2]
        exact hp
    · have hrf : r = false := by
        cases r with
        | false => rfl
        | true => exact absurd ⟨(hr2.1 rfl).1.1, (hr2.1 rfl).2⟩ c
      rw [hrf, show (!false) = true by rfl, hbad, if_neg (fun hh => c hh.2)]
end Go.Proofs.Ytepgpbbeeiebkaa.St
