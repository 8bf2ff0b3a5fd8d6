/- PanesParts' plain statement: panes follow each other from the start of each window of a time to its end; no condition but that the numbers are Go's. -/
import Derived.Test.YtepgpbbeeiebkaaStx18
import Derived.Test.YtepgpbbeeiebkaaPvP
import Derived.Test.YtepgpbbeeiebkaaPvS
namespace Go.Proofs.Ytepgpbbeeiebkaa.Pure
open Go.RowKit Go.Proofs.Ytepgpbbeeiebkaa.St Go.Proofs.YtepgpbbeeiebkaaPv Go.Proofs.YtepgpbbeeiebkaaW.PrintWords Go.Proofs.YtepgpbbeeiebkaaW.PrintLast
set_option linter.unusedVariables false

theorem panesParts_l1 (kd sz ev s d : Int) (n : Nat) (SP : List S34) (i : Nat) (hi : i < SP.length) (hil : i < 100000) (hsp : SP[i].f1 = s + sz) (hd : 1 ≤ d) (hn : (n : Int) * d = sz) (hn4 : n ≤ 4000) (h1 : -1099511627776 ≤ s) (h2 : s ≤ 1099511627776) (h3 : sz ≤ 1073741824) (m : Nat) :
    ∀ (q j : Nat), j + q = n → tailwaterlaw19_PanesParts.l1 (q + 1 + m) true d SP (i : Int) (partsL s d n) (s + (j : Int) * d) (j : Int) kd sz ev = tailwaterlaw19_PanesParts.l0 m true d SP ((i + 1 : Nat) : Int) kd sz ev := by
  intro q
  induction q with
  | zero =>
    intro j hj
    obtain rfl : j = n := by omega
    rw [show 0 + 1 + m = m + 1 by omega, tailwaterlaw19_PanesParts.l1, partsL_length, if_neg (by omega), if_pos (by omega), if_pos (by omega), rd34_at SP i hi, hsp, if_pos (by rw [hn]), wrap_succ' i hil]
  | succ q ih =>
    intro j hj
    have e0 : ((j + 1 : Nat) : Int) * d = (j : Int) * d + d := by rw [show ((j + 1 : Nat) : Int) = (j : Int) + 1 by omega, Int.add_mul, Int.one_mul]
    have e1 : ((j + 1 : Nat) : Int) * d ≤ (n : Int) * d := Int.mul_le_mul_of_nonneg_right (by omega) (by omega)
    have e2 : 0 ≤ (j : Int) * d := Int.mul_nonneg (by omega) (by omega)
    have ew : wrap64 (s + (j : Int) * d + d) = s + ((j + 1 : Nat) : Int) * d := by rw [wrap_id (by omega) (by omega)]; omega
    rw [show q + 1 + 1 + m = (q + 1 + m) + 1 by omega, tailwaterlaw19_PanesParts.l1, partsL_length, if_pos (by omega), if_pos (by omega), partsL_at s d n j (by omega), ew, wrap_succ' j (by omega)]
    have e9 : s + (j : Int) * d + d = s + ((j + 1 : Nat) : Int) * d := by omega
    rw [if_neg (by dsimp only; rw [e9]; simp)]
    exact ih (j + 1) (by omega)
set_option maxRecDepth 100000 in
theorem panesParts_l0 {kd sz ev t : Int} (h : slidE kd sz ev = 0) : ∀ (N i : Nat), i + N = (spansAt sz ev t).length → ∀ k : Nat, N * 4003 + (ev.toNat + 4101) ≤ k →
    tailwaterlaw19_PanesParts.l0 k true (gcdI sz ev) (spansAt sz ev t) (i : Int) kd sz ev = some true := by
  obtain ⟨h1, h2, h3⟩ := slidE_zero h
  have hs := h3
  simp only [sizesOk, Bool.and_eq_true, decide_eq_true_eq] at hs
  obtain ⟨g1, g2, g3, g4⟩ := gcdI_spec (a := sz) (b := ev) (by omega) (by omega)
  have hw : (spansAt sz ev t).length ≤ 16 := by rw [spansAt_length]; exact winN_le (by omega) (by omega) (by omega) t
  intro N
  induction N with
  | zero =>
    intro i hi k hk
    obtain ⟨q, rfl⟩ : ∃ q, k = q + 1 := ⟨k - 1, by omega⟩
    rw [tailwaterlaw19_PanesParts.l0, if_neg (by omega)]
  | succ N ih =>
    intro i hi k hk
    obtain ⟨q, rfl⟩ : ∃ q, k = q + 1 := ⟨k - 1, by omega⟩
    have hlt : i < (spansAt sz ev t).length := by omega
    have hmem : (spansAt sz ev t)[i] ∈ spansAt sz ev t := List.getElem_mem hlt
    obtain ⟨s, hsd⟩ : ∃ s, (spansAt sz ev t)[i].f0 = s := ⟨_, rfl⟩
    have hx : (spansAt sz ev t)[i] = ⟨(spansAt sz ev t)[i].f0, (spansAt sz ev t)[i].f1⟩ := rfl
    rw [hx] at hmem
    obtain ⟨⟨m1, m2, m3⟩, m4⟩ := (mem_spansAt (by omega) (by omega) t _ _).1 hmem
    rw [hsd] at m1 m2 m3 m4
    have hnext : tailwaterlaw19_PanesParts.l0 q true (gcdI sz ev) (spansAt sz ev t) (wrap64 ((i : Int) + 1)) kd sz ev = some true := by
      rw [wrap_succ' i (by omega)]
      exact ih (i + 1) (by omega) q (by omega)
    rw [tailwaterlaw19_PanesParts.l0, if_pos (by omega), if_pos (by omega), rd34_at _ i hlt, hsd, m4, parts_ok h s (s + sz) (k := q) (by omega), Option.bind_some, timeCheck_ok s (k := q) (by omega), Option.bind_some]
    cases ht : timeOk s with
    | false =>
      have hp : partsOut sz ev s (s + sz) = ([], 2) := by unfold partsOut; rw [if_neg (by simp [ht])]
      rw [hp, if_neg (by simp)]
      dsimp only
      rw [if_pos rfl]
      exact hnext
    | true =>
      have hp : partsOut sz ev s (s + sz) = if 4000 < partN sz ev then ([], 4) else (partsL s (gcdI sz ev) (partN sz ev), 0) := by unfold partsOut; rw [if_pos ⟨ht, m1, rfl⟩]
      rw [hp, if_pos rfl, if_pos rfl, if_neg (by omega), quo_ok h3]
      by_cases c4 : 4000 < partN sz ev
      · rw [if_pos (by omega), if_pos c4, if_pos rfl]
        exact hnext
      · rw [if_neg (by omega), if_neg c4]
        dsimp only
        rw [if_pos rfl, partsL_length]
        obtain ⟨q2, rfl⟩ : ∃ q2, q = q2 + 1 := ⟨q - 1, by omega⟩
        rw [show (((partN sz ev : Nat) : Int) != ((partN sz ev : Nat) : Int)) = false by simp, tailwaterlaw19_PanesParts.j3, if_neg (by decide), if_pos (by omega), if_pos (by omega), rd34_at _ i hlt, hsd]
        simp only [timeOk, Bool.and_eq_true, decide_eq_true_eq] at ht
        have hl := panesParts_l1 kd sz ev s (gcdI sz ev) (partN sz ev) (spansAt sz ev t) i hlt (by omega) m4 g1 (partN_mul h3).1 (by omega) ht.1 ht.2 (by omega) (q2 - (partN sz ev + 1)) (partN sz ev) 0 (by omega)
        rw [show partN sz ev + 1 + (q2 - (partN sz ev + 1)) = q2 by omega] at hl
        simp only [Int.natCast_zero, Int.zero_mul, Int.add_zero] at hl
        rw [hl]
        exact ih (i + 1) (by omega) _ (by omega)
set_option maxRecDepth 100000 in
theorem PanesParts_fun (kd sz ev t : Int) : ∃ k, tailwaterlaw19_PanesParts.f k kd sz ev t = some true := by
  obtain ⟨k, hk⟩ : ∃ k : Nat, k = 16 * 4003 + (ev.toNat + 4105) := ⟨_, rfl⟩
  refine ⟨k, ?_⟩
  have hj : tailwaterlaw19_PanesParts.j0 k t true true kd sz ev = some true := by
    obtain ⟨q, rfl⟩ : ∃ q, k = q + 1 := ⟨k - 1, by omega⟩
    rw [tailwaterlaw19_PanesParts.j0, if_pos rfl]
  unfold tailwaterlaw19_PanesParts.f
  rw [alive_ok (by omega), Option.bind_some, asked_ok kd sz ev (by omega), Option.bind_some]
  by_cases h : slidE kd sz ev = 0
  · rw [if_pos h, timeCheck_ok t (by omega), Option.bind_some]
    cases ht : timeOk t with
    | false => rw [if_neg (by simp)]; exact hj
    | true =>
      obtain ⟨h1, h2, h3⟩ := slidE_zero h
      have hs := h3
      simp only [sizesOk, Bool.and_eq_true, decide_eq_true_eq] at hs
      obtain ⟨g1, g2, g3, g4⟩ := gcdI_spec (a := sz) (b := ev) (by omega) (by omega)
      have hw : (spansAt sz ev t).length ≤ 16 := by rw [spansAt_length]; exact winN_le (by omega) (by omega) (by omega) t
      obtain ⟨q, rfl⟩ : ∃ q, k = q + 2 := ⟨k - 2, by omega⟩
      rw [if_pos rfl, if_pos rfl, show (!true) = false by rfl, show q + 2 = (q + 1) + 1 by omega, tailwaterlaw19_PanesParts.j0, if_neg (by decide), size_ok h3 (by omega), Option.bind_some, slideOf_ok h ht (by omega), Option.bind_some, if_pos rfl, if_pos rfl, decide_eq_false (by omega), tailwaterlaw19_PanesParts.j1, if_neg (by decide)]
      exact panesParts_l0 h (spansAt sz ev t).length 0 (by omega) q (by
        have := Nat.mul_le_mul_right 4003 hw
        omega)
  · rw [if_neg h]
    exact hj
end Go.Proofs.Ytepgpbbeeiebkaa.Pure
