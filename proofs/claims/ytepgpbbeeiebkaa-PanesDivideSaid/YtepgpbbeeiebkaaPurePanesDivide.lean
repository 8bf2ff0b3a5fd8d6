/- PanesDivide's plain statement: the size of panes divides both, and what divides both divides it; no condition but that the numbers are Go's. -/
import Derived.Test.YtepgpbbeeiebkaaStx16
import Derived.Test.YtepgpbbeeiebkaaPvD
namespace Go.Proofs.Ytepgpbbeeiebkaa.Pure
open Go.RowKit Go.Proofs.Ytepgpbbeeiebkaa.St Go.Proofs.YtepgpbbeeiebkaaW.PrintWords Go.Proofs.YtepgpbbeeiebkaaW.PrintLast
set_option linter.unusedVariables false

theorem alive_ok {k : Nat} (hk : 40 ≤ k) : tailwaterlaw19_alive.f k = some true := at_rounds tailwaterlaw19_alive.mono hk tailwaterlaw19_alive.yes
theorem right_ok (a b : Int) : tailwaterref14_Right.f a b = some (sizesOk a b) := by
  unfold tailwaterref14_Right.f sizesOk
  by_cases h1 : a ≥ 1
  · rw [if_pos h1]
    by_cases h2 : b ≥ 1
    · rw [if_pos h2]
      by_cases h3 : a ≤ 1073741824
      · rw [if_pos h3]
        by_cases h4 : b ≤ a
        · rw [if_pos h4, wrap_id (by omega) (by omega)]
          simp [h3, h4, show (1 : Int) ≤ a from h1, show (1 : Int) ≤ b from h2]
        · rw [if_neg h4]
          simp [h4]
      · rw [if_neg h3]
        simp [h3]
    · rw [if_neg h2]
      simp [show ¬ (1 : Int) ≤ b from h2]
  · rw [if_neg h1]
    simp [show ¬ (1 : Int) ≤ a from h1]
theorem sizesOk_iff {a b : Int} : sizesOk a b = true ↔ 1 ≤ a ∧ 1 ≤ b ∧ a ≤ 1073741824 ∧ b ≤ a ∧ a ≤ 16 * b := by
  simp only [sizesOk, Bool.and_eq_true, decide_eq_true_eq]
  omega
theorem size_ok {a b : Int} (h : sizesOk a b = true) {k : Nat} (hk : b.toNat + 20 ≤ k) : panes_Size.f k a b = some (gcdI a b, 0) := by
  have h' := sizesOk_iff.1 h
  unfold panes_Size.f
  rw [slide_ok h (by decide) (by omega), Option.bind_some, if_pos rfl, divisor_ok (by omega) (by omega) (by omega)]
  rfl
theorem gcdI_dvd {a b n : Int} (ha : 1 ≤ a) (hb : 1 ≤ b) (hn : 1 ≤ n) (h1 : a % n = 0) (h2 : b % n = 0) : gcdI a b % n = 0 := by
  have d1 : n.toNat ∣ a.toNat := Int.natCast_dvd_natCast.1 (by rw [Int.toNat_of_nonneg (by omega), Int.toNat_of_nonneg (by omega)]; exact Int.dvd_of_emod_eq_zero h1)
  have d2 : n.toNat ∣ b.toNat := Int.natCast_dvd_natCast.1 (by rw [Int.toNat_of_nonneg (by omega), Int.toNat_of_nonneg (by omega)]; exact Int.dvd_of_emod_eq_zero h2)
  have d3 := Int.natCast_dvd_natCast.2 (Nat.dvd_gcd d2 d1)
  rw [Int.toNat_of_nonneg (by omega)] at d3
  exact Int.emod_eq_zero_of_dvd d3
theorem PanesDivide : tailwaterlaw19_PanesDivide.Pure := by
  intro a0 a1 a2 _ _ _
  obtain ⟨k, hk⟩ : ∃ k : Nat, k = a1.toNat + 60 := ⟨_, rfl⟩
  refine ⟨k + 1, ?_⟩
  unfold tailwaterlaw19_PanesDivide.f
  rw [alive_ok (by omega), Option.bind_some, right_ok, Option.bind_some]
  cases hr : sizesOk a0 a1 with
  | false =>
    rw [if_neg (by decide), tailwaterlaw19_PanesDivide.j0, if_pos rfl]
  | true =>
    rw [if_pos rfl]
    by_cases h2 : a2 < 1
    · rw [if_pos h2, tailwaterlaw19_PanesDivide.j0, if_pos rfl]
    · rw [if_neg h2, tailwaterlaw19_PanesDivide.j0, if_neg (by decide), size_ok hr (by omega), Option.bind_some, if_pos rfl]
      obtain ⟨r1, r2, r3, r4, r5⟩ := sizesOk_iff.1 hr
      obtain ⟨g1, g2, g3, g4⟩ := gcdI_spec r1 r2
      have e1 : Int.tmod a0 (gcdI a0 a1) = 0 := by rw [Int.tmod_eq_emod_of_nonneg (by omega)]; exact g3
      have e2 : Int.tmod a1 (gcdI a0 a1) = 0 := by rw [Int.tmod_eq_emod_of_nonneg (by omega)]; exact g4
      rw [if_neg (by omega), if_neg (by omega), if_pos e1, if_pos e2, if_pos rfl, if_neg (by omega)]
      by_cases d1 : Int.tmod a0 a2 = 0
      · rw [if_pos d1]
        by_cases d2 : Int.tmod a1 a2 = 0
        · rw [if_pos d2]
          rw [Int.tmod_eq_emod_of_nonneg (by omega)] at d1 d2
          have := gcdI_dvd r1 r2 (by omega) d1 d2
          have e3 : Int.tmod (gcdI a0 a1) a2 = 0 := by rw [Int.tmod_eq_emod_of_nonneg (by omega)]; exact this
          show some (Int.tmod (gcdI a0 a1) a2 == 0) = some true
          rw [e3]
          rfl
        · rw [if_neg d2]
      · rw [if_neg d1]
end Go.Proofs.Ytepgpbbeeiebkaa.Pure
