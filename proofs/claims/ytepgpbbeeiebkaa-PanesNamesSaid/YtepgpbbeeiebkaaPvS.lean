/- The examples hold; sizes that are right; the size of panes; conditions: as each theorem says. -/
import Derived.Test.YtepgpbbeeiebkaaStx10
import Derived.Test.YtepgpbbeeiebkaaStx14
import Derived.Test.YtepgpbbeeiebkaaPuC
namespace Go.Proofs.Ytepgpbbeeiebkaa.Pure
open Go.RowKit Go.Proofs.Ytepgpbbeeiebkaa.St Go.Proofs.YtepgpbbeeiebkaaW.PrintWords Go.Proofs.YtepgpbbeeiebkaaW.PrintLast
set_option linter.unusedVariables false

theorem alive_ok {k : Nat} (hk : 40 ≤ k) : tailwaterlaw19_alive.f k = some true := at_rounds tailwaterlaw19_alive.mono hk tailwaterlaw19_alive.yes
theorem sizesOk_iff {a b : Int} : sizesOk a b = true ↔ 1 ≤ a ∧ 1 ≤ b ∧ a ≤ 1073741824 ∧ b ≤ a ∧ a ≤ 16 * b := by
  simp only [sizesOk, Bool.and_eq_true, decide_eq_true_eq]
  omega
theorem size_ok {a b : Int} (h : sizesOk a b = true) {k : Nat} (hk : b.toNat + 20 ≤ k) : panes_Size.f k a b = some (gcdI a b, 0) := by
  have h' := sizesOk_iff.1 h
  unfold panes_Size.f
  rw [slide_ok h (by decide) (by omega), Option.bind_some, if_pos rfl, divisor_ok (by omega) (by omega) (by omega)]
  rfl
theorem gcdI_dvd {a b n : Int} (ha : 1 ≤ a) (hb : 1 ≤ b) (hn : 1 ≤ n) (h1 : a % n = 0) (h2 : b % n = 0) : gcdI a b % n = 0 := by
  have d1 : n.toNat ∣ a.toNat := Int.natCast_dvd_natCast.1 (by rw [Int.toNat_of_nonneg (by omega), Int.toNat_of_nonneg (by omega)]; exact Int.dvd_of_emod_eq_zero h1)
  have d2 : n.toNat ∣ b.toNat := Int.natCast_dvd_natCast.1 (by rw [Int.toNat_of_nonneg (by omega), Int.toNat_of_nonneg (by omega)]; exact Int.dvd_of_emod_eq_zero h2)
  have d3 := Int.natCast_dvd_natCast.2 (Nat.dvd_gcd d2 d1)
  rw [Int.toNat_of_nonneg (by omega)] at d3
  exact Int.emod_eq_zero_of_dvd d3
end Go.Proofs.Ytepgpbbeeiebkaa.Pure
