/- The reference's divisor, by subtracting halves, is the greatest number that divides both; condition: positive sizes. -/
import Derived.Test.YtepgpbbeeiebkaaPuC
import Derived.Test.YtepgpbbeeiebkaaStx19
namespace Go.Proofs.Ytepgpbbeeiebkaa.St
open Go.RowKit Go.Proofs.YtepgpbbeeiebkaaW.PrintWords Go.Proofs.YtepgpbbeeiebkaaW.PrintMore
set_option linter.unusedVariables false

theorem half_nat (a : Nat) (ha : a ≤ 1073741824) : wrap64 (Int.tdiv (a : Int) 2) = ((a / 2 : Nat) : Int) := by
  have e : Int.tdiv (a : Int) 2 = ((a / 2 : Nat) : Int) := rfl
  rw [e, wrap_id (by omega) (by omega)]
theorem even_nat (a : Nat) : Int.tmod (a : Int) 2 = 0 ↔ a % 2 = 0 := by
  have e : Int.tmod (a : Int) 2 = ((a % 2 : Nat) : Int) := rfl
  rw [e]
  omega
theorem gcd_half {a b : Nat} (ha : a % 2 = 0) (hb : b % 2 = 1) : Nat.gcd (a / 2) b = Nat.gcd a b := by
  have e : a = 2 * (a / 2) := by omega
  have hc : Nat.Coprime 2 b := by
    rw [Nat.coprime_comm]
    unfold Nat.Coprime
    rw [Nat.gcd_comm, Nat.gcd_rec, hb]
    rfl
  conv => rhs; rw [e]
  exact (Nat.Coprime.gcd_mul_left_cancel (a / 2) hc).symm
theorem gcd_sub {a b : Nat} (h : b ≤ a) : Nat.gcd (a - b) b = Nat.gcd a b := by
  rw [Nat.gcd_comm, Nat.gcd_sub_self_right h, Nat.gcd_comm]
theorem refdiv_l1 : ∀ (s a b t k : Nat), a + b ≤ s → 1 ≤ a → 1 ≤ b → a ≤ 1073741824 → b ≤ 1073741824 → (a % 2 = 1 ∨ b % 2 = 1) → Nat.gcd a b * t ≤ 1073741824 → s + 1 ≤ k → tailwaterref19_Divisor.l1 k (a : Int) (b : Int) (t : Int) = some (((Nat.gcd a b * t : Nat)) : Int) := by
  intro s
  induction s with
  | zero => intro a b t k h1 h2; omega
  | succ s ih =>
    intro a b t k hs ha hb ha2 hb2 hodd ht hk
    obtain ⟨q, rfl⟩ : ∃ q, k = q + 1 := ⟨k - 1, by omega⟩
    rw [tailwaterref19_Divisor.l1]
    by_cases c1 : (a : Int) = b
    · have : a = b := by omega
      subst this
      rw [Nat.gcd_self] at ht ⊢
      rw [if_pos rfl]
      have e : ((a : Int) * (t : Int)) = ((a * t : Nat) : Int) := by simp
      rw [e, wrap_id (by omega) (by omega)]
    · rw [if_neg c1]
      by_cases c2 : a % 2 = 0
      · rw [if_pos ((even_nat a).2 c2), half_nat a ha2]
        have hb1 : b % 2 = 1 := by omega
        rw [← gcd_half c2 hb1] at ht ⊢
        exact ih (a / 2) b t q (by omega) (by omega) hb (by omega) hb2 (.inr hb1) ht (by omega)
      · rw [if_neg (fun h => c2 ((even_nat a).1 h))]
        by_cases c3 : b % 2 = 0
        · rw [if_pos ((even_nat b).2 c3), half_nat b hb2]
          have ha1 : a % 2 = 1 := by omega
          rw [Nat.gcd_comm, ← gcd_half c3 ha1, Nat.gcd_comm] at ht ⊢
          exact ih a (b / 2) t q (by omega) ha (by omega) ha2 (by omega) (.inl ha1) ht (by omega)
        · rw [if_neg (fun h => c3 ((even_nat b).1 h))]
          by_cases c4 : (a : Int) > b
          · have e : wrap64 ((a : Int) - (b : Int)) = ((a - b : Nat) : Int) := by rw [wrap_id (by omega) (by omega)]; omega
            rw [if_pos c4, e]
            rw [← gcd_sub (show b ≤ a by omega)] at ht ⊢
            exact ih (a - b) b t q (by omega) (by omega) hb (by omega) hb2 (.inr (by omega)) ht (by omega)
          · have e : wrap64 ((b : Int) - (a : Int)) = ((b - a : Nat) : Int) := by rw [wrap_id (by omega) (by omega)]; omega
            rw [if_neg c4, e]
            rw [Nat.gcd_comm, ← gcd_sub (show a ≤ b by omega), Nat.gcd_comm] at ht ⊢
            exact ih a (b - a) t q (by omega) ha (by omega) ha2 (by omega) (.inl (by omega)) ht (by omega)
theorem refdiv_l0 : ∀ (s a b t k : Nat), a + b ≤ s → 1 ≤ a → 1 ≤ b → a ≤ 1073741824 → b ≤ 1073741824 → Nat.gcd a b * t ≤ 1073741824 → 1 ≤ t → s + 3 + s ≤ k → tailwaterref19_Divisor.l0 k (a : Int) (b : Int) (t : Int) = some (((Nat.gcd a b * t : Nat)) : Int) := by
  intro s
  induction s with
  | zero => intro a b t k h1 h2; omega
  | succ s ih =>
    intro a b t k hs ha hb ha2 hb2 ht ht1 hk
    obtain ⟨q, rfl⟩ : ∃ q, k = q + 2 := ⟨k - 2, by omega⟩
    have hj : (a % 2 = 1 ∨ b % 2 = 1) → tailwaterref19_Divisor.j1 (q + 1) (a : Int) (b : Int) (t : Int) = some (((Nat.gcd a b * t : Nat)) : Int) := fun h => by
      rw [tailwaterref19_Divisor.j1]
      exact refdiv_l1 (s + 1) a b t q hs ha hb ha2 hb2 h ht (by omega)
    rw [show q + 2 = (q + 1) + 1 by omega, tailwaterref19_Divisor.l0]
    by_cases c1 : a % 2 = 0
    · rw [if_pos ((even_nat a).2 c1)]
      by_cases c2 : b % 2 = 0
      · rw [if_pos ((even_nat b).2 c2), half_nat a ha2, half_nat b hb2]
        have e : Nat.gcd a b = 2 * Nat.gcd (a / 2) (b / 2) := by
          rw [← Nat.gcd_mul_left]
          congr 1 <;> omega
        have hg : 0 < Nat.gcd (a / 2) (b / 2) := Nat.gcd_pos_of_pos_left _ (by omega)
        have e2 : Nat.gcd a b * t = Nat.gcd (a / 2) (b / 2) * (t * 2) := by rw [e, Nat.mul_comm 2, Nat.mul_assoc, Nat.mul_comm 2 t]
        have hb3 : t * 2 ≤ Nat.gcd a b * t := by
          rw [e2]
          exact Nat.le_mul_of_pos_left _ hg
        have ew : wrap64 ((t : Int) * 2) = ((t * 2 : Nat) : Int) := by rw [wrap_id (by omega) (by omega)]; omega
        rw [ew, e2]
        exact ih (a / 2) (b / 2) (t * 2) (q + 1) (by omega) (by omega) (by omega) (by omega) (by omega) (by rw [← e2]; exact ht) (by omega) (by omega)
      · rw [if_neg (fun h => c2 ((even_nat b).1 h))]
        exact hj (.inr (by omega))
    · rw [if_neg (fun h => c1 ((even_nat a).1 h))]
      exact hj (.inl (by omega))
theorem refdiv_ok {a b : Int} (ha : 1 ≤ a) (hb : 1 ≤ b) (ha2 : a ≤ 1073741824) (hb2 : b ≤ 1073741824) {k : Nat} (hk : 2 * (a.toNat + b.toNat) + 3 ≤ k) : tailwaterref19_Divisor.f k a b = some (gcdI a b) := by
  have hg : Nat.gcd a.toNat b.toNat ≤ a.toNat := Nat.le_of_dvd (by omega) (Nat.gcd_dvd_left _ _)
  have h := refdiv_l0 (a.toNat + b.toNat) a.toNat b.toNat 1 k (Nat.le_refl _) (by omega) (by omega) (by omega) (by omega) (by omega) (by omega) (by omega)
  rw [Int.toNat_of_nonneg (by omega), Int.toNat_of_nonneg (by omega), Nat.mul_one] at h
  unfold tailwaterref19_Divisor.f gcdI
  rw [Nat.gcd_comm]
  exact h
end Go.Proofs.Ytepgpbbeeiebkaa.St
