/- What tumble.Of, slide.All, panes.divisor and accums.Join hand back, in closed words; conditions: as each theorem says. -/
import Derived.Test.YtepgpbbeeiebkaaStx5
import Derived.Test.YtepgpbbeeiebkaaStx9
import Derived.Test.YtepgpbbeeiebkaaStx11
import Derived.Test.YtepgpbbeeiebkaaSlA
import Derived.Test.YtepgpbbeeiebkaaPvA
import Derived.Test.YtepgpbbeeiebkaaPvB
namespace Go.Proofs.Ytepgpbbeeiebkaa.St
open Go.RowKit Go.Proofs.YtepgpbbeeiebkaaW.PrintWords Go.Proofs.YtepgpbbeeiebkaaW.PrintMore Go.Proofs.YtepgpbbeeiebkaaAcc Go.Proofs.YtepgpbbeeiebkaaMp Go.Proofs.YtepgpbbeeiebkaaPv
set_option linter.unusedVariables false

theorem wrap_id {x : Int} (h1 : -9223372036854775808 ≤ x) (h2 : x ≤ 9223372036854775807) : wrap64 x = x := by unfold wrap64; omega
/-- Go's quotient, one less where the rest is negative, is the floor. -/
theorem floor_of (t d : Int) (hd : 1 ≤ d) : (if Int.tmod t d < 0 then Int.tdiv t d - 1 else Int.tdiv t d) = t / d := by
  have e := Int.mul_tdiv_add_tmod t d
  have h1 := Int.lt_tmod_of_pos t (show 0 < d by omega)
  have h2 := Int.tmod_lt_of_pos t (show 0 < d by omega)
  split
  · rename_i hn
    have h3 := (Int.ediv_emod_unique (a := t) (b := d) (r := Int.tmod t d + d) (q := Int.tdiv t d - 1) (by omega)).2 ⟨by rw [Int.mul_sub]; omega, by omega, by omega⟩
    exact h3.1.symm
  · rename_i hn
    have h3 := (Int.ediv_emod_unique (a := t) (b := d) (r := Int.tmod t d) (q := Int.tdiv t d) (by omega)).2 ⟨by omega, by omega, by omega⟩
    exact h3.1.symm
theorem ediv_bound {t d M : Int} (hd : 1 ≤ d) (hM : 0 ≤ M) (h1 : -M ≤ t) (h2 : t ≤ M) : -M ≤ t / d ∧ t / d ≤ M := by
  rcases Int.le_total 0 t with h | h
  · have a := Int.ediv_nonneg h (show 0 ≤ d by omega)
    have b := Int.ediv_le_self d h
    omega
  · have a : t ≤ t / d := (Int.le_ediv_iff_mul_le (show 0 < d by omega)).2 (by
      have := Int.mul_le_mul_of_nonpos_left h (show (1 : Int) ≤ d from hd)
      omega)
    have b : t / d ≤ 0 := by
      have := Int.mul_ediv_add_emod t d
      have m1 := Int.emod_nonneg t (show d ≠ 0 by omega)
      rcases Int.lt_or_le 0 (t / d) with c | c
      · have := Int.mul_pos (show 0 < d by omega) c
        omega
      · exact c
    omega
theorem tumble_check_ok (k : Nat) (t d : Int) (h1 : 1 ≤ d) (h2 : d ≤ 1073741824) : tumble_check.f (k + 1) t d = some (if t < -1099511627776 ∨ 1099511627776 < t then 16 else 0) := by
  unfold tumble_check.f
  rw [if_neg (by omega), tumble_check.j0, decide_eq_false (by omega), if_neg (by decide)]
  by_cases a : t < -1099511627776
  · rw [if_pos a, if_pos (.inl a)]
  · rw [if_neg a]
    by_cases b : t > 1099511627776
    · rw [if_pos b, if_pos (.inr b)]
    · rw [if_neg b, if_neg (by omega)]
theorem tumble_bad_time (k : Nat) (t d : Int) (h1 : 1 ≤ d) (h2 : d ≤ 1073741824) (h3 : t < -1099511627776 ∨ 1099511627776 < t) : tumble_Of.f (k + 1) t d = some (0, 0, 16) := by
  unfold tumble_Of.f tumble_Number.f
  rw [tumble_check_ok k t d h1 h2, if_pos h3]
  rfl
theorem tumble_ok (k : Nat) (t d : Int) (h1 : 1 ≤ d) (h2 : d ≤ 1073741824) (h3 : -1099511627776 ≤ t) (h4 : t ≤ 1099511627776) : tumble_Of.f (k + 1) t d = some (t - t % d, t - t % d + d, 0) := by
  unfold tumble_Of.f tumble_Number.f
  rw [tumble_check_ok k t d h1 h2, if_neg (by omega), Option.bind_some, if_pos rfl, if_neg (by omega)]
  have hf := floor_of t d h1
  have e := Int.mul_ediv_add_emod t d
  have m1 := Int.emod_nonneg t (show d ≠ 0 by omega)
  have m2 := Int.emod_lt_of_pos t (show 0 < d by omega)
  obtain ⟨q2, q1⟩ := ediv_bound (M := 1099511627776) h1 (by omega) (by omega) h4
  have e2 : t / d * d = t - t % d := by rw [Int.mul_comm]; omega
  have e3 : (t / d + 1) * d = t - t % d + d := by rw [Int.add_mul]; omega
  have key : ∀ n : Int, n = t / d → (some (n, (0 : Int))).bind (fun bt131 => (if bt131.2 = 0 then (some (wrap64 (bt131.1 * d), wrap64 ((wrap64 (bt131.1 + 1)) * d), (0 : Int))) else (some (0, 0, bt131.2)))) = some (t - t % d, t - t % d + d, 0) := by
    rintro n rfl
    rw [Option.bind_some, if_pos rfl]
    show some (wrap64 (t / d * d), wrap64 (wrap64 (t / d + 1) * d), (0 : Int)) = _
    rw [wrap_id (x := t / d + 1) (by omega) (by omega), e2, e3, wrap_id (by omega) (by omega), wrap_id (by omega) (by omega)]
  by_cases hn : Int.tmod t d < 0
  · rw [if_pos hn] at hf ⊢
    refine key _ ?_
    rw [wrap_id (x := Int.tdiv t d) (by omega) (by omega), hf, wrap_id (by omega) (by omega)]
  · rw [if_neg hn] at hf ⊢
    refine key _ ?_
    rw [wrap_id (x := Int.tdiv t d) (by omega) (by omega), hf]

theorem divisor_gcd : ∀ (n m k : Nat), panes_divisor.l0 (n + 1 + k) (m : Int) (n : Int) = some ((Nat.gcd n m : Nat) : Int) := by
  intro n
  induction n using Nat.strongRecOn with
  | ind n ih =>
    intro m k
    rw [show n + 1 + k = (n + k) + 1 by omega, panes_divisor.l0]
    by_cases h : n = 0
    · subst h
      rw [if_pos (by simp), Nat.gcd_zero_left]
    · rw [if_neg (by omega)]
      have hlt : m % n < n := Nat.mod_lt _ (by omega)
      have e : Int.tmod (m : Int) (n : Int) = ((m % n : Nat) : Int) := rfl
      rw [e, show n + k = m % n + 1 + (n + k - (m % n + 1)) by omega, ih (m % n) hlt n _, Nat.gcd_rec n m]
/-- The greatest number that divides both. -/
def gcdI (a b : Int) : Int := ((Nat.gcd b.toNat a.toNat : Nat) : Int)
theorem divisor_ok {a b : Int} (ha : 0 ≤ a) (hb : 0 ≤ b) {k : Nat} (hk : b.toNat + 1 ≤ k) : panes_divisor.f k a b = some (gcdI a b) := by
  have h := divisor_gcd b.toNat a.toNat (k - (b.toNat + 1))
  rw [Int.toNat_of_nonneg ha, Int.toNat_of_nonneg hb, show b.toNat + 1 + (k - (b.toNat + 1)) = k by omega] at h
  exact h
theorem gcdI_spec {a b : Int} (ha : 1 ≤ a) (hb : 1 ≤ b) : 1 ≤ gcdI a b ∧ gcdI a b ≤ b ∧ a % gcdI a b = 0 ∧ b % gcdI a b = 0 := by
  have h0 : 0 < Nat.gcd b.toNat a.toNat := Nat.gcd_pos_of_pos_left _ (by omega)
  have h1 := Nat.gcd_dvd_left b.toNat a.toNat
  have h2 := Nat.gcd_dvd_right b.toNat a.toNat
  have h3 := Nat.le_of_dvd (by omega) h1
  unfold gcdI
  refine ⟨by omega, by omega, ?_, ?_⟩
  · have := Int.natCast_dvd_natCast.2 h2
    rw [Int.toNat_of_nonneg (by omega)] at this
    exact Int.emod_eq_zero_of_dvd this
  · have := Int.natCast_dvd_natCast.2 h1
    rw [Int.toNat_of_nonneg (by omega)] at this
    exact Int.emod_eq_zero_of_dvd this

theorem okA_acc (xs : List Int) (h : xs.length ≤ 1073741824) : okA (cnt xs) (sm xs) (lo xs) (hi xs) = true := by
  unfold okA
  by_cases h0 : cnt xs = 0
  · rw [if_pos h0, cnt_zero.1 h0]
    rfl
  · rw [if_neg h0]
    by_cases h1 : cnt xs = 1
    · obtain ⟨v, rfl⟩ := cnt_one h1
      rw [if_pos h1]
      simp [sm, lo, hi]
    · rw [if_neg h1]
      have := lo_le_hi xs
      unfold cnt at *
      simp only [Bool.and_eq_true, decide_eq_true_eq]
      omega
theorem min_mn (a b : Int) : mn a b = min a b := by unfold mn; omega
theorem max_mx (a b : Int) : mx a b = max a b := by unfold mx; omega
theorem join_ok (k : Nat) (xs ys : List Int) (h : xs.length + ys.length ≤ 1073741824) : accums_Join.f (k + 1) (acc xs).1 (acc xs).2.1 (acc xs).2.2.1 (acc xs).2.2.2 (acc ys).1 (acc ys).2.1 (acc ys).2.2.1 (acc ys).2.2.2 = some ((acc (xs ++ ys)).1, (acc (xs ++ ys)).2.1, (acc (xs ++ ys)).2.2.1, (acc (xs ++ ys)).2.2.2, 0) := by
  unfold accums_Join.f accums_Check.f
  have e1 : (if okA (acc xs).1 (acc xs).2.1 (acc xs).2.2.1 (acc xs).2.2.2 = true then (0 : Int) else 8) = 0 := if_pos (okA_acc xs (by omega))
  have e2 : (if okA (acc ys).1 (acc ys).2.1 (acc ys).2.2.1 (acc ys).2.2.2 = true then (0 : Int) else 8) = 0 := if_pos (okA_acc ys (by omega))
  rw [e1, e2, Option.bind_some, if_pos rfl, Option.bind_some, show ((0 : Int) != 0) = false by decide, accums_Join.j0, if_neg (by decide)]
  have hc : (acc xs).1 + (acc ys).1 = cnt (xs ++ ys) := (cnt_append xs ys).symm
  have hl : cnt (xs ++ ys) ≤ 1073741824 := by unfold cnt; rw [List.length_append]; omega
  have hl0 : 0 ≤ cnt (xs ++ ys) := by unfold cnt; omega
  rw [hc, wrap_id (by omega) (by omega), if_neg (by omega), ← joinA_acc]
  unfold joinA
  by_cases h1 : (acc xs).1 = 0
  · rw [if_pos h1, if_pos h1]
  · rw [if_neg h1, if_neg h1]
    by_cases h2 : (acc ys).1 = 0
    · rw [if_pos h2, if_pos h2]
    · rw [if_neg h2, if_neg h2, min_mn, max_mx, hc]
end Go.Proofs.Ytepgpbbeeiebkaa.St
