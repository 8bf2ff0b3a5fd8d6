/- What tumble.Of, slide.All, panes.divisor and accums.Join hand back, in closed words; conditions: as each theorem says. What slide.All and slide.Of hand back, in closed words; conditions: as each theorem says. panes.Values' maps: keys of two whole numbers, accumulators at them; what the records' loop and the panes' loop make; condition: numbers that are Go's. panes.Values' end in plain words: the entries that the third loop collects, sorted, are those of all windows, in order; condition: numbers that are Go's. -/
import Derived.Test.YtepgpbbeeiebkaaStx5
import Derived.Test.YtepgpbbeeiebkaaStx9
import Derived.Test.YtepgpbbeeiebkaaStx11
import Derived.Test.YtepgpbbeeiebkaaSlA
import Derived.Test.YtepgpbbeeiebkaaPuA
import Derived.Test.YtepgpbbeeiebkaaStx12
import Derived.Test.YtepgpbbeeiebkaaSeE
namespace Go.Proofs.Ytepgpbbeeiebkaa.St
open Go.RowKit Go.Proofs.YtepgpbbeeiebkaaW.PrintWords Go.Proofs.YtepgpbbeeiebkaaW.PrintMore Go.Proofs.YtepgpbbeeiebkaaAcc Go.Proofs.YtepgpbbeeiebkaaMp Go.Proofs.YtepgpbbeeiebkaaPv
set_option linter.unusedVariables false

theorem wrap_id {x : Int} (h1 : -9223372036854775808 ≤ x) (h2 : x ≤ 9223372036854775807) : wrap64 x = x := by unfold wrap64; omega
/-- Go's quotient, one less where the rest is negative, is the floor. -/
theorem floor_of (t d : Int) (hd : 1 ≤ d) : (if Int.tmod t d < 0 then Int.tdiv t d - 1 else Int.tdiv t d) = t / d := by
  have e := Int.mul_tdiv_add_tmod t d
  have h1 := Int.lt_tmod_of_pos t (show 0 < d by omega)
  have h2 := Int.tmod_lt_of_pos t (show 0 < d by omega)
  split
  · rename_i hn
    have h3 := (Int.ediv_emod_unique (a := t) (b := d) (r := Int.tmod t d + d) (q := Int.tdiv t d - 1) (by omega)).2 ⟨by rw [Int.mul_sub]; omega, by omega, by omega⟩
    exact h3.1.symm
  · rename_i hn
    have h3 := (Int.ediv_emod_unique (a := t) (b := d) (r := Int.tmod t d) (q := Int.tdiv t d) (by omega)).2 ⟨by omega, by omega, by omega⟩
    exact h3.1.symm
theorem ediv_bound {t d M : Int} (hd : 1 ≤ d) (hM : 0 ≤ M) (h1 : -M ≤ t) (h2 : t ≤ M) : -M ≤ t / d ∧ t / d ≤ M := by
  rcases Int.le_total 0 t with h | h
  · have a := Int.ediv_nonneg h (show 0 ≤ d by omega)
    have b := Int.ediv_le_self d h
    omega
  · have a : t ≤ t / d := (Int.le_ediv_iff_mul_le (show 0 < d by omega)).2 (by
      have := Int.mul_le_mul_of_nonpos_left h (show (1 : Int) ≤ d from hd)
      omega)
    have b : t / d ≤ 0 := by
      have := Int.mul_ediv_add_emod t d
      have m1 := Int.emod_nonneg t (show d ≠ 0 by omega)
      rcases Int.lt_or_le 0 (t / d) with c | c
      · have := Int.mul_pos (show 0 < d by omega) c
        omega
      · exact c
    omega
theorem tumble_check_ok (k : Nat) (t d : Int) (h1 : 1 ≤ d) (h2 : d ≤ 1073741824) : tumble_check.f (k + 1) t d = some (if t < -1099511627776 ∨ 1099511627776 < t then 16 else 0) := by
  unfold tumble_check.f
  rw [if_neg (by omega), tumble_check.j0, decide_eq_false (by omega), if_neg (by decide)]
  by_cases a : t < -1099511627776
  · rw [if_pos a, if_pos (.inl a)]
  · rw [if_neg a]
    by_cases b : t > 1099511627776
    · rw [if_pos b, if_pos (.inr b)]
    · rw [if_neg b, if_neg (by omega)]
theorem tumble_bad_time (k : Nat) (t d : Int) (h1 : 1 ≤ d) (h2 : d ≤ 1073741824) (h3 : t < -1099511627776 ∨ 1099511627776 < t) : tumble_Of.f (k + 1) t d = some (0, 0, 16) := by
  unfold tumble_Of.f tumble_Number.f
  rw [tumble_check_ok k t d h1 h2, if_pos h3]
  rfl
theorem tumble_ok (k : Nat) (t d : Int) (h1 : 1 ≤ d) (h2 : d ≤ 1073741824) (h3 : -1099511627776 ≤ t) (h4 : t ≤ 1099511627776) : tumble_Of.f (k + 1) t d = some (t - t % d, t - t % d + d, 0) := by
  unfold tumble_Of.f tumble_Number.f
  rw [tumble_check_ok k t d h1 h2, if_neg (by omega), Option.bind_some, if_pos rfl, if_neg (by omega)]
  have hf := floor_of t d h1
  have e := Int.mul_ediv_add_emod t d
  have m1 := Int.emod_nonneg t (show d ≠ 0 by omega)
  have m2 := Int.emod_lt_of_pos t (show 0 < d by omega)
  obtain ⟨q2, q1⟩ := ediv_bound (M := 1099511627776) h1 (by omega) (by omega) h4
  have e2 : t / d * d = t - t % d := by rw [Int.mul_comm]; omega
  have e3 : (t / d + 1) * d = t - t % d + d := by rw [Int.add_mul]; omega
  have key : ∀ n : Int, n = t / d → (some (n, (0 : Int))).bind (fun bt131 => (if bt131.2 = 0 then (some (wrap64 (bt131.1 * d), wrap64 ((wrap64 (bt131.1 + 1)) * d), (0 : Int))) else (some (0, 0, bt131.2)))) = some (t - t % d, t - t % d + d, 0) := by
    rintro n rfl
    rw [Option.bind_some, if_pos rfl]
    show some (wrap64 (t / d * d), wrap64 (wrap64 (t / d + 1) * d), (0 : Int)) = _
    rw [wrap_id (x := t / d + 1) (by omega) (by omega), e2, e3, wrap_id (by omega) (by omega), wrap_id (by omega) (by omega)]
  by_cases hn : Int.tmod t d < 0
  · rw [if_pos hn] at hf ⊢
    refine key _ ?_
    rw [wrap_id (x := Int.tdiv t d) (by omega) (by omega), hf, wrap_id (by omega) (by omega)]
  · rw [if_neg hn] at hf ⊢
    refine key _ ?_
    rw [wrap_id (x := Int.tdiv t d) (by omega) (by omega), hf]

theorem divisor_gcd : ∀ (n m k : Nat), panes_divisor.l0 (n + 1 + k) (m : Int) (n : Int) = some ((Nat.gcd n m : Nat) : Int) := by
  intro n
  induction n using Nat.strongRecOn with
  | ind n ih =>
    intro m k
    rw [show n + 1 + k = (n + k) + 1 by omega, panes_divisor.l0]
    by_cases h : n = 0
    · subst h
      rw [if_pos (by simp), Nat.gcd_zero_left]
    · rw [if_neg (by omega)]
      have hlt : m % n < n := Nat.mod_lt _ (by omega)
      have e : Int.tmod (m : Int) (n : Int) = ((m % n : Nat) : Int) := rfl
      rw [e, show n + k = m % n + 1 + (n + k - (m % n + 1)) by omega, ih (m % n) hlt n _, Nat.gcd_rec n m]
/-- The greatest number that divides both. -/
def gcdI (a b : Int) : Int := ((Nat.gcd b.toNat a.toNat : Nat) : Int)
theorem divisor_ok {a b : Int} (ha : 0 ≤ a) (hb : 0 ≤ b) {k : Nat} (hk : b.toNat + 1 ≤ k) : panes_divisor.f k a b = some (gcdI a b) := by
  have h := divisor_gcd b.toNat a.toNat (k - (b.toNat + 1))
  rw [Int.toNat_of_nonneg ha, Int.toNat_of_nonneg hb, show b.toNat + 1 + (k - (b.toNat + 1)) = k by omega] at h
  exact h
theorem gcdI_spec {a b : Int} (ha : 1 ≤ a) (hb : 1 ≤ b) : 1 ≤ gcdI a b ∧ gcdI a b ≤ b ∧ a % gcdI a b = 0 ∧ b % gcdI a b = 0 := by
  have h0 : 0 < Nat.gcd b.toNat a.toNat := Nat.gcd_pos_of_pos_left _ (by omega)
  have h1 := Nat.gcd_dvd_left b.toNat a.toNat
  have h2 := Nat.gcd_dvd_right b.toNat a.toNat
  have h3 := Nat.le_of_dvd (by omega) h1
  unfold gcdI
  refine ⟨by omega, by omega, ?_, ?_⟩
  · have := Int.natCast_dvd_natCast.2 h2
    rw [Int.toNat_of_nonneg (by omega)] at this
    exact Int.emod_eq_zero_of_dvd this
  · have := Int.natCast_dvd_natCast.2 h1
    rw [Int.toNat_of_nonneg (by omega)] at this
    exact Int.emod_eq_zero_of_dvd this

theorem okA_acc (xs : List Int) (h : xs.length ≤ 1073741824) : okA (cnt xs) (sm xs) (lo xs) (hi xs) = true := by
  unfold okA
  by_cases h0 : cnt xs = 0
  · rw [if_pos h0, cnt_zero.1 h0]
    rfl
  · rw [if_neg h0]
    by_cases h1 : cnt xs = 1
    · obtain ⟨v, rfl⟩ := cnt_one h1
      rw [if_pos h1]
      simp [sm, lo, hi]
    · rw [if_neg h1]
      have := lo_le_hi xs
      unfold cnt at *
      simp only [Bool.and_eq_true, decide_eq_true_eq]
      omega
theorem min_mn (a b : Int) : mn a b = min a b := by unfold mn; omega
theorem max_mx (a b : Int) : mx a b = max a b := by unfold mx; omega
theorem join_ok (k : Nat) (xs ys : List Int) (h : xs.length + ys.length ≤ 1073741824) : accums_Join.f (k + 1) (acc xs).1 (acc xs).2.1 (acc xs).2.2.1 (acc xs).2.2.2 (acc ys).1 (acc ys).2.1 (acc ys).2.2.1 (acc ys).2.2.2 = some ((acc (xs ++ ys)).1, (acc (xs ++ ys)).2.1, (acc (xs ++ ys)).2.2.1, (acc (xs ++ ys)).2.2.2, 0) := by
  unfold accums_Join.f accums_Check.f
  have e1 : (if okA (acc xs).1 (acc xs).2.1 (acc xs).2.2.1 (acc xs).2.2.2 = true then (0 : Int) else 8) = 0 := if_pos (okA_acc xs (by omega))
  have e2 : (if okA (acc ys).1 (acc ys).2.1 (acc ys).2.2.1 (acc ys).2.2.2 = true then (0 : Int) else 8) = 0 := if_pos (okA_acc ys (by omega))
  rw [e1, e2, Option.bind_some, if_pos rfl, Option.bind_some, show ((0 : Int) != 0) = false by decide, accums_Join.j0, if_neg (by decide)]
  have hc : (acc xs).1 + (acc ys).1 = cnt (xs ++ ys) := (cnt_append xs ys).symm
  have hl : cnt (xs ++ ys) ≤ 1073741824 := by unfold cnt; rw [List.length_append]; omega
  have hl0 : 0 ≤ cnt (xs ++ ys) := by unfold cnt; omega
  rw [hc, wrap_id (by omega) (by omega), if_neg (by omega), ← joinA_acc]
  unfold joinA
  by_cases h1 : (acc xs).1 = 0
  · rw [if_pos h1, if_pos h1]
  · rw [if_neg h1, if_neg h1]
    by_cases h2 : (acc ys).1 = 0
    · rw [if_pos h2, if_pos h2]
    · rw [if_neg h2, if_neg h2, min_mn, max_mx, hc]
end Go.Proofs.Ytepgpbbeeiebkaa.St
namespace Go.Proofs.Ytepgpbbeeiebkaa.St
open Go.RowKit Go.Proofs.YtepgpbbeeiebkaaW.PrintWords Go.Proofs.YtepgpbbeeiebkaaW.PrintMore Go.Proofs.YtepgpbbeeiebkaaPv
set_option linter.unusedVariables false

theorem slide_l0 {t sz ev : Int} (h1 : 1 ≤ ev) (h2 : ev ≤ sz) (h3 : sz ≤ 16 * ev) (h4 : sz ≤ 1073741824) (h5 : -1099511627776 ≤ t) (h6 : t ≤ 1099511627776) (k : Nat) :
    ∀ (d j : Nat), j + d = winN sz ev t → slide_AllB.l0 (d + 1 + k) t sz ev ((List.range j).map fun i : Nat => (⟨t - t % ev - (i : Int) * ev, t - t % ev - (i : Int) * ev + sz⟩ : S34)) (t - t % ev - (j : Int) * ev) = some ((List.range (winN sz ev t)).map fun i : Nat => (⟨t - t % ev - (i : Int) * ev, t - t % ev - (i : Int) * ev + sz⟩ : S34), 0) := by
  have hn := winN_le h1 h2 h3 t
  have hp := winN_pos h1 h2 t
  have m1 := Int.emod_nonneg t (show ev ≠ 0 by omega)
  have m2 := Int.emod_lt_of_pos t (show 0 < ev by omega)
  have hlow : ∀ j : Nat, j ≤ winN sz ev t → t - sz - ev ≤ t - t % ev - (j : Int) * ev ∧ 0 ≤ (j : Int) * ev := by
    intro j hj
    refine ⟨?_, Int.mul_nonneg (by omega) (by omega)⟩
    rcases Nat.eq_zero_or_pos j with h0 | h0
    · subst h0
      simp
      omega
    · have h7 := (winN_spec h1 h2 t (j - 1)).1 (by omega)
      have e : (j : Int) * ev = ((j - 1 : Nat) : Int) * ev + ev := by
        rw [show (j : Int) = ((j - 1 : Nat) : Int) + 1 by omega, Int.add_mul, Int.one_mul]
      omega
  intro d
  induction d with
  | zero =>
    intro j hj
    have hl := hlow j (by omega)
    have hs := winN_spec h1 h2 t j
    rw [show 0 + 1 + k = k + 1 by omega, slide_AllB.l0, wrap_id (by omega) (by omega), if_neg (by omega), show j = winN sz ev t by omega]
  | succ d ih =>
    intro j hj
    have hl := hlow j (by omega)
    have hs := (winN_spec h1 h2 t j).1 (by omega)
    have e : t - t % ev - (j : Int) * ev - ev = t - t % ev - ((j + 1 : Nat) : Int) * ev := by
      rw [show ((j + 1 : Nat) : Int) = (j : Int) + 1 by omega, Int.add_mul, Int.one_mul]
      omega
    rw [show d + 1 + 1 + k = (d + 1 + k) + 1 by omega, slide_AllB.l0, wrap_id (by omega) (by omega), if_pos (by omega), if_pos (by simp; omega), wrap_id (x := t - t % ev - (j : Int) * ev - ev) (by omega) (by omega), e]
    have h9 := ih (j + 1) (by omega)
    rw [List.range_succ, List.map_append] at h9
    exact h9
/-- The sizes are right. -/
def sizesOk (sz ev : Int) : Bool := decide (1 ≤ sz) && decide (1 ≤ ev) && decide (sz ≤ 1073741824) && decide (ev ≤ sz) && decide (sz ≤ 16 * ev)
/-- Is a number a time? -/
def timeOk (t : Int) : Bool := decide (-1099511627776 ≤ t) && decide (t ≤ 1099511627776)
def spansAt (sz ev t : Int) : List S34 := (winsAt sz ev t).map fun s => ⟨s, s + sz⟩
theorem slide_ok {t sz ev : Int} (hs : sizesOk sz ev = true) (ht : timeOk t = true) {k : Nat} (hk : 18 ≤ k) : slide_All.f k t sz ev = some (spansAt sz ev t, 0) := by
  simp only [sizesOk, timeOk, Bool.and_eq_true, decide_eq_true_eq] at hs ht
  obtain ⟨⟨⟨⟨h0, h1⟩, h4⟩, h2⟩, h3⟩ := hs
  obtain ⟨h5, h6⟩ := ht
  have hm : ¬ mn sz ev < 1 := by rw [min_mn]; omega
  have hn := winN_le h1 h2 h3 t
  unfold slide_All.f slide_AllB.f
  rw [if_neg hm, if_neg (by omega), if_neg (by omega), wrap_id (by omega) (by omega), decide_eq_false (by omega)]
  obtain ⟨q, rfl⟩ : ∃ q, k = q + 2 := ⟨k - 2, by omega⟩
  rw [show q + 2 = (q + 1) + 1 by omega, slide_AllB.j0, if_neg (by decide), tumble_ok q t ev h1 (by omega) h5 h6, Option.bind_some, if_pos rfl]
  have h := slide_l0 h1 h2 h3 h4 h5 h6 (q - winN sz ev t) (winN sz ev t) 0 (by omega)
  rw [show winN sz ev t + 1 + (q - winN sz ev t) = q + 1 by omega] at h
  simp only [List.range_zero, List.map_nil, Int.natCast_zero, Int.zero_mul, Int.sub_zero] at h
  show Option.map _ (slide_AllB.l0 (q + 1) t sz ev [] (t - t % ev)) = _
  rw [h]
  simp only [Option.map_some, spansAt, winsAt, List.map_map, List.map_reverse]
  rfl
theorem slide_bad_time {t sz ev : Int} (hs : sizesOk sz ev = true) (ht : timeOk t = false) {k : Nat} (hk : 18 ≤ k) : slide_All.f k t sz ev = some ([], 16) := by
  simp only [sizesOk, Bool.and_eq_true, decide_eq_true_eq] at hs
  obtain ⟨⟨⟨⟨h0, h1⟩, h4⟩, h2⟩, h3⟩ := hs
  have ht' : t < -1099511627776 ∨ 1099511627776 < t := by
    simp only [timeOk, Bool.and_eq_false_iff, decide_eq_false_iff_not] at ht
    omega
  have hm : ¬ mn sz ev < 1 := by rw [min_mn]; omega
  unfold slide_All.f slide_AllB.f
  rw [if_neg hm, if_neg (by omega), if_neg (by omega), wrap_id (by omega) (by omega), decide_eq_false (by omega)]
  obtain ⟨q, rfl⟩ : ∃ q, k = q + 2 := ⟨k - 2, by omega⟩
  rw [show q + 2 = (q + 1) + 1 by omega, slide_AllB.j0, if_neg (by decide), tumble_bad_time q t ev h1 (by omega) ht']
  rfl
theorem slide_bad_size {t sz ev : Int} (hs : sizesOk sz ev = false) {k : Nat} (hk : 18 ≤ k) : slide_All.f k t sz ev = some ([], 2) := by
  obtain ⟨q, rfl⟩ : ∃ q, k = q + 2 := ⟨k - 2, by omega⟩
  have hj : slide_AllB.j0 (q + 2) t sz ev true = some ([], 2) := by rw [show q + 2 = (q + 1) + 1 by omega, slide_AllB.j0, if_pos rfl]
  unfold slide_All.f slide_AllB.f
  simp only [hj]
  by_cases c1 : mn sz ev < 1
  · rw [if_pos c1]; rfl
  · rw [if_neg c1]
    by_cases c2 : sz > 1073741824
    · rw [if_pos c2]; rfl
    · rw [if_neg c2]
      by_cases c3 : ev > sz
      · rw [if_pos c3]; rfl
      · rw [if_neg c3]
        rw [min_mn] at c1
        have c4 : sz > wrap64 (16 * ev) := by
          rw [wrap_id (by omega) (by omega)]
          have : ¬ (sz ≤ 16 * ev) := fun h => by
            have : sizesOk sz ev = true := by
              simp only [sizesOk, Bool.and_eq_true, decide_eq_true_eq]
              omega
            rw [hs] at this
            cases this
          omega
        rw [decide_eq_true c4, hj]
        rfl
/-- What clauses.Window says of a window. -/
def winE (kd sz ev : Int) : Int := if sz < 1 then 8 else if 1073741824 < sz then 8 else if kd = 2 then (if 1 ≤ ev ∧ ev ≤ sz ∧ sz ≤ 16 * ev then 0 else 8) else if kd = 1 ∨ kd = 3 then (if ev = 0 then 0 else 8) else 8
theorem window_ok (kd sz ev : Int) {k : Nat} (hk : 2 ≤ k) : clauses_Window.f k kd sz ev = some (winE kd sz ev) := by
  obtain ⟨q, rfl⟩ : ∃ q, k = q + 2 := ⟨k - 2, by omega⟩
  unfold clauses_Window.f winE
  have hj0 : ∀ b, clauses_Window.j1 (q + 1) b = some (if b = true then 0 else 8) := fun b => by
    rw [clauses_Window.j1]
    cases b <;> rfl
  by_cases c1 : sz < 1
  · rw [if_pos c1, if_pos c1, show q + 2 = (q + 1) + 1 by omega, clauses_Window.j0, if_pos rfl]
  · rw [if_neg c1, if_neg c1, show q + 2 = (q + 1) + 1 by omega, clauses_Window.j0]
    by_cases c2 : 1073741824 < sz
    · rw [if_pos (decide_eq_true c2), if_pos c2]
    · rw [if_neg (by simpa using c2), if_neg c2]
      by_cases c3 : kd = 2
      · rw [if_pos c3, if_pos c3]
        by_cases c4 : ev ≥ 1
        · rw [if_pos c4]
          by_cases c5 : ev ≤ sz
          · rw [if_pos c5, hj0, wrap_id (by omega) (by omega)]
            by_cases c6 : sz ≤ 16 * ev
            · rw [if_pos (decide_eq_true c6), if_pos ⟨c4, c5, c6⟩]
            · rw [if_neg (by simpa using c6), if_neg (fun h => c6 h.2.2)]
          · rw [if_neg c5, hj0, if_neg (by decide), if_neg (fun h => c5 h.2.1)]
        · rw [if_neg c4, hj0, if_neg (by decide), if_neg (fun h => c4 h.1)]
      · rw [if_neg c3, if_neg c3]
        by_cases c6 : ev = 0
        · simp only [if_pos c6]
          by_cases c4 : kd = 1
          · rw [if_pos c4, if_pos (Or.inl c4)]
          · rw [if_neg c4]
            by_cases c5 : kd = 3
            · rw [if_pos c5, if_pos (Or.inr c5)]
            · rw [if_neg c5, if_neg (by omega)]
        · simp only [if_neg c6, ite_self]
/-- What panes.sliding says of a window. -/
def slidE (kd sz ev : Int) : Int := if winE kd sz ev = 0 then (if kd = 2 then 0 else 2) else winE kd sz ev
theorem sliding_ok (kd sz ev : Int) {k : Nat} (hk : 2 ≤ k) : panes_sliding.f k kd sz ev = some (slidE kd sz ev) := by
  unfold panes_sliding.f slidE
  rw [window_ok kd sz ev hk, Option.bind_some]
  split
  · split <;> rfl
  · rfl
theorem slidE_zero {kd sz ev : Int} (h : slidE kd sz ev = 0) : kd = 2 ∧ winE kd sz ev = 0 ∧ sizesOk sz ev = true := by
  unfold slidE at h
  split at h
  · rename_i hw
    split at h
    · rename_i hk
      refine ⟨hk, hw, ?_⟩
      unfold winE at hw
      simp only [sizesOk, Bool.and_eq_true, decide_eq_true_eq]
      rw [if_pos hk] at hw
      split at hw
      · cases hw
      · split at hw
        · cases hw
        · split at hw
          · omega
          · cases hw
    · cases h
  · rename_i hw
    exact absurd h hw
theorem slideOf_ok {kd sz ev t : Int} (h : slidE kd sz ev = 0) (ht : timeOk t = true) {k : Nat} (hk : 18 ≤ k) : slide_Of.f k kd sz ev t = some (spansAt sz ev t, 0) := by
  obtain ⟨h1, h2, h3⟩ := slidE_zero h
  unfold slide_Of.f
  rw [window_ok kd sz ev (by omega), h2, Option.bind_some, if_pos rfl, if_neg (by omega), if_pos h1, slide_ok h3 ht hk]
  rfl
end Go.Proofs.Ytepgpbbeeiebkaa.St
namespace Go.Proofs.Ytepgpbbeeiebkaa.St
open Go.RowKit Go.Sort Go.Proofs.YtepgpbbeeiebkaaSB Go.Proofs.YtepgpbbeeiebkaaW.PrintWords Go.Proofs.YtepgpbbeeiebkaaW.PrintMore Go.Proofs.YtepgpbbeeiebkaaAcc Go.Proofs.YtepgpbbeeiebkaaMp Go.Proofs.YtepgpbbeeiebkaaPv
set_option linter.unusedVariables false

theorem laid : laidOutB Try.prog = true := by kernel_rfl
theorem key104 : Go.Maps.Keyed Try.prog 104 := Go.Maps.Keyed.of_law (deep_law_laid laid (m := 4) (by decide) (of_decide_eq_true (by kernel_rfl)) (by kernel_rfl) (by kernel_rfl))
theorem zero36 (w : World) : (zeroValue 36).run Try.prog w = .ok (accV (0, 0, 0, 0)) w := by kernel_rfl
/-- A whole number of Go's. -/
def i64Ok (x : Int) : Bool := decide (-9223372036854775808 ≤ x) && decide (x ≤ 9223372036854775807)
theorem wf64 {x : Int} (h : i64Ok x = true) : (Lit.int .i64 x).wf = true := by
  simp only [i64Ok, Bool.and_eq_true, decide_eq_true_eq] at h
  exact WalkArith.wf_i64 (by omega)
theorem okK_of {P : Program} {kt : TypeId} {f0 f1 : Field} (hu : P.underlying kt = some (.struct #[f0, f1])) (hu2 : P.underlying f0.type = some (.int .i64)) (hu3 : P.underlying f1.type = some (.int .i64)) (hk : P.keyType kt = true) (hc : P.cellsOf kt = 2) (h0 : P.cellsOf f0.type = 1) (h1 : P.cellsOf f1.type = 1)
    (o0 : f0.offset = 0) (o1 : f1.offset = 1) (n0 : (f0.name != "_") = true) (n1 : (f1.name != "_") = true) {n : Nat} (hn : P.types.size = n + 1) {a b : Int} (ha : (Lit.int .i64 a).wf = true) (hb : (Lit.int .i64 b).wf = true) : okK P kt (a, b) := by
  unfold okK keyV
  simp [keyOf, hu, hu2, hu3, hk, hc, h0, h1, o0, o1, n0, n1, hn, Value.formed, Value.cells, Program.keyLits, ha, hb]
theorem okK104 {a b : Int} (ha : i64Ok a = true) (hb : i64Ok b = true) : okK Try.prog 104 (a, b) :=
  okK_of Try.underlying104 Try.underlying2 Try.underlying2 (by kernel_rfl) (by kernel_rfl) (by kernel_rfl) (by kernel_rfl) rfl rfl (by decide) (by decide) (n := 191) (by kernel_rfl) (wf64 ha) (wf64 hb)
/-- Every accumulator of a map is that of few values. -/
def Bnd (m : M2) (B : Nat) : Prop := ∀ κ, ∃ xs, getA m κ = acc xs ∧ xs.length ≤ B
theorem bnd_nil : Bnd [] 0 := fun κ => ⟨[], rfl, Nat.le_refl _⟩
theorem bnd_put {m : M2} {B C : Nat} (h : Bnd m B) (κ : K2) (ys : List Int) (hy : ys.length ≤ C) : Bnd (putM m κ (joinA (getA m κ) (acc ys))) (B + C) := fun κ' => by
  by_cases e : κ' = κ
  · subst e
    obtain ⟨xs, h1, h2⟩ := h κ'
    refine ⟨xs ++ ys, ?_, by rw [List.length_append]; omega⟩
    rw [h1, joinA_acc]
    unfold getA
    rw [look_put_same]
    rfl
  · obtain ⟨xs, h1, h2⟩ := h κ'
    refine ⟨xs, ?_, by omega⟩
    rw [← h1]
    unfold getA
    rw [look_put_other m _ e]
theorem bnd_step {m : M2} {B C : Nat} (h : Bnd m B) (k : Int) (ys : List Int) (hy : ys.length ≤ C) (ss : List Int) : Bnd (winStep m k (acc ys) ss) (B + ss.length * C) := by
  induction ss using snocRec with
  | nil => simpa [winStep] using h
  | snoc ss s ih =>
    rw [winStep_snoc, List.length_append, List.length_singleton, Nat.add_mul, Nat.one_mul, ← Nat.add_assoc]
    exact bnd_put ih _ ys hy
theorem bnd_mono {m : M2} {B B' : Nat} (h : Bnd m B) (hb : B ≤ B') : Bnd m B' := fun κ => by
  obtain ⟨xs, h1, h2⟩ := h κ
  exact ⟨xs, h1, by omega⟩
theorem bnd_wins (ws : Int → List Int) (hw : ∀ t, (ws t).length ≤ 16) (C : Nat) (seen : M2) (hs : ∀ p ∈ seen, ∃ ys, p.2 = acc ys ∧ ys.length ≤ C) : Bnd (winsF ws seen) (seen.length * (16 * C)) := by
  induction seen using snocRec with
  | nil => simpa [winsF] using bnd_nil
  | snoc seen p ih =>
    have h1 := ih (fun q hq => hs q (by simp [hq]))
    obtain ⟨ys, e, hy⟩ := hs p (by simp)
    rw [winsF_snoc, e]
    refine bnd_mono (bnd_step h1 _ ys hy _) ?_
    have := Nat.mul_le_mul_right C (hw p.1.2)
    rw [List.length_append, List.length_singleton, Nat.add_mul, Nat.one_mul]
    omega
/-- The windows of a pane. -/
def wsOf (sz ev p : Int) : List Int := winsAt sz ev (max p (-1099511627776))
def recOf (x : S26) : Rec := (x.f0, x.f1, x.f2)
end Go.Proofs.Ytepgpbbeeiebkaa.St
namespace Go.Proofs.Ytepgpbbeeiebkaa.St
open Go.RowKit Go.Sort Go.Proofs.YtepgpbbeeiebkaaSB Go.Proofs.YtepgpbbeeiebkaaAcc Go.Proofs.YtepgpbbeeiebkaaMp Go.Proofs.YtepgpbbeeiebkaaPv
set_option linter.unusedVariables false

def entryOf (sz : Int) (p : K2 × A4) : S39 := ⟨p.1.1, ⟨p.1.2, p.1.2 + sz⟩, ⟨⟨p.2.1, p.2.2.1, p.2.2.2.1, p.2.2.2.2⟩, ⟨0, 0, 0, 0⟩⟩⟩
def backOf (x : S39) : K2 × A4 := ((x.f0, x.f1.f0), (x.f2.f0.f0, x.f2.f0.f1, x.f2.f0.f2, x.f2.f0.f3))
theorem back_entry (sz : Int) (p : K2 × A4) : backOf (entryOf sz p) = p := rfl
theorem sorted_values (sz ev : Int) (l : List Rec) {wm seen : M2} (ht : Tells wm (vals (winsAt sz ev) l)) (hn : (keysM seen).Nodup) (h1 : ∀ p ∈ seen, lookM wm p.1 = some p.2) (h2 : ∀ κ a, lookM wm κ = some a → κ ∈ keysM seen) :
    sortEn (seen.map (entryOf sz)) = (valuesC (winsAt sz ev) l).map (entryOf sz) := by
  have hsn : seen.Nodup := by
    unfold keysM at hn
    exact List.Pairwise.of_map (·.1) (fun a b (h : a.1 ≠ b.1) e => h (by rw [e])) hn
  have hwn : wm.Nodup := by
    have := ht.1
    unfold keysM at this
    exact List.Pairwise.of_map (·.1) (fun a b (h : a.1 ≠ b.1) e => h (by rw [e])) this
  have hp : seen.Perm wm := by
    refine (List.perm_ext_iff_of_nodup hsn hwn).2 fun p => ⟨fun h => ?_, fun h => ?_⟩
    · obtain ⟨κ, a⟩ := p
      exact look_mem (h1 _ h)
    · obtain ⟨κ, a⟩ := p
      have hl := look_of_mem ht.1 h
      have hk := h2 κ a hl
      unfold keysM at hk
      obtain ⟨q, hq, e⟩ := List.mem_map.1 hk
      have := h1 q hq
      rw [e, hl] at this
      obtain ⟨κ', a'⟩ := q
      dsimp only at e this
      subst e
      cases this
      exact hq
  obtain ⟨o, ho⟩ : ∃ o, o = (sortEn (seen.map (entryOf sz))).map backOf := ⟨_, rfl⟩
  have hperm := sortEn_perm (seen.map (entryOf sz))
  have hop : o.Perm seen := by
    rw [ho]
    have := hperm.map backOf
    rw [List.map_map] at this
    have e : (backOf ∘ entryOf sz) = id := by funext p; rfl
    rw [e, List.map_id] at this
    exact this
  have hom : o.map (entryOf sz) = sortEn (seen.map (entryOf sz)) := by
    rw [ho, List.map_map]
    conv => rhs; rw [← List.map_id (sortEn (seen.map (entryOf sz)))]
    refine List.map_congr_left fun x hx => ?_
    obtain ⟨p, _, rfl⟩ := List.mem_map.1 (hperm.mem_iff.1 hx)
    rfl
  have hkn : (keysM o).Nodup := (hop.map (fun p : K2 × A4 => p.1)).nodup_iff.2 hn
  have hup : Up (keysM o) := by
    have hs := sortEn_sorted (seen.map (entryOf sz))
    rw [← hom, List.pairwise_map] at hs
    unfold Up
    unfold keysM at hkn ⊢
    rw [List.nodup_iff_pairwise_ne, List.pairwise_map] at hkn
    rw [List.pairwise_map]
    refine (hs.and hkn).imp fun {p q} hh => ?_
    obtain ⟨h, hne⟩ := hh
    rw [ltEn] at h
    have h3 : ¬ (q.1.2 + sz < p.1.2 + sz ∨ (q.1.2 + sz = p.1.2 + sz ∧ q.1.1 < p.1.1)) := fun c => by
      have : (decide ((entryOf sz q).f1.f1 < (entryOf sz p).f1.f1) || (decide ((entryOf sz q).f1.f1 = (entryOf sz p).f1.f1) && decide ((entryOf sz q).f0 < (entryOf sz p).f0))) = true := by
        simp only [entryOf, Bool.or_eq_true, Bool.and_eq_true]
        exact c.imp decide_eq_true fun h => ⟨decide_eq_true h.1, decide_eq_true h.2⟩
      rw [h] at this
      cases this
    simp only [before, Bool.or_eq_true, Bool.and_eq_true, decide_eq_true_eq]
    have : ¬ (p.1.1 = q.1.1 ∧ p.1.2 = q.1.2) := fun e => hne (Prod.ext e.1 e.2)
    omega
  rw [← hom, valuesC_unique (winsAt sz ev) l ht (hop.trans hp) hup]
end Go.Proofs.Ytepgpbbeeiebkaa.St
