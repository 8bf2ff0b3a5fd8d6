/- SinkLate: the law's function hands back true. No condition. -/
import Derived.Test.YtbeldjhpbomonaaSiT
import Derived.Test.YtbeldjhpbomonaaSix16
namespace Go.Proofs.Ytbeldjhpbomonaa.Si
open Go.RowKit Go.Sort Go.Proofs.YtbeldjhpbomonaaW.PrintWords Go.Proofs.YtbeldjhpbomonaaW.PrintLast Go.Proofs.YtbeldjhpbomonaaW.PrintMore
set_option linter.unusedVariables false
set_option linter.unnecessarySimpa false
set_option linter.unusedSimpArgs false

theorem late_at (l : List S33) (n : Nat) (h : n + 1 < (sortLate l).length) : lowL (recL (sortLate l)[n + 1]) (recL (sortLate l)[n]) = false := by
  have := List.pairwise_iff_getElem.1 (sortLate_pair l) n (n + 1) (by omega) h (by omega)
  rwa [lt_rec] at this
theorem SinkLate_l0 (l : List S33) (hl : l.length < 100000) (ok : Bool) (F : Nat) : ∀ (d i : Nat), 1 ≤ i → l.length ≤ i + d → ∃ F', F ≤ F' ∧ tailwaterlaw34_SinkLate.l0 (F + d + 1) l ok (sortLate l) (i : Int) = tailwaterlaw34_SinkLate.l1 F' l ok (sortLate l) 0 := by
  intro d
  induction d with
  | zero =>
    intro i h1 h2
    refine ⟨F, Nat.le_refl _, ?_⟩
    rw [tailwaterlaw34_SinkLate.l0, if_neg (by rw [sortLate_length]; omega)]
  | succ d ih =>
    intro i h1 h2
    by_cases hlt : i < l.length
    · obtain ⟨n, rfl⟩ : ∃ n, i = n + 1 := ⟨i - 1, by omega⟩
      obtain ⟨F', hF, e⟩ := ih (n + 2) (by omega) (by omega)
      refine ⟨F', hF, ?_⟩
      have hx := sortLate_length l
      have ha := low3 _ _ (late_at l n (by omega))
      have s1 : wrap64 (((n + 1 : Nat) : Int) + 1) = ((n + 2 : Nat) : Int) := wrap_succ (n + 1) (by omega)
      rw [show F + (d + 1) + 1 = (F + d + 1) + 1 by omega, tailwaterlaw34_SinkLate.l0, wrap_pred1 n (by omega), s1]
      rw [if_pos (by omega), if_pos (by omega), if_pos (by omega), if_pos (by omega), rd33_at _ n (by omega), rd33_at _ (n + 1) (by omega)]
      rw [if_neg ha.1]
      by_cases c1 : (sortLate l)[n].f1 = (sortLate l)[n + 1].f1
      · rw [if_pos c1, if_neg (ha.2.1 c1)]
        by_cases c2 : (sortLate l)[n].f0 = (sortLate l)[n + 1].f0
        · rw [if_pos c2, if_neg (ha.2.2 c1 c2)]
          exact e
        · rw [if_neg c2]
          exact e
      · rw [if_neg c1]
        exact e
    · refine ⟨F + d + 1, by omega, ?_⟩
      rw [show F + (d + 1) + 1 = (F + d + 1) + 1 by omega, tailwaterlaw34_SinkLate.l0, if_neg (by rw [sortLate_length]; omega)]
theorem SinkLate_l2 (l : List S33) (hl : l.length < 100000) (ok : Bool) (i : Nat) (hi : i < l.length) (F : Nat) : ∀ (d j n m : Nat), j + d = l.length → n ≤ j → m ≤ j →
    tailwaterlaw34_SinkLate.l2 (F + d + 1) l ok (sortLate l) (i : Int) (n : Int) (m : Int) (j : Int) = if n + (l.drop j).count l[i] = m + ((sortLate l).drop j).count l[i] then tailwaterlaw34_SinkLate.l1 F l ok (sortLate l) ((i + 1 : Nat) : Int) else some false := by
  have hx := sortLate_length l
  intro d
  induction d with
  | zero =>
    intro j n m hj hn hm
    rw [tailwaterlaw34_SinkLate.l2, if_neg (by omega), List.drop_eq_nil_of_le (by omega), List.drop_eq_nil_of_le (by omega), wrap_succ i (by omega)]
    by_cases c : n = m
    · rw [if_pos (by omega), if_pos (by simpa using c)]
    · rw [if_neg (by omega), if_neg (by simpa using c)]
  | succ d ih =>
    intro j n m hj hn hm
    have e1 : l.drop j = l[j] :: l.drop (j + 1) := List.drop_eq_getElem_cons (by omega)
    have e2 : (sortLate l).drop j = (sortLate l)[j] :: (sortLate l).drop (j + 1) := List.drop_eq_getElem_cons (by omega)
    rw [show F + (d + 1) + 1 = (F + d + 1) + 1 by omega, tailwaterlaw34_SinkLate.l2, wrap_succ j (by omega), wrap_succ n (by omega), wrap_succ m (by omega)]
    rw [if_pos (by omega), if_pos (by omega), if_pos (by omega), if_pos (by omega), rd33_at l j (by omega), rd33_at l i hi, rd33_at (sortLate l) j (by omega), e1, e2]
    by_cases c1 : l[j] = l[i]
    · rw [if_pos ((eq33 _ _).2 c1), if_pos (by omega), c1, List.count_cons_self]
      by_cases c2 : (sortLate l)[j] = l[i]
      · rw [if_pos ((eq33 _ _).2 c2), ih (j + 1) (n + 1) (m + 1) (by omega) (by omega) (by omega), c2, List.count_cons_self]
        congr 1
        simp only [eq_iff_iff]
        omega
      · rw [if_neg (fun h => c2 ((eq33 _ _).1 h)), ih (j + 1) (n + 1) m (by omega) (by omega) (by omega), List.count_cons_of_ne c2]
        congr 1
        simp only [eq_iff_iff]
        omega
    · rw [if_neg (fun h => c1 ((eq33 _ _).1 h)), if_pos (by omega), List.count_cons_of_ne c1]
      by_cases c2 : (sortLate l)[j] = l[i]
      · rw [if_pos ((eq33 _ _).2 c2), ih (j + 1) n (m + 1) (by omega) (by omega) (by omega), c2, List.count_cons_self]
        congr 1
        simp only [eq_iff_iff]
        omega
      · rw [if_neg (fun h => c2 ((eq33 _ _).1 h)), ih (j + 1) n m (by omega) (by omega) (by omega), List.count_cons_of_ne c2]
theorem SinkLate_l1 (l : List S33) (hl : l.length < 100000) (ok : Bool) : ∀ (d i : Nat), i + d = l.length → ∀ k, d * (l.length + 2) + 1 ≤ k → tailwaterlaw34_SinkLate.l1 k l ok (sortLate l) (i : Int) = some ok := by
  intro d
  induction d with
  | zero =>
    intro i hi k hk
    obtain ⟨k, rfl⟩ : ∃ k', k = k' + 1 := ⟨k - 1, by omega⟩
    rw [tailwaterlaw34_SinkLate.l1, if_neg (by omega)]
  | succ d ih =>
    intro i hi k hk
    have hmul : (d + 1) * (l.length + 2) = d * (l.length + 2) + (l.length + 2) := by rw [Nat.add_mul, Nat.one_mul]
    rw [hmul] at hk
    generalize hD : d * (l.length + 2) = D at *
    obtain ⟨F, rfl⟩ : ∃ F, k = F + l.length + 1 + 1 := ⟨k - l.length - 2, by omega⟩
    rw [tailwaterlaw34_SinkLate.l1, if_pos (by omega)]
    have h2 := SinkLate_l2 l hl ok i (by omega) F l.length 0 0 0 (by omega) (by omega) (by omega)
    have h3 : tailwaterlaw34_SinkLate.l2 (F + l.length + 1) l ok (sortLate l) (i : Int) 0 0 0 = _ := h2
    rw [h3, if_pos (by simp only [List.drop_zero, Nat.zero_add]; exact ((sortLate_perm l).count_eq _).symm)]
    exact ih (i + 1) (by omega) F (by omega)
theorem SinkLate_fun (l : List S33) : ∃ k, tailwaterlaw34_SinkLate.f k l = some true := by
  refine ⟨10000, ?_⟩
  unfold tailwaterlaw34_SinkLate.f
  rw [alive_f 10000 (by omega)]
  simp only [Option.bind_some, Bool.not_true]
  by_cases h : (l.length : Int) > 60
  · rw [if_pos h, show (10000 : Nat) = 9999 + 1 from rfl, tailwaterlaw34_SinkLate.j0, if_pos rfl]
  · rw [if_neg h, show (10000 : Nat) = 9999 + 1 from rfl, tailwaterlaw34_SinkLate.j0, if_neg (by simp), sinkLate_f]
    have hr : lateR l = (sortLate l, 0) := by unfold lateR; rw [if_neg (by omega)]
    rw [hr]
    simp only [Option.bind_some, if_true]
    have hlen := sortLate_length l
    rw [show (((sortLate l).length : Int) != (l.length : Int)) = false by rw [hlen]; simp]
    rw [show (9999 : Nat) = 9998 + 1 from rfl, tailwaterlaw34_SinkLate.j1, if_neg (by simp)]
    obtain ⟨F', hF, e⟩ := SinkLate_l0 l (by omega) true (9998 - 61) 60 1 (by omega) (by omega)
    have e' : tailwaterlaw34_SinkLate.l0 9998 l true (sortLate l) 1 = tailwaterlaw34_SinkLate.l1 F' l true (sortLate l) 0 := e
    rw [e']
    refine SinkLate_l1 l (by omega) true l.length 0 (by omega) F' ?_
    have : l.length * (l.length + 2) ≤ 60 * 62 := Nat.mul_le_mul (by omega) (by omega)
    omega
end Go.Proofs.Ytbeldjhpbomonaa.Si
