/- SinkSorted: the law's function hands back true. No condition. -/
import Derived.Test.YtbeldjhpbomonaaSiT
import Derived.Test.YtbeldjhpbomonaaSix18
namespace Go.Proofs.Ytbeldjhpbomonaa.Si
open Go.RowKit Go.Sort Go.Proofs.YtbeldjhpbomonaaW.PrintWords Go.Proofs.YtbeldjhpbomonaaW.PrintLast Go.Proofs.YtbeldjhpbomonaaW.PrintMore
set_option linter.unusedVariables false
set_option linter.unnecessarySimpa false
set_option linter.unusedSimpArgs false

theorem rows_at (l : List S38) (n : Nat) (h : n + 1 < (sortRows l).length) : lowL (rowL (sortRows l)[n + 1]) (rowL (sortRows l)[n]) = false := by
  have := List.pairwise_iff_getElem.1 (sortRows_pair l) n (n + 1) (by omega) h (by omega)
  rwa [lt_row] at this
theorem SinkSorted_l1 (l : List S38) (hl : l.length < 100000) (is same : Bool) : ∀ (d i : Nat), 1 ≤ i → l.length ≤ i + d → ∀ k, d + 1 ≤ k → tailwaterlaw34_SinkSorted.l1 k true (sortRows l) is same (i : Int) = some (is == same) := by
  intro d
  have hx := sortRows_length l
  induction d with
  | zero =>
    intro i h1 h2 k hk
    obtain ⟨k, rfl⟩ : ∃ k', k = k' + 1 := ⟨k - 1, by omega⟩
    rw [tailwaterlaw34_SinkSorted.l1, if_neg (by omega), if_pos rfl]
  | succ d ih =>
    intro i h1 h2 k hk
    obtain ⟨k, rfl⟩ : ∃ k', k = k' + 1 := ⟨k - 1, by omega⟩
    by_cases hlt : i < l.length
    · obtain ⟨n, rfl⟩ : ∃ n, i = n + 1 := ⟨i - 1, by omega⟩
      have e := ih (n + 2) (by omega) (by omega) k (by omega)
      have ha := low5 _ _ (rows_at l n (by omega))
      have s1 : wrap64 (((n + 1 : Nat) : Int) + 1) = ((n + 2 : Nat) : Int) := wrap_succ (n + 1) (by omega)
      rw [tailwaterlaw34_SinkSorted.l1, wrap_pred1 n (by omega), s1]
      rw [if_pos (by omega), if_pos (by omega), if_pos (by omega), if_pos (by omega), rd38_at _ n (by omega), rd38_at _ (n + 1) (by omega)]
      rw [if_neg ha.1]
      by_cases c1 : (sortRows l)[n].f1.f1 = (sortRows l)[n + 1].f1.f1
      · rw [if_pos c1, if_neg (ha.2.1 c1)]
        by_cases c2 : (sortRows l)[n].f1.f0 = (sortRows l)[n + 1].f1.f0
        · rw [if_pos c2, if_neg (ha.2.2 c1 c2)]
          exact e
        · rw [if_neg c2]
          exact e
      · rw [if_neg c1]
        exact e
    · rw [tailwaterlaw34_SinkSorted.l1, if_neg (by omega), if_pos rfl]
/-- What the loop gathers. -/
theorem SinkSorted_l0 (l m : List S38) (hl : l.length < 1000) (hm : m.length < 1000) (is : Bool) : ∀ (d i : Nat) (same : Bool), i + d = l.length → ∀ k, d + 3000 ≤ k →
    tailwaterlaw34_SinkSorted.l0 k l m true (sortRows l) is same (i : Int) = some (is == (same && decide (∀ x ∈ l.drop i, l.count x = m.count x))) := by
  intro d
  induction d with
  | zero =>
    intro i same hi k hk
    obtain ⟨k, rfl⟩ : ∃ k', k = k' + 1 := ⟨k - 1, by omega⟩
    rw [tailwaterlaw34_SinkSorted.l0, if_neg (by omega)]
    have := SinkSorted_l1 l (by omega) is same l.length 1 (by omega) (by omega) k (by omega)
    have e : tailwaterlaw34_SinkSorted.l1 k true (sortRows l) is same 1 = some (is == same) := this
    rw [e, List.drop_eq_nil_of_le (by omega)]
    simp
  | succ d ih =>
    intro i same hi k hk
    obtain ⟨k, rfl⟩ : ∃ k', k = k' + 1 := ⟨k - 1, by omega⟩
    have hx := sortRows_length l
    rw [tailwaterlaw34_SinkSorted.l0, if_pos (by omega), if_pos (by omega), rd38_at l i (by omega), often_f (sortRows l) _ (by omega) k (by omega), often_f l _ (by omega) k (by omega), wrap_succ i (by omega)]
    simp only [Option.bind_some]
    rw [if_pos (by rw [(sortRows_perm l).count_eq])]
    have e1 : l.drop i = l[i] :: l.drop (i + 1) := List.drop_eq_getElem_cons (by omega)
    cases same with
    | false =>
      rw [if_neg (by simp), ih (i + 1) false (by omega) k (by omega)]
      simp
    | true =>
      rw [if_pos rfl, often_f m _ (by omega) k (by omega)]
      simp only [Option.bind_some]
      rw [ih (i + 1) _ (by omega) k (by omega), e1]
      congr 2
      by_cases c : l.count l[i] = m.count l[i]
      · simp only [c, beq_self_eq_true, Bool.true_and, List.mem_cons, forall_eq_or_imp, true_and]
      · have c' : ((l.count l[i] : Int) == (m.count l[i] : Int)) = false := by
          rw [beq_eq_false_iff_ne]
          omega
        rw [c', Bool.false_and, Bool.true_and]
        exact (decide_eq_false (fun h => c (h _ List.mem_cons_self))).symm
theorem SinkSorted_fun (l m : List S38) : ∃ k, tailwaterlaw34_SinkSorted.f k l m = some true := by
  refine ⟨50000, ?_⟩
  unfold tailwaterlaw34_SinkSorted.f
  rw [alive_f 50000 (by omega)]
  simp only [Option.bind_some, Bool.not_true]
  have hj : tailwaterlaw34_SinkSorted.j0 50000 l m true true = some true := by
    rw [show (50000 : Nat) = 49999 + 1 from rfl, tailwaterlaw34_SinkSorted.j0, if_pos rfl]
  by_cases h : (l.length : Int) > 60
  · rw [if_pos h]
    exact hj
  · rw [if_neg h]
    by_cases h' : (m.length : Int) > 60
    · rw [if_pos h']
      exact hj
    · rw [if_neg h', show (50000 : Nat) = 49999 + 1 from rfl, tailwaterlaw34_SinkSorted.j0, if_neg (by simp)]
      have r1 : rowsR l = (sortRows l, 0) := by unfold rowsR; rw [if_neg (by omega)]
      have r2 : rowsR (sortRows l) = (sortRows (sortRows l), 0) := by unfold rowsR; rw [if_neg (by rw [sortRows_length]; omega)]
      have r3 : sameR l m = (decide (sortRows l = sortRows m), 0) := by unfold sameR; rw [if_neg (by omega)]
      rw [sinkRows_f, r1]
      simp only [Option.bind_some]
      rw [sinkRows_f, r2, sinkSame_f l m 49999 (by omega), r3]
      simp only [Option.bind_some, if_true]
      rw [if_pos (by rw [sortRows_length]), sortRows_again, sameRows_f _ _ (by rw [sortRows_length]; omega) 49999 (by rw [sortRows_length]; omega)]
      simp only [Option.bind_some, decide_true, Bool.not_true]
      rw [show (49999 : Nat) = 49998 + 1 from rfl, tailwaterlaw34_SinkSorted.j1, if_neg (by simp)]
      have := SinkSorted_l0 l m (by omega) (by omega) (decide (sortRows l = sortRows m)) l.length 0 ((l.length : Int) == (m.length : Int)) (by omega) 49998 (by omega)
      have e : tailwaterlaw34_SinkSorted.l0 49998 l m true (sortRows l) (decide (sortRows l = sortRows m)) ((l.length : Int) == (m.length : Int)) 0 = _ := this
      rw [e]
      congr 1
      rw [beq_iff_eq]
      by_cases hp : l.Perm m
      · rw [decide_eq_true ((sortRows_eq_iff l m).2 hp), hp.length_eq, decide_eq_true (fun x _ => hp.count_eq x)]
        simp
      · rw [decide_eq_false (fun h => hp ((sortRows_eq_iff l m).1 h))]
        symm
        rw [Bool.and_eq_false_iff]
        by_cases c : l.length = m.length
        · right
          rw [decide_eq_false]
          intro hc
          exact hp (perm_of_count l m c (by simpa using hc))
        · left
          rw [beq_eq_false_iff_ne]
          omega
end Go.Proofs.Ytbeldjhpbomonaa.Si
