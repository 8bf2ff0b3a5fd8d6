/- SinkLate, SinkSorted: the laws' functions hand back true. No condition. -/
import Derived.Test.YtbeldjhpbomonaaSiR
import Derived.Test.YtbeldjhpbomonaaSix15
import Derived.Test.YtbeldjhpbomonaaSix17
namespace Go.Proofs.Ytbeldjhpbomonaa.Si
open Go.RowKit Go.Sort Go.Proofs.YtbeldjhpbomonaaW.PrintWords Go.Proofs.YtbeldjhpbomonaaW.PrintLast Go.Proofs.YtbeldjhpbomonaaW.PrintMore
set_option linter.unusedVariables false
set_option linter.unnecessarySimpa false
set_option linter.unusedSimpArgs false

theorem sortRows_pair (l : List S38) : (sortRows l).Pairwise (fun x y => ltOf byRowI y x = false) := by
  have := List.pairwise_mergeSort (le := fun x y => !(ltOf byRowI) y x) (fun a b c => le_trans_of swoRow a b c) (fun a b => le_total_of swoRow a b) l
  exact this.imp (fun h => by simpa using h)
theorem sortLate_pair (l : List S33) : (sortLate l).Pairwise (fun x y => ltOf byRecordI y x = false) := by
  have := List.pairwise_mergeSort (le := fun x y => !(ltOf byRecordI) y x) (fun a b c => le_trans_of swoRec a b c) (fun a b => le_total_of swoRec a b) l
  exact this.imp (fun h => by simpa using h)
theorem sortRows_perm (l : List S38) : (sortRows l).Perm l := List.mergeSort_perm _ _
theorem sortLate_perm (l : List S33) : (sortLate l).Perm l := List.mergeSort_perm _ _
theorem sortRows_of (l r : List S38) (hp : r.Perm l) (hs : r.Pairwise (fun x y => ltOf byRowI y x = false)) : sortRows l = r := sort_unique swoRow totRow l r hp hs
theorem sortRows_again (l : List S38) : sortRows (sortRows l) = sortRows l := sortRows_of _ _ (List.Perm.refl _) (sortRows_pair l)
theorem sortRows_eq_iff (l m : List S38) : sortRows l = sortRows m ↔ l.Perm m :=
  ⟨fun h => (sortRows_perm l).symm.trans (h ▸ sortRows_perm m), fun h => sortRows_of l (sortRows m) ((sortRows_perm m).trans h.symm) (sortRows_pair m)⟩

theorem span_f (a b : Int) : tailwaterlaw34_span.f a b = some (0, a, b, 0, 0) := rfl
theorem alive_f (k : Nat) (hk : 100 ≤ k) : tailwaterlaw34_alive.f k = some true := by
  unfold tailwaterlaw34_alive.f
  simp only [span_f, Option.bind_some, sinkRows_f]
  have e : sortRows [⟨0, ⟨5, 20⟩, ⟨0, 0⟩⟩, ⟨0, ⟨0, 10⟩, ⟨0, 0⟩⟩, ⟨0, ⟨5, 10⟩, ⟨0, 0⟩⟩] = [⟨0, ⟨0, 10⟩, ⟨0, 0⟩⟩, ⟨0, ⟨5, 10⟩, ⟨0, 0⟩⟩, ⟨0, ⟨5, 20⟩, ⟨0, 0⟩⟩] := by
    refine sortRows_of _ _ (by decide) ?_
    simp [lt_row, rowL, lowL]
  have e2 : rowsR [⟨0, ⟨5, 20⟩, ⟨0, 0⟩⟩, ⟨0, ⟨0, 10⟩, ⟨0, 0⟩⟩, ⟨0, ⟨5, 10⟩, ⟨0, 0⟩⟩] = ([⟨0, ⟨0, 10⟩, ⟨0, 0⟩⟩, ⟨0, ⟨5, 10⟩, ⟨0, 0⟩⟩, ⟨0, ⟨5, 20⟩, ⟨0, 0⟩⟩], 0) := by
    unfold rowsR
    rw [e]
    rfl
  rw [e2]
  simp only [if_true]
  rw [sameRows_f _ _ (by simp) k (by simp; omega)]
  simp

theorem eq33 (a b : S33) : (((a.f0) == (b.f0) && ((a.f1) == (b.f1) && ((a.f2) == (b.f2)))) = true) ↔ a = b := by
  obtain ⟨a0, a1, a2⟩ := a
  obtain ⟨b0, b1, b2⟩ := b
  simp
theorem eq38 (a b : S38) : (((a.f0) == (b.f0) && (((a.f1.f0) == (b.f1.f0) && ((a.f1.f1) == (b.f1.f1))) && (((a.f2.f0) == (b.f2.f0) && ((a.f2.f1) == (b.f2.f1)))))) = true) ↔ a = b := by
  obtain ⟨a0, ⟨a1, a2⟩, ⟨a3, a4⟩⟩ := a
  obtain ⟨b0, ⟨b1, b2⟩, ⟨b3, b4⟩⟩ := b
  simp [and_assoc]

theorem often_l0 (l : List S38) (v : S38) (hl : l.length < 100000) : ∀ (k j n : Nat), j ≤ l.length → l.length - j < k → n ≤ j → tailwaterlaw34_often.l0 k l (n : Int) (j : Int) v.f0 v.f1.f0 v.f1.f1 v.f2.f0 v.f2.f1 = some ((n + (l.drop j).count v : Nat) : Int) := by
  intro k
  induction k with
  | zero => intro j n _ h; omega
  | succ k ih =>
    intro j n hj hk hn
    rw [tailwaterlaw34_often.l0]
    by_cases hlt : j < l.length
    · have e2 : l.drop j = l[j] :: l.drop (j + 1) := List.drop_eq_getElem_cons hlt
      rw [if_pos (by omega), if_pos (by omega), rd38_at l j hlt, wrap_succ j (by omega), wrap_succ n (by omega)]
      by_cases he : l[j] = v
      · rw [if_pos ((eq38 _ _).2 he), ih (j + 1) (n + 1) (by omega) (by omega) (by omega), e2, he, List.count_cons_self]
        congr 1
        omega
      · rw [if_neg (fun h => he ((eq38 _ _).1 h)), ih (j + 1) n (by omega) (by omega) (by omega), e2, List.count_cons_of_ne he]
    · rw [if_neg (by omega), List.drop_eq_nil_of_le (by omega)]
      simp
theorem often_f (l : List S38) (v : S38) (hl : l.length < 100000) (k : Nat) (hk : l.length < k) : tailwaterlaw34_often.f k l v.f0 v.f1.f0 v.f1.f1 v.f2.f0 v.f2.f1 = some (l.count v : Int) := by
  have := often_l0 l v hl k 0 0 (by omega) (by omega) (by omega)
  simpa [tailwaterlaw34_often.f] using this

/-- Lists of as many elements, in which each element of one is as often: the same but for the order. -/
theorem perm_of_count (l m : List S38) (hl : l.length = m.length) (h : ∀ x ∈ l, l.count x = m.count x) : l.Perm m := by
  have h1 : l.Perm (m.filter fun x => decide (x ∈ l)) := by
    rw [List.perm_iff_count]
    intro a
    by_cases ha : a ∈ l
    · rw [List.count_filter (by simpa using ha)]
      exact h a ha
    · rw [List.count_eq_zero_of_not_mem ha, List.count_eq_zero_of_not_mem]
      intro hm
      rw [List.mem_filter] at hm
      exact ha (by simpa using hm.2)
  have h2 : (m.filter fun x => decide (x ∈ l)).length = m.length := by rw [← h1.length_eq, hl]
  have h3 : m.filter (fun x => decide (x ∈ l)) = m := List.filter_eq_self.2 (List.length_filter_eq_length_iff.1 h2)
  rw [h3] at h1
  exact h1
theorem low3 (a b : S33) (h : lowL (recL b) (recL a) = false) : ¬ (a.f1 > b.f1) ∧ (a.f1 = b.f1 → ¬ (a.f0 > b.f0)) ∧ (a.f1 = b.f1 → a.f0 = b.f0 → ¬ (a.f2 > b.f2)) := by
  simp only [recL, lowL] at h
  by_cases c1 : b.f1 = a.f1
  · rw [if_pos c1] at h
    by_cases c2 : b.f0 = a.f0
    · rw [if_pos c2] at h
      by_cases c3 : b.f2 = a.f2
      · refine ⟨by omega, fun _ => by omega, fun _ _ => by omega⟩
      · rw [if_neg c3] at h
        simp at h
        refine ⟨by omega, fun _ => by omega, fun _ _ => by omega⟩
    · rw [if_neg c2] at h
      simp at h
      refine ⟨by omega, fun _ => by omega, fun _ _ => by omega⟩
  · rw [if_neg c1] at h
    simp at h
    refine ⟨by omega, fun _ => by omega, fun _ _ => by omega⟩
theorem low5 (a b : S38) (h : lowL (rowL b) (rowL a) = false) : ¬ (a.f1.f1 > b.f1.f1) ∧ (a.f1.f1 = b.f1.f1 → ¬ (a.f1.f0 > b.f1.f0)) ∧ (a.f1.f1 = b.f1.f1 → a.f1.f0 = b.f1.f0 → ¬ (a.f0 > b.f0)) := by
  simp only [rowL, lowL] at h
  by_cases c1 : b.f1.f1 = a.f1.f1
  · rw [if_pos c1] at h
    by_cases c2 : b.f1.f0 = a.f1.f0
    · rw [if_pos c2] at h
      by_cases c3 : b.f0 = a.f0
      · refine ⟨by omega, fun _ => by omega, fun _ _ => by omega⟩
      · rw [if_neg c3] at h
        simp at h
        refine ⟨by omega, fun _ => by omega, fun _ _ => by omega⟩
    · rw [if_neg c2] at h
      simp at h
      refine ⟨by omega, fun _ => by omega, fun _ _ => by omega⟩
  · rw [if_neg c1] at h
    simp at h
    refine ⟨by omega, fun _ => by omega, fun _ _ => by omega⟩
theorem wrap_pred1 (n : Nat) (h : n < 4611686018427387904) : wrap64 (((n + 1 : Nat) : Int) - 1) = (n : Int) := by unfold wrap64; omega
end Go.Proofs.Ytbeldjhpbomonaa.Si
