/- SinkSorts: the law's function hands back true. No condition. -/
import Derived.Test.YtbeldjhpbomonaaSiQ
import Derived.Test.YtbeldjhpbomonaaSix14
namespace Go.Proofs.Ytbeldjhpbomonaa.Si
open Go.RowKit Go.Sort Go.Proofs.YtbeldjhpbomonaaW.PrintWords Go.Proofs.YtbeldjhpbomonaaW.PrintLast Go.Proofs.YtbeldjhpbomonaaW.PrintMore
set_option linter.unusedVariables false
set_option linter.unnecessarySimpa false
set_option linter.unusedSimpArgs false

theorem cloneRow_f (l : List S38) (h : l.length < 3518437208883) : cloneRow.f l = some l := by
  unfold cloneRow.f
  simp only [Option.bind_some, List.length_nil, List.nil_append]
  rw [if_pos (by omega)]
theorem cloneRecord_f (l : List S33) (h : l.length < 5864062014805) : cloneRecord.f l = some l := by
  unfold cloneRecord.f
  simp only [Option.bind_some, List.length_nil, List.nil_append]
  rw [if_pos (by omega)]
theorem sortRows_length (l : List S38) : (sortRows l).length = l.length := List.length_mergeSort ..
theorem sortLate_length (l : List S33) : (sortLate l).length = l.length := List.length_mergeSort ..
/-- What Rows hands back. -/
def rowsR (l : List S38) : List S38 × Int := if l.length > 4000 then ([], 4) else (sortRows l, 0)
def lateR (l : List S33) : List S33 × Int := if l.length > 4000 then ([], 4) else (sortLate l, 0)
theorem sinkRows_f (l : List S38) : sink_Rows.f l = some (rowsR l) := by
  unfold sink_Rows.f rowsR
  by_cases h : l.length > 4000
  · rw [if_pos (by omega), if_pos h]
  · rw [if_neg (by omega), if_neg h]
    unfold sink_AllRows.f
    rw [cloneRow_f l (by omega)]
    simp only [Option.bind_some]
    rw [if_pos (by omega)]
    rfl
theorem sinkLate_f (l : List S33) : sink_Late.f l = some (lateR l) := by
  unfold sink_Late.f lateR
  by_cases h : l.length > 4000
  · rw [if_pos (by omega), if_pos h]
  · rw [if_neg (by omega), if_neg h]
    unfold sink_AllLate.f
    rw [cloneRecord_f l (by omega)]
    simp only [Option.bind_some]
    rw [if_pos (by omega)]
    rfl
theorem refRows_f (l : List S38) (k : Nat) (hk : 30000 ≤ k) : tailwaterref34_Rows.f k l = some (rowsR l) := by
  unfold tailwaterref34_Rows.f rowsR
  by_cases h : l.length > 4000
  · rw [if_pos (by omega), if_pos h]
  · rw [if_neg (by omega), if_neg h, Sorted_f l (by omega) k (by omega)]
    rfl
theorem refLate_f (l : List S33) (k : Nat) (hk : 30000 ≤ k) : tailwaterref34_Late.f k l = some (lateR l) := by
  unfold tailwaterref34_Late.f lateR
  by_cases h : l.length > 4000
  · rw [if_pos (by omega), if_pos h]
  · rw [if_neg (by omega), if_neg h, SortedLate_f l (by omega) k (by omega)]
    rfl
/-- What Same hands back. -/
def sameR (l m : List S38) : Bool × Int := if l.length > 4000 ∨ m.length > 4000 then (false, 4) else (decide (sortRows l = sortRows m), 0)
theorem sinkSame_f (l m : List S38) (k : Nat) (hk : 30000 ≤ k) : sink_Same.f k l m = some (sameR l m) := by
  unfold sink_Same.f sameR
  rw [sinkRows_f, sinkRows_f]
  simp only [Option.bind_some]
  unfold rowsR
  by_cases h : l.length > 4000
  · simp [h]
  · by_cases h' : m.length > 4000
    · simp [h, h']
    · simp only [if_neg h, if_neg h', if_true]
      rw [equal_f _ _ (by rw [sortRows_length]; omega) k (by rw [sortRows_length]; omega), if_neg (by omega)]
      rfl
theorem refSame_f (l m : List S38) (k : Nat) (hk : 30001 ≤ k) : tailwaterref34_Same.f k l m = some (sameR l m) := by
  obtain ⟨k, rfl⟩ : ∃ k', k = k' + 1 := ⟨k - 1, by omega⟩
  unfold tailwaterref34_Same.f sameR
  by_cases h : l.length > 4000
  · rw [if_pos (by omega), if_pos (.inl h)]
    rw [tailwaterref34_Same.j0, if_pos rfl]
  · rw [if_neg (by omega)]
    by_cases h' : m.length > 4000
    · rw [show decide ((m.length : Int) > 4000) = true from decide_eq_true (by omega), if_pos (.inr h')]
      rw [tailwaterref34_Same.j0, if_pos rfl]
    · rw [show decide ((m.length : Int) > 4000) = false from decide_eq_false (by omega), if_neg (by omega)]
      rw [tailwaterref34_Same.j0, if_neg (by simp), Sorted_f l (by omega) k (by omega)]
      simp only [Option.bind_some]
      rw [Sorted_f m (by omega) k (by omega)]
      simp only [Option.bind_some]
      rw [sameRows_f _ _ (by rw [sortRows_length]; omega) k (by rw [sortRows_length]; omega)]
      rfl
theorem rowsR_length (l : List S38) : (rowsR l).1.length ≤ 4000 := by
  unfold rowsR
  by_cases h : l.length > 4000
  · simp [h]
  · rw [if_neg h]
    simp only [sortRows_length]
    omega
theorem lateR_length (l : List S33) : (lateR l).1.length ≤ 4000 := by
  unfold lateR
  by_cases h : l.length > 4000
  · simp [h]
  · rw [if_neg h]
    simp only [sortLate_length]
    omega

theorem great_f (n : Nat) (h : tailwaterref34_Great.f (n : Int) = some false) : n ≤ 4010 := by
  unfold tailwaterref34_Great.f at h
  by_cases a : (n : Int) > 200
  · rw [if_pos a] at h
    by_cases b : (n : Int) < 3990
    · rw [if_pos b] at h
      exact absurd h (by simp)
    · rw [if_neg b] at h
      have := Option.some.inj h
      simp at this
      omega
  · omega
theorem great_some (n : Int) : ∃ b, tailwaterref34_Great.f n = some b := by
  unfold tailwaterref34_Great.f
  by_cases a : n > 200
  · rw [if_pos a]
    by_cases b : n < 3990
    · rw [if_pos b]; exact ⟨_, rfl⟩
    · rw [if_neg b]; exact ⟨_, rfl⟩
  · rw [if_neg a]; exact ⟨_, rfl⟩

theorem SinkSorts_j0 (l0 l1 : List S38) (l2 : List S33) (h0 : l0.length ≤ 4010) (h1 : l1.length ≤ 4010) (h2 : l2.length ≤ 4010) : tailwaterlaw34_SinkSorts.j0 40001 l0 l1 l2 false = some true := by
  rw [show (40001 : Nat) = 40000 + 1 from rfl, tailwaterlaw34_SinkSorts.j0, if_neg (by simp)]
  try simp only [Option.bind_some, List.length_nil, List.nil_append]
  rw [if_pos (by omega)]
  try simp only [Option.bind_some, List.length_nil, List.nil_append]
  rw [if_pos (by omega)]
  try simp only [Option.bind_some, List.length_nil, List.nil_append]
  rw [sinkRows_f, refRows_f l0 40000 (by omega), sinkLate_f, refLate_f l2 40000 (by omega), sinkSame_f l0 l1 40000 (by omega), refSame_f l0 l1 40000 (by omega)]
  simp only [Option.bind_some]
  have a := rowsR_length l0
  have b := lateR_length l2
  rw [sameRows_f _ _ (by omega) 40000 (by omega), sameRecords_f _ _ (by omega) 40000 (by omega)]
  simp only [Option.bind_some, decide_true, if_true]
  rw [sameRows_f _ _ (by omega) 40000 (by omega), sameRecords_f _ _ (by omega) 40000 (by omega)]
  simp
theorem SinkSorts_fun (l0 l1 : List S38) (l2 : List S33) : ∃ k, tailwaterlaw34_SinkSorts.f k l0 l1 l2 = some true := by
  refine ⟨40001, ?_⟩
  have hj : tailwaterlaw34_SinkSorts.j0 40001 l0 l1 l2 true = some true := by
    rw [show (40001 : Nat) = 40000 + 1 from rfl, tailwaterlaw34_SinkSorts.j0, if_pos rfl]
  unfold tailwaterlaw34_SinkSorts.f
  obtain ⟨b0, g0⟩ := great_some (l0.length : Int)
  obtain ⟨b1, g1⟩ := great_some (l1.length : Int)
  obtain ⟨b2, g2⟩ := great_some (l2.length : Int)
  rw [g0]
  simp only [Option.bind_some]
  cases b0 with
  | true => simpa using hj
  | false =>
    rw [if_neg (by simp), g1]
    simp only [Option.bind_some]
    cases b1 with
    | true => simpa using hj
    | false =>
      rw [if_neg (by simp), g2]
      simp only [Option.bind_some]
      cases b2 with
      | true => exact hj
      | false => exact SinkSorts_j0 l0 l1 l2 (great_f _ g0) (great_f _ g1) (great_f _ g2)
end Go.Proofs.Ytbeldjhpbomonaa.Si
