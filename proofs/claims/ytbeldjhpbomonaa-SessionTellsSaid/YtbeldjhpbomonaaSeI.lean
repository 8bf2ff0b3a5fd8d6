/- What Merge of the reference hands back; conditions: lists that are not too long. -/
import Derived.Test.YtbeldjhpbomonaaSeH
import Derived.Test.YtbeldjhpbomonaaSex12
namespace Go.Proofs.Ytbeldjhpbomonaa.Se
open Go.RowKit Go.Proofs.YtbeldjhpbomonaaW.PrintWords Go.Proofs.YtbeldjhpbomonaaW.PrintLast Go.Proofs.YtbeldjhpbomonaaW.PrintMore
set_option linter.unusedVariables false

theorem refmerge_loop (b : List S35) (hb : b.length < 10000000000) (hbp : Pos b) : ∀ (d k : Nat) (acc : List S35) (i : Nat), b.length - i = d → i ≤ b.length → 2 * d + acc.length + b.length + 1 < k → acc.length < 10000000000 + i → Pos acc → Ord acc →
    tailwaterref15_Merge.l0 k b acc (i : Int) = some (if (mergeL acc (b.drop i)).length ≤ 4000 then (mergeL acc (b.drop i), 0) else ([], 4)) := by
  intro d
  induction d with
  | zero =>
    intro k acc i hd hi hk ha hp ho
    obtain ⟨k, rfl⟩ : ∃ m, k = m + 1 := ⟨k - 1, by omega⟩
    simp only [tailwaterref15_Merge.l0]
    rw [if_neg (by omega), List.drop_of_length_le (by omega)]
    unfold mergeL
    rw [List.foldl_nil]
    by_cases c3 : acc.length ≤ 4000
    · rw [if_neg (by omega), if_pos c3]
    · rw [if_pos (by omega), if_neg c3]
  | succ d ih =>
    intro k acc i hd hi hk ha hp ho
    obtain ⟨k, rfl⟩ : ∃ m, k = m + 1 := ⟨k - 1, by omega⟩
    have hlt : i < b.length := by omega
    have hw := wrap_succ i (by omega)
    have hpos : b[i].f0 < b[i].f1 := hbp _ (List.getElem_mem _)
    have hwl := with_len hpos hp ho
    simp only [tailwaterref15_Merge.l0]
    rw [if_pos (by omega), if_pos (by omega), hw, rd_at b i hlt, with_f _ _ _ (by omega) k (by omega), List.drop_eq_getElem_cons hlt]
    simp only [Option.bind_some]
    rw [ih k _ (i + 1) (by omega) (by omega) (by omega) (by omega) (with_pos hpos hp ho) (with_ord hpos hp ho)]
    rfl
open Classical in
theorem refmerge_f (a b : List S35) (ha : a.length < 10000000000) (hb : b.length < 10000000000) (k : Nat) (hk : a.length + 3 * b.length + 8 < k) : tailwaterref15_Merge.f k a b = some (mergeR a b) := by
  unfold tailwaterref15_Merge.f mergeR
  obtain ⟨k, rfl⟩ : ∃ m, k = m + 1 := ⟨k - 1, by omega⟩
  rw [refright_f a (by omega) _ (by omega)]
  simp only [Option.bind_some, tailwaterref15_Merge.j0]
  by_cases c : RightP a
  · rw [decide_eq_true c, if_pos rfl, refright_f b (by omega) _ (by omega)]
    simp only [Option.bind_some]
    by_cases c2 : RightP b
    · rw [if_neg (by simp [c2]), if_pos (show RightP a ∧ RightP b from ⟨c, c2⟩), if_pos (by simp; omega)]
      have := refmerge_loop b hb (right_pos c2) b.length k a 0 (by omega) (by omega) (by omega) (by omega) (right_pos c) (right_ord c)
      rw [show ((0 : Nat) : Int) = 0 from rfl, List.drop_zero] at this
      rw [List.nil_append]
      exact this
    · rw [if_pos (by simp [c2]), if_neg (fun h => c2 h.2)]
  · rw [decide_eq_false c, if_neg (by simp), if_pos trivial, if_neg (fun h => c h.1)]

end Go.Proofs.Ytbeldjhpbomonaa.Se
