/- What Of and Add of the reference, and Merge of the program, hand back; conditions: lists that are not too long. -/
import Derived.Test.YtbeldjhpbomonaaSeE
import Derived.Test.YtbeldjhpbomonaaSex11
namespace Go.Proofs.Ytbeldjhpbomonaa.Se
open Go.RowKit Go.Proofs.YtbeldjhpbomonaaW.PrintWords Go.Proofs.YtbeldjhpbomonaaW.PrintLast Go.Proofs.YtbeldjhpbomonaaW.PrintMore
set_option linter.unusedVariables false

/-! ### With -/
theorem overlap_f (x : S35) (a b : Int) : tailwaterref15_Overlap.f x.f0 x.f1 a b = some (decide (ovl x a b)) := by
  unfold tailwaterref15_Overlap.f ovl
  by_cases c : x.f0 < b
  · rw [if_pos c]; simp [c]
  · rw [if_neg c]; simp [c]
theorem with_loop (xs : List S35) (hb : xs.length < 1000000000000) : ∀ (d k : Nat) (st : WSt) (i : Nat), xs.length - i = d → i ≤ xs.length → d < k → st.bf.length ≤ i → st.bh.length ≤ i →
    tailwaterref15_With.l0 k xs st.bf st.bh (i : Int) st.s0 st.s1 = some ((xs.drop i).foldl wstep st).out := by
  intro d
  induction d with
  | zero =>
    intro k st i hd hi hk h1 h2
    obtain ⟨k, rfl⟩ : ∃ m, k = m + 1 := ⟨k - 1, by omega⟩
    simp only [tailwaterref15_With.l0]
    rw [if_neg (by omega), List.drop_of_length_le (by omega), if_pos (by omega)]
    simp only [Option.bind_some, List.foldl_nil]
    rw [if_pos (by simp; omega)]
    rfl
  | succ d ih =>
    intro k st i hd hi hk h1 h2
    obtain ⟨k, rfl⟩ : ∃ m, k = m + 1 := ⟨k - 1, by omega⟩
    have hlt : i < xs.length := by omega
    have hw := wrap_succ i (by omega)
    simp only [tailwaterref15_With.l0]
    rw [if_pos (by omega), if_pos (by omega), hw, rd_at xs i hlt, overlap_f, List.drop_eq_getElem_cons hlt, List.foldl_cons]
    simp only [Option.bind_some, decide_eq_true_eq]
    by_cases c : ovl xs[i] st.s0 st.s1
    · rw [if_pos c]
      have es : wstep st xs[i] = ⟨st.bf, st.bh, mn st.s0 xs[i].f0, mx st.s1 xs[i].f1⟩ := by unfold wstep; rw [if_pos c]
      rw [es]
      exact ih k ⟨st.bf, st.bh, mn st.s0 xs[i].f0, mx st.s1 xs[i].f1⟩ (i + 1) (by omega) (by omega) (by omega) (by simp only; omega) (by simp only; omega)
    · rw [if_neg c]
      by_cases c2 : xs[i].f0 < st.s0
      · rw [if_pos c2, if_pos (by omega)]
        have es : wstep st xs[i] = ⟨st.bf ++ [xs[i]], st.bh, st.s0, st.s1⟩ := by unfold wstep; rw [if_neg c, if_pos c2]
        rw [es]
        exact ih k ⟨st.bf ++ [xs[i]], st.bh, st.s0, st.s1⟩ (i + 1) (by omega) (by omega) (by omega) (by simp; omega) (by simp only; omega)
      · rw [if_neg c2, if_pos (by omega)]
        have es : wstep st xs[i] = ⟨st.bf, st.bh ++ [xs[i]], st.s0, st.s1⟩ := by unfold wstep; rw [if_neg c, if_neg c2]
        rw [es]
        exact ih k ⟨st.bf, st.bh ++ [xs[i]], st.s0, st.s1⟩ (i + 1) (by omega) (by omega) (by omega) (by simp only; omega) (by simp; omega)
theorem with_f (l : List S35) (a b : Int) (hb : l.length < 1000000000000) (k : Nat) (hk : l.length < k) : tailwaterref15_With.f k l a b = some (withL l a b) := by
  unfold tailwaterref15_With.f
  have := with_loop l hb l.length k ⟨[], [], a, b⟩ 0 (by omega) (by omega) (by omega) (by simp) (by simp)
  rw [List.drop_zero] at this
  exact this
/-! ### Of, the reference's -/
open Classical in
theorem refof_loop (xs : List Int) (g : Int) (hg : okGap g) (hb : xs.length < 100000000000) : ∀ (d k : Nat) (acc : List S35) (i : Nat), xs.length - i = d → i ≤ xs.length → d + xs.length + 1 < k → acc.length ≤ i → Pos acc → Ord acc →
    tailwaterref15_Of.l0 k xs g acc (i : Int) = some (if ∀ t ∈ xs.drop i, okTime t then ((xs.drop i).foldl (fun l t => withL l t (t + g)) acc, 0) else ([], 16)) := by
  intro d
  induction d with
  | zero =>
    intro k acc i hd hi hk ha hp ho
    obtain ⟨k, rfl⟩ : ∃ m, k = m + 1 := ⟨k - 1, by omega⟩
    simp only [tailwaterref15_Of.l0]
    rw [if_neg (by omega), List.drop_of_length_le (by omega), if_pos (by simp)]
    simp
  | succ d ih =>
    intro k acc i hd hi hk ha hp ho
    obtain ⟨k, rfl⟩ : ∃ m, k = m + 1 := ⟨k - 1, by omega⟩
    have hlt : i < xs.length := by omega
    have hw := wrap_succ i (by omega)
    simp only [tailwaterref15_Of.l0]
    rw [if_pos (by omega), if_pos (by omega), hw, rdI_at xs i hlt, refcheck_f _ _ k (by omega), List.drop_eq_getElem_cons hlt]
    simp only [Option.bind_some]
    by_cases c : okTime xs[i]
    · have hwr : wrap64 (xs[i] + g) = xs[i] + g := by
        unfold okTime at c; unfold okGap at hg
        exact wrap_small _ (by omega) (by omega)
      have hpos : xs[i] < xs[i] + g := by unfold okGap at hg; omega
      have hwl := with_len hpos hp ho
      rw [if_pos ((checkC_zero _ _).2 ⟨c, hg⟩), hwr, with_f _ _ _ (by omega) k (by omega)]
      simp only [Option.bind_some]
      rw [ih k _ (i + 1) (by omega) (by omega) (by omega) (by omega) (with_pos hpos hp ho) (with_ord hpos hp ho)]
      congr 1
      have e : (∀ t ∈ xs[i] :: xs.drop (i + 1), okTime t) ↔ ∀ t ∈ xs.drop (i + 1), okTime t := by
        simp only [List.mem_cons, forall_eq_or_imp]
        exact ⟨fun h => h.2, fun h => ⟨c, h⟩⟩
      by_cases c2 : ∀ t ∈ xs.drop (i + 1), okTime t
      · rw [if_pos c2, if_pos (e.2 c2), List.foldl_cons]
      · rw [if_neg c2, if_neg (fun h => c2 (e.1 h))]
    · rw [if_neg (fun h => c ((checkC_zero _ _).1 h).1), if_neg]
      intro h
      exact c (h xs[i] List.mem_cons_self)
open Classical in
theorem refof_f (xs : List Int) (g : Int) (hb : xs.length < 100000000000) (k : Nat) (hk : 2 * xs.length + 1 < k) :
    tailwaterref15_Of.f k xs g = some (if okGap g then (if xs.length ≤ 4000 then (if ∀ t ∈ xs, okTime t then (ofL xs g, 0) else ([], 16)) else ([], 4)) else ([], 2)) := by
  unfold tailwaterref15_Of.f
  rw [refcheck_f _ _ k (by omega)]
  simp only [Option.bind_some]
  by_cases c : okGap g
  · rw [if_pos ((checkC_zero' g).2 c), if_pos c]
    by_cases c2 : xs.length ≤ 4000
    · rw [if_neg (by omega), if_pos c2]
      have := refof_loop xs g c hb xs.length k [] 0 (by omega) (by omega) (by omega) (by simp) (fun x hx => by simp at hx) List.Pairwise.nil
      rw [show ((0 : Nat) : Int) = 0 from rfl, List.drop_zero] at this
      exact this
    · rw [if_pos (by omega), if_neg c2]
  · rw [if_neg (fun h => c ((checkC_zero' g).1 h)), if_neg c]

open Classical in
theorem refadd_f (l : List S35) (t g : Int) (hb : l.length < 100000000000) (k : Nat) (hk : l.length + 1 < k) : tailwaterref15_Add.f k l t g = some (addR l t g) := by
  unfold tailwaterref15_Add.f addR
  rw [refright_f l (by omega) k (by omega)]
  simp only [Option.bind_some]
  by_cases c : RightP l
  · rw [decide_eq_true c, if_pos rfl, if_pos c, refcheck_f _ _ k (by omega)]
    simp only [Option.bind_some]
    by_cases c2 : checkC t g = 0
    · obtain ⟨ct, cg⟩ := (checkC_zero t g).1 c2
      have hwr : wrap64 (t + g) = t + g := by
        unfold okTime at ct; unfold okGap at cg
        exact wrap_small _ (by omega) (by omega)
      rw [if_pos c2, if_pos c2, hwr, with_f _ _ _ (by omega) k (by omega)]
      simp only [Option.bind_some]
      by_cases c3 : (withL l t (t + g)).length ≤ 4000
      · rw [if_neg (by omega), if_pos c3]
      · rw [if_pos (by omega), if_neg c3]
    · rw [if_neg c2, if_neg c2]
  · rw [decide_eq_false c, if_neg (by simp), if_neg c]

/-! ### Merge -/
theorem concat_f (a b : List S35) (ha : a.length < 100000000000) (hb : b.length < 100000000000) (k : Nat) (hk : 6 < k) : concatSpan.f k [a, b] = some (a ++ b) := by
  obtain ⟨k, rfl⟩ : ∃ m, k = m + 6 := ⟨k - 6, by omega⟩
  unfold concatSpan.f
  have e0 : rd_L2 [a, b] 0 = a := rfl
  have e1 : rd_L2 [a, b] 1 = b := rfl
  have w0 : wrap64 (0 + (a.length : Int)) = a.length := by unfold wrap64; omega
  have w1 : wrap64 ((a.length : Int) + (b.length : Int)) = a.length + b.length := by unfold wrap64; omega
  have w2 : wrap64 (0 + 1) = 1 := by unfold wrap64; omega
  have w3 : wrap64 (1 + 1) = 2 := by unfold wrap64; omega
  have s1 : concatSpan.l0 (k + 5 + 1) [a, b] 0 [a, b] (([a, b].length : Nat) : Int) 0 = concatSpan.l0 (k + 4 + 1) [a, b] a.length [a, b] 2 1 := by
    rw [concatSpan.l0, e0, w0, w2]
    simp only [List.length_cons, List.length_nil]
    rw [if_pos (by omega), if_pos (by omega), if_pos (by omega), if_neg (by omega)]
    rfl
  have s2 : concatSpan.l0 (k + 4 + 1) [a, b] a.length [a, b] 2 1 = concatSpan.l0 (k + 3 + 1) [a, b] (a.length + b.length) [a, b] 2 2 := by
    rw [concatSpan.l0, e1, w1, w3]
    simp only [List.length_cons, List.length_nil]
    rw [if_pos (by omega), if_pos (by omega), if_pos (by omega), if_neg (by omega)]
  have s3 : concatSpan.l0 (k + 3 + 1) [a, b] (a.length + b.length) [a, b] 2 2 = concatSpan.l1 (k + 2 + 1) [] [a, b] 2 0 := by
    rw [concatSpan.l0, if_neg (by omega)]
    unfold growSpan.f
    rw [if_pos (by omega)]
    rfl
  have s4 : concatSpan.l1 (k + 2 + 1) [] [a, b] 2 0 = concatSpan.l1 (k + 1 + 1) a [a, b] 2 1 := by
    rw [concatSpan.l1, e0, w2]
    simp only [List.length_cons, List.length_nil, List.nil_append]
    rw [if_pos (by omega), if_pos (by omega), if_pos (by omega), if_pos (by omega)]
  have s5 : concatSpan.l1 (k + 1 + 1) a [a, b] 2 1 = concatSpan.l1 (k + 1) (a ++ b) [a, b] 2 2 := by
    rw [concatSpan.l1, e1, w3]
    simp only [List.length_cons, List.length_nil]
    rw [if_pos (by omega), if_pos (by omega), if_pos (by omega), if_pos (by omega)]
  have s6 : concatSpan.l1 (k + 1) (a ++ b) [a, b] 2 2 = some (a ++ b) := by
    rw [concatSpan.l1, if_neg (by omega)]
  exact s1.trans (s2.trans (s3.trans (s4.trans (s5.trans s6))))
open Classical in
noncomputable def mergeR (a b : List S35) : List S35 × Int :=
  if RightP a ∧ RightP b then (if (mergeL a b).length ≤ 4000 then (mergeL a b, 0) else ([], 4)) else ([], 8)
open Classical in
theorem merge_f (a b : List S35) (ha : a.length < 10000000000) (hb : b.length < 10000000000) (k : Nat) (hk : a.length + b.length + 8 < k) : session_Merge.f k a b = some (mergeR a b) := by
  unfold session_Merge.f mergeR
  obtain ⟨k, rfl⟩ : ∃ m, k = m + 1 := ⟨k - 1, by omega⟩
  rw [right_f a (by omega) _ (by omega)]
  simp only [Option.bind_some, session_Merge.j0]
  by_cases c : RightP a
  · rw [decide_eq_true c, if_pos rfl, right_f b (by omega) _ (by omega)]
    simp only [Option.bind_some]
    by_cases c2 : RightP b
    · rw [if_neg (by simp [c2]), if_pos (show RightP a ∧ RightP b from ⟨c, c2⟩), concat_f a b (by omega) (by omega) k (by omega)]
      simp only [Option.bind_some]
      unfold session_few.f
      rw [merged_f _ (by simp; omega) k (by simp; omega)]
      simp only [Option.bind_some]
      rw [merge_both (right_pos c) (right_ord c) (right_pos c2)]
      by_cases c3 : (mergeL a b).length ≤ 4000
      · rw [if_neg (by omega), if_pos c3]; simp
      · rw [if_pos (by omega), if_neg c3]; simp
    · rw [if_pos (by simp [c2]), if_neg (fun h => c2 h.2)]
  · rw [decide_eq_false c, if_neg (by simp), if_pos trivial, if_neg (fun h => c h.1)]
end Go.Proofs.Ytbeldjhpbomonaa.Se
