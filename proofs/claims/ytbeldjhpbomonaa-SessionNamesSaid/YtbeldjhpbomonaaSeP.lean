/- SessionNames: the law's function hands back true. No condition. -/
import Derived.Test.YtbeldjhpbomonaaSeH
import Derived.Test.YtbeldjhpbomonaaSeF
import Derived.Test.YtbeldjhpbomonaaSex14
namespace Go.Proofs.Ytbeldjhpbomonaa.Se
open Go.RowKit Go.Proofs.YtbeldjhpbomonaaW.PrintWords Go.Proofs.YtbeldjhpbomonaaW.PrintLast Go.Proofs.YtbeldjhpbomonaaW.PrintMore
set_option linter.unusedVariables false
set_option linter.unnecessarySimpa false
set_option linter.unusedSimpArgs false

def manyL (n : Nat) : List S35 := (List.range n).map fun i : Nat => ⟨2 * (i : Int), 2 * (i : Int) + 1⟩
def timesL (n : Nat) : List Int := (List.range n).map fun i : Nat => 2 * (i : Int)
theorem many_len (n : Nat) : (manyL n).length = n := by simp [manyL]
theorem times_len (n : Nat) : (timesL n).length = n := by simp [timesL]
theorem many_mem {n : Nat} {s : S35} (h : s ∈ manyL n) : ∃ i : Nat, i < n ∧ s = ⟨2 * (i : Int), 2 * (i : Int) + 1⟩ := by
  simp only [manyL, List.mem_map, List.mem_range] at h
  obtain ⟨i, hi, rfl⟩ := h
  exact ⟨i, hi, rfl⟩
theorem many_take (n m : Nat) (h : n ≤ m) : (manyL m).take n = manyL n := by
  unfold manyL
  rw [← List.map_take, List.take_range, Nat.min_eq_left h]
theorem times_take (n m : Nat) (h : n ≤ m) : (timesL m).take n = timesL n := by
  unfold timesL
  rw [← List.map_take, List.take_range, Nat.min_eq_left h]
theorem many_right (n : Nat) (h : n ≤ 4000) : RightP (manyL n) := by
  refine ⟨by rw [many_len]; exact h, fun s hs => ?_, ?_⟩
  · obtain ⟨i, hi, rfl⟩ := many_mem hs
    unfold okSpan
    simp only
    omega
  · unfold Ord manyL
    rw [List.pairwise_map]
    refine List.pairwise_lt_range.imp (fun {a b} hab => ?_)
    simp only
    omega
theorem rest_step (x4 : List (List S35)) (i : Nat) (h : i < x4.length) : rd_L2 x4 (i : Int) = x4[i] := by
  show x4.getD (i : Int).toNat [] = _
  simp [h]
theorem names_l0 (F : Nat) : ∀ (d i : Nat), i + d = 4001 → tailwaterlaw15_SessionNames.l0 (F + d + 1) (manyL i) (timesL i) (i : Int) = tailwaterlaw15_SessionNames.l0 (F + 1) (manyL 4001) (timesL 4001) 4001 := by
  intro d
  induction d with
  | zero =>
    intro i hi
    have : i = 4001 := by omega
    subst this
    rfl
  | succ d ih =>
    intro i hi
    have h2 : wrap64 (2 * (i : Int)) = 2 * (i : Int) := wrap_small _ (by omega) (by omega)
    have h3 : wrap64 (2 * (i : Int) + 1) = 2 * (i : Int) + 1 := wrap_small _ (by omega) (by omega)
    rw [show F + (d + 1) + 1 = (F + d + 1) + 1 by omega, tailwaterlaw15_SessionNames.l0, if_pos (by omega), if_pos (by rw [many_len]; omega), if_pos (by rw [times_len]; omega), wrap_succ i (by omega), h2, h3]
    have e1 : manyL i ++ [(⟨2 * (i : Int), 2 * (i : Int) + 1⟩ : S35)] = manyL (i + 1) := by simp [manyL, List.range_succ]
    have e2 : timesL i ++ [2 * (i : Int)] = timesL (i + 1) := by simp [timesL, List.range_succ]
    rw [e1, e2]
    exact ih (i + 1) (by omega)
theorem names_l1 (x1 : List S35) (x2 : List Int) (x4 : List (List S35)) (hb : ∀ b ∈ x4, ¬ RightP b ∧ b.length < 5000) (hl : x4.length < 100) (F : Nat) (hF : 20000 ≤ F) : ∀ (d i : Nat), i + d = x4.length → tailwaterlaw15_SessionNames.l1 (F + d + 1) x1 x2 x4 (i : Int) = tailwaterlaw15_SessionNames.l1 (F + 1) x1 x2 x4 (x4.length : Int) := by
  intro d
  induction d with
  | zero =>
    intro i hi
    have : i = x4.length := by omega
    subst this
    rfl
  | succ d ih =>
    intro i hi
    have hm := hb x4[i] (List.getElem_mem (by omega))
    rw [show F + (d + 1) + 1 = (F + d + 1) + 1 by omega, tailwaterlaw15_SessionNames.l1, if_pos (by omega), if_pos (by omega), rest_step x4 i (by omega), wrap_succ i (by omega)]
    rw [add_f _ _ _ (by omega) _ (by omega), merge_f _ _ (by simp) (by omega) _ (by simp; omega), merge_f _ _ (by omega) (by simp) _ (by simp; omega)]
    simp only [Option.bind_some]
    have a1 : addR x4[i] 0 0 = ([], 8) := by unfold addR; rw [if_neg hm.1]
    have a2 : mergeR [] x4[i] = ([], 8) := by unfold mergeR; rw [if_neg (fun h => hm.1 h.2)]
    have a3 : mergeR x4[i] [] = ([], 8) := by unfold mergeR; rw [if_neg (fun h => hm.1 h.1)]
    rw [a1, a2, a3]
    simp only [if_true]
    exact ih (i + 1) (by omega)
theorem spans_up {l : List Int} {r : List S35} (h : tailwaterlaw15_spans.f 10 l = some r) (k : Nat) (hk : 10 ≤ k) : tailwaterlaw15_spans.f k l = some r :=
  leO_up (f := fun k => tailwaterlaw15_spans.f k l) (fun k => tailwaterlaw15_spans.mono l k) h hk
theorem not_right_of {b : List S35} {s : S35} (hs : s ∈ b) (h : ¬ okSpan s) : ¬ RightP b := fun hr => h (hr.2.1 s hs)
theorem not_right_ord {a b : S35} (h : ¬ a.f1 ≤ b.f0) : ¬ RightP [a, b] := fun hr => by
  have := hr.2.2
  unfold Ord at this
  simp at this
  exact h this
theorem right_nil : RightP [] := ⟨by simp, fun s hs => by simp at hs, List.Pairwise.nil⟩
theorem add_many1 : (addR (manyL 4000) (-9) 1).2 = 4 := by
  have hr := many_right 4000 (by omega)
  have hw := with_len_none (l := manyL 4000) (a := -9) (b := -9 + 1) (by omega) (right_pos hr) (right_ord hr) (fun x hx => by
    obtain ⟨i, hi, rfl⟩ := many_mem hx
    unfold ovl
    simp only
    omega)
  unfold addR
  rw [if_pos hr, if_pos (by decide), if_neg (by rw [hw.1, many_len]; omega)]
theorem add_many2 : addR (manyL 4000) 8 1 = (manyL 4000, 0) := by
  have hr := many_right 4000 (by omega)
  have e : withL (manyL 4000) 8 (8 + 1) = manyL 4000 := by
    refine sess_unique _ _ (with_pos (by omega) (right_pos hr) (right_ord hr)) (with_ord (by omega) (right_pos hr) (right_ord hr)) (right_pos hr) (right_ord hr) (fun q => ?_)
    rw [with_cov (by omega) (right_pos hr) (right_ord hr)]
    refine ⟨fun h => h.elim id (fun h => ⟨⟨8, 9⟩, ?_, ?_⟩), .inl⟩
    · simp only [manyL, List.mem_map, List.mem_range]
      exact ⟨4, by omega, rfl⟩
    · simp only
      omega
  unfold addR
  rw [if_pos hr, if_pos (by decide), e, if_pos (by rw [many_len]; omega)]
theorem times_mem {n : Nat} {t : Int} (h : t ∈ timesL n) : ∃ i : Nat, i < n ∧ t = 2 * (i : Int) := by
  simp only [timesL, List.mem_map, List.mem_range] at h
  obtain ⟨i, hi, rfl⟩ := h
  exact ⟨i, hi, rfl⟩
theorem times_ok (n : Nat) (h : n ≤ 4001) : ∀ t ∈ timesL n, okTime t := fun t ht => by
  obtain ⟨i, hi, rfl⟩ := times_mem ht
  unfold okTime
  omega
theorem of_full : (ofL (timesL 4000) 2).length = 4000 := by
  have hg : okGap 2 := by unfold okGap; omega
  have e : ofL (timesL 4000) 2 = (List.range 4000).map fun i : Nat => (⟨2 * (i : Int), 2 * (i : Int) + 2⟩ : S35) := by
    refine sess_unique _ _ (of_pos hg) (of_ord hg) ?_ ?_ (fun q => ?_)
    · intro s hs
      simp only [List.mem_map, List.mem_range] at hs
      obtain ⟨i, hi, rfl⟩ := hs
      simp only
      omega
    · unfold Ord
      rw [List.pairwise_map]
      refine List.pairwise_lt_range.imp (fun {a b} hab => ?_)
      simp only
      omega
    · rw [of_cov' hg]
      constructor
      · rintro ⟨t, ht, h1, h2⟩
        obtain ⟨i, hi, rfl⟩ := times_mem ht
        refine ⟨⟨2 * (i : Int), 2 * (i : Int) + 2⟩, ?_, h1, h2⟩
        simp only [List.mem_map, List.mem_range]
        exact ⟨i, hi, rfl⟩
      · rintro ⟨s, hs, h1, h2⟩
        simp only [List.mem_map, List.mem_range] at hs
        obtain ⟨i, hi, rfl⟩ := hs
        refine ⟨2 * (i : Int), ?_, h1, h2⟩
        simp only [timesL, List.mem_map, List.mem_range]
        exact ⟨i, hi, rfl⟩
  rw [e]
  simp
theorem of_one : ofL (timesL 4000) 3 = [⟨0, 8001⟩] := by
  have hg : okGap 3 := by unfold okGap; omega
  refine sess_unique _ _ (of_pos hg) (of_ord hg) ?_ ?_ (fun q => ?_)
  · intro s hs
    simp only [List.mem_singleton] at hs
    subst hs
    simp only
    omega
  · simp [Ord]
  · rw [of_cov' hg]
    constructor
    · rintro ⟨t, ht, h1, h2⟩
      obtain ⟨i, hi, rfl⟩ := times_mem ht
      refine ⟨⟨0, 8001⟩, List.mem_singleton.2 rfl, ?_, ?_⟩
      · simp only
        omega
      · simp only
        omega
    · rintro ⟨s, hs, h1, h2⟩
      simp only [List.mem_singleton] at hs
      subst hs
      simp only at h1 h2
      have hex : ∃ i : Nat, i < 4000 ∧ 4 * (i : Int) < q ∧ q < 4 * (i : Int) + 6 := by
        by_cases hq : q < 16000
        · exact ⟨((q - 1) / 4).toNat, by omega, by omega, by omega⟩
        · exact ⟨3999, by omega, by omega, by omega⟩
      obtain ⟨i, hi, h3, h4⟩ := hex
      refine ⟨2 * (i : Int), ?_, by omega, by omega⟩
      simp only [timesL, List.mem_map, List.mem_range]
      exact ⟨i, hi, rfl⟩
theorem with_nil (a b : Int) : withL [] a b = [⟨a, b⟩] := rfl
theorem merge_many : (mergeR (manyL 4000) [⟨-5, -4⟩]).2 = 4 := by
  have hr := many_right 4000 (by omega)
  have hr2 : RightP [(⟨-5, -4⟩ : S35)] := ⟨by simp, fun s hs => by simp only [List.mem_singleton] at hs; subst hs; unfold okSpan; simp only; omega, by simp [Ord]⟩
  have hw := with_len_none (l := manyL 4000) (a := -5) (b := -4) (by omega) (right_pos hr) (right_ord hr) (fun x hx => by
    obtain ⟨i, hi, rfl⟩ := many_mem hx
    unfold ovl
    simp only
    omega)
  unfold mergeR
  rw [if_pos ⟨hr, hr2⟩]
  have e : mergeL (manyL 4000) [⟨-5, -4⟩] = withL (manyL 4000) (-5) (-4) := by
    unfold mergeL
    rw [List.foldl_cons, List.foldl_nil]
  rw [e, if_neg (by rw [hw.1, many_len]; omega)]
theorem merge_nil : mergeR [] [] = ([], 0) := by
  unfold mergeR
  rw [if_pos ⟨right_nil, right_nil⟩]
  have e : mergeL [] [] = [] := rfl
  rw [e, if_pos (by simp)]
theorem add_last : addR [] 1099511627776 1073741824 = ([⟨1099511627776, 1100585369600⟩], 0) := by
  unfold addR
  rw [if_pos right_nil, if_pos (by decide), with_nil, if_pos (by simp)]
  rfl

theorem names_b1 : (addR [] 1125899906842624 0).2 = 2 := by
  unfold addR
  rw [if_pos right_nil, checkC_gap _ _ (by unfold okGap; omega), if_neg (by omega)]
theorem names_b2 : (addR [] 1099511627777 5).2 = 16 := by
  unfold addR
  rw [if_pos right_nil, checkC_time _ _ (by unfold okGap; omega) (by unfold okTime; omega), if_neg (by omega)]
theorem names_o3 : ¬ ∀ t ∈ ([0, (-1099511627777)] : List Int), okTime t := fun h => by
  have := h (-1099511627777) (by simp)
  unfold okTime at this
  omega
def badL (M : List S35) : List (List S35) := [M, [⟨5, 5⟩], [⟨6, 5⟩], [⟨1, 5⟩, ⟨4, 6⟩], [⟨9, 10⟩, ⟨1, 2⟩], [⟨-1099511627777, 0⟩], [⟨1099511627777, 1099511627778⟩], [⟨1099511627776, 1100585369601⟩]]
theorem bad_all (M : List S35) (hM : M.length = 4001) : ∀ b ∈ badL M, ¬ RightP b ∧ b.length < 5000 := by
  intro b hb
  simp only [badL, List.mem_cons, List.not_mem_nil, or_false] at hb
  rcases hb with h | h | h | h | h | h | h | h
  · rw [h]
    exact ⟨fun h => by have := h.1; omega, by omega⟩
  · rw [h]; exact ⟨not_right_of List.mem_cons_self (by unfold okSpan; simp), by simp⟩
  · rw [h]; exact ⟨not_right_of List.mem_cons_self (by unfold okSpan; simp), by simp⟩
  · rw [h]; exact ⟨not_right_ord (by simp), by simp⟩
  · rw [h]; exact ⟨not_right_ord (by simp), by simp⟩
  · rw [h]; exact ⟨not_right_of List.mem_cons_self (by unfold okSpan; simp), by simp⟩
  · rw [h]; exact ⟨not_right_of List.mem_cons_self (by unfold okSpan; simp), by simp⟩
  · rw [h]; exact ⟨not_right_of List.mem_cons_self (by unfold okSpan; simp), by simp⟩
theorem names_first (G : Nat) (hG : 20000 ≤ G) (M : List S35) (T : List Int) : tailwaterlaw15_SessionNames.l0 (G + 1) M T 4001 = tailwaterlaw15_SessionNames.l1 G M T (badL M) 0 := by
  rw [tailwaterlaw15_SessionNames.l0, if_neg (by omega)]
  rw [spans_up (l := [5, 5]) (r := [⟨5, 5⟩]) (by kernel_rfl) G (by omega)]
  rw [spans_up (l := [6, 5]) (r := [⟨6, 5⟩]) (by kernel_rfl) G (by omega)]
  rw [spans_up (l := [1, 5, 4, 6]) (r := [⟨1, 5⟩, ⟨4, 6⟩]) (by kernel_rfl) G (by omega)]
  rw [spans_up (l := [9, 10, 1, 2]) (r := [⟨9, 10⟩, ⟨1, 2⟩]) (by kernel_rfl) G (by omega)]
  rw [spans_up (l := [(-1099511627777), 0]) (r := [⟨-1099511627777, 0⟩]) (by kernel_rfl) G (by omega)]
  rw [spans_up (l := [1099511627777, 1099511627778]) (r := [⟨1099511627777, 1099511627778⟩]) (by kernel_rfl) G (by omega)]
  rw [spans_up (l := [1099511627776, 1100585369601]) (r := [⟨1099511627776, 1100585369601⟩]) (by kernel_rfl) G (by omega)]
  rfl
theorem names_last (F : Nat) (hF : 20000 ≤ F) (M M' : List S35) (T T' : List Int) (x4 : List (List S35)) (hM : M.length = 4001) (hT : T.length = 4001) (hM' : M'.length = 4000) (hT' : T'.length = 4000) (eM : M.take 4000 = M') (eT : T.take 4000 = T')
    (a1 : (addR M' (-9) 1).2 = 4) (a2 : addR M' 8 1 = (M', 0)) (okT : ∀ t ∈ T', okTime t) (o1 : (ofL T' 2).length = 4000) (o2 : ofL T' 3 = [⟨0, 8001⟩]) (m1 : (mergeR M' [⟨-5, -4⟩]).2 = 4) :
    tailwaterlaw15_SessionNames.l1 (F + 1) M T x4 (x4.length : Int) = some true := by
  have g1 : okGap 1 := by unfold okGap; omega
  have g2 : okGap 2 := by unfold okGap; omega
  have g3 : okGap 3 := by unfold okGap; omega
  have g4 : ¬ okGap 1073741825 := by unfold okGap; omega
  have e1 := add_f [] 1125899906842624 0 (by simp) F (by simp; omega)
  have e2 := add_f [] 1099511627777 5 (by simp) F (by simp; omega)
  have e3 := add_f M' (-9) 1 (by omega) F (by omega)
  have e4 := add_f M' 8 1 (by omega) F (by omega)
  have e5 := add_f [] 1099511627776 1073741824 (by simp) F (by simp; omega)
  have f1 := of_f T 1073741825 (by omega) F (by omega)
  have f2 := of_f T 1 (by omega) F (by omega)
  have f3 := of_f [0, (-1099511627777)] 1 (by simp) F (by simp; omega)
  have f4 := of_f T' 2 (by omega) F (by omega)
  have f5 := of_f T' 3 (by omega) F (by omega)
  have h1 := merge_f M' [⟨-5, -4⟩] (by omega) (by simp) F (by simp; omega)
  have h2 := merge_f [] [] (by simp) (by simp) F (by simp; omega)
  rw [a2] at e4
  rw [add_last] at e5
  rw [if_neg g4] at f1
  rw [if_pos g1, if_neg (by omega)] at f2
  rw [if_pos g1, if_pos (by simp), if_neg names_o3] at f3
  rw [if_pos g2, if_pos (by omega), if_pos okT] at f4
  rw [if_pos g3, if_pos (by omega), if_pos okT, o2] at f5
  rw [merge_nil] at h2
  have s1 := spans_up (l := [(-5), (-4)]) (r := [⟨-5, -4⟩]) (by kernel_rfl) F (by omega)
  have s2 := spans_up (l := [0, 8001]) (r := [⟨0, 8001⟩]) (by kernel_rfl) F (by omega)
  have s3 := spans_up (l := [1099511627776, 1100585369600]) (r := [⟨1099511627776, 1100585369600⟩]) (by kernel_rfl) F (by omega)
  have q1 : tailwaterref14_Same.f F M' M' = some true := (same_f M' M' (by omega) F (by omega)).trans (by simp)
  have q2 : tailwaterref14_Same.f F [⟨0, 8001⟩] [⟨0, 8001⟩] = some true := (same_f _ _ (by simp) F (by simp; omega)).trans (by simp)
  have q3 : tailwaterref14_Same.f F [⟨1099511627776, 1100585369600⟩] [⟨1099511627776, 1100585369600⟩] = some true := (same_f _ _ (by simp) F (by simp; omega)).trans (by simp)
  have hal := alive_f F (by omega)
  have b1 := names_b1
  have b2 := names_b2
  generalize addR [] 1125899906842624 0 = A1 at e1 b1
  generalize addR [] 1099511627777 5 = A2 at e2 b2
  generalize addR M' (-9) 1 = A3 at e3 a1
  generalize mergeR M' [⟨-5, -4⟩] = A4 at h1 m1
  generalize ofL T' 2 = A5 at f4 o1
  have c1 : (4000 : Int) ≤ (M.length : Int) := by omega
  have c2 : (4000 : Int) ≤ (T.length : Int) := by omega
  have c3 : (A5.length : Int) = 4000 := by omega
  have c4 : ¬ (x4.length : Int) < (x4.length : Int) := by omega
  rw [tailwaterlaw15_SessionNames.l1, if_neg c4, eM, eT]
  simp only [e1, e2, e3, e4, e5, f1, f2, f3, f4, f5, s1, s2, s3, h1, h2, hal, q1, q2, q3, b1, b2, a1, m1, c1, c2, c3, Option.bind_some, if_true, List.length_nil, show ((0 : Nat) : Int) = 0 from rfl]
theorem names_core (F : Nat) (hF : 20000 ≤ F) (M M' : List S35) (T T' : List Int) (hM : M.length = 4001) (hT : T.length = 4001) (hM' : M'.length = 4000) (hT' : T'.length = 4000) (eM : M.take 4000 = M') (eT : T.take 4000 = T')
    (a1 : (addR M' (-9) 1).2 = 4) (a2 : addR M' 8 1 = (M', 0)) (okT : ∀ t ∈ T', okTime t) (o1 : (ofL T' 2).length = 4000) (o2 : ofL T' 3 = [⟨0, 8001⟩]) (m1 : (mergeR M' [⟨-5, -4⟩]).2 = 4) :
    tailwaterlaw15_SessionNames.l0 (F + 1 + 8 + 1) M T 4001 = some true := by
  rw [names_first (F + 1 + 8) (by omega)]
  have h1 := names_l1 M T (badL M) (bad_all M hM) (by simp [badL]) F hF 8 0 rfl
  rw [show ((0 : Nat) : Int) = 0 from rfl, show F + 8 + 1 = F + 1 + 8 by omega] at h1
  rw [h1]
  exact names_last F hF M M' T T' (badL M) hM hT hM' hT' eM eT a1 a2 okT o1 o2 m1
theorem SessionNames_fun : ∃ k, tailwaterlaw15_SessionNames.f k = some true := by
  refine ⟨20000 + 1 + 8 + 4001 + 1, ?_⟩
  generalize hF : 20000 = F
  unfold tailwaterlaw15_SessionNames.f
  have h0 := names_l0 (F + 1 + 8) 4001 0 (by omega)
  rw [show manyL 0 = [] from rfl, show timesL 0 = [] from rfl, show ((0 : Nat) : Int) = 0 from rfl] at h0
  rw [h0]
  exact names_core F (by omega) (manyL 4001) (manyL 4000) (timesL 4001) (timesL 4000) (many_len _) (times_len _) (many_len _) (times_len _) (many_take 4000 4001 (by omega)) (times_take 4000 4001 (by omega)) add_many1 add_many2 (times_ok 4000 (by omega)) of_full of_one merge_many
end Go.Proofs.Ytbeldjhpbomonaa.Se
