/- What the printed functions of sessions come to, loop by loop; conditions: lists that are not too long, spans in their range. -/
import Derived.Test.YtbeldjhpbomonaaSex4
import Derived.Test.YtbeldjhpbomonaaSex5
import Derived.Test.YtbeldjhpbomonaaSex6
import Derived.Test.YtbeldjhpbomonaaSeB
namespace Go.Proofs.Ytbeldjhpbomonaa.Se
open Go.RowKit Go.Proofs.YtbeldjhpbomonaaW.PrintWords Go.Proofs.YtbeldjhpbomonaaW.PrintLast Go.Proofs.YtbeldjhpbomonaaW.PrintMore
set_option linter.unusedVariables false

/-! ### Numbers and places -/
theorem wrap_succ (i : Nat) (h : i < 4611686018427387904) : wrap64 ((i : Int) + 1) = ((i + 1 : Nat) : Int) := by unfold wrap64; omega
theorem wrap_pred (i : Nat) (h : 0 < i) (h2 : i < 4611686018427387904) : wrap64 ((i : Int) - 1) = ((i - 1 : Nat) : Int) := by unfold wrap64; omega
theorem wrap_small (x : Int) (h : -4611686018427387904 ≤ x) (h2 : x ≤ 4611686018427387904) : wrap64 x = x := by unfold wrap64; omega
theorem rd_at (xs : List S35) (i : Nat) (h : i < xs.length) : rd_T35 xs (i : Int) = xs[i] := by
  unfold rd_T35
  simp [List.getElem?_eq_getElem h]
theorem rdI_at (xs : List Int) (i : Nat) (h : i < xs.length) : rd xs (i : Int) = xs[i] := by
  unfold rd
  simp [List.getElem?_eq_getElem h]

/-! ### merged -/
theorem merged_loop (xs : List S35) (n : Int) (hn : n = xs.length) (hb : xs.length < 1000000000000) : ∀ (d k : Nat) (out : List S35) (i : Nat), xs.length - i = d → i ≤ xs.length → d < k → out.length ≤ i →
    session_merged.l0 k out xs n (i : Int) = some ((xs.drop i).foldl stepM out) := by
  intro d
  induction d with
  | zero =>
    intro k out i hd hi hk ho
    obtain ⟨k, rfl⟩ : ∃ m, k = m + 1 := ⟨k - 1, by omega⟩
    simp only [session_merged.l0]
    rw [if_neg (by omega), List.drop_of_length_le (by omega)]
    rfl
  | succ d ih =>
    intro k out i hd hi hk ho
    obtain ⟨k, rfl⟩ : ∃ m, k = m + 1 := ⟨k - 1, by omega⟩
    have hlt : i < xs.length := by omega
    have hw := wrap_succ i (by omega)
    simp only [session_merged.l0]
    rw [if_pos (by omega), if_pos (by omega), if_pos (by omega), hw, rd_at xs i hlt, List.drop_eq_getElem_cons hlt, List.foldl_cons]
    by_cases c1 : (out.length : Int) > 0
    · have hp := wrap_pred out.length (by omega) (by omega)
      have hp' : ((out.length - 1 : Nat) : Int) = (out.length : Int) - 1 := by omega
      rw [if_pos c1, hp, if_pos (by omega), if_pos (by omega)]
      have el : rd_T35 out ((out.length - 1 : Nat) : Int) = lastS out := by unfold lastS; rw [hp']
      rw [el]
      by_cases c2 : xs[i].f0 < (lastS out).f1
      · rw [if_pos c2]
        have es : stepM out xs[i] = out.set (out.length - 1) ⟨(lastS out).f0, mx (lastS out).f1 xs[i].f1⟩ := by unfold stepM; rw [if_pos ⟨by omega, c2⟩]
        rw [es, Int.toNat_natCast]
        exact ih k _ (i + 1) (by omega) (by omega) (by omega) (by simp; omega)
      · rw [if_neg c2, if_pos (by omega)]
        have es : stepM out xs[i] = out ++ [xs[i]] := by unfold stepM; rw [if_neg (fun h => c2 h.2)]
        rw [es]
        exact ih k _ (i + 1) (by omega) (by omega) (by omega) (by simp; omega)
    · rw [if_neg c1, if_pos (by omega)]
      have es : stepM out xs[i] = out ++ [xs[i]] := by unfold stepM; rw [if_neg (fun h => by omega)]
      rw [es]
      exact ih k _ (i + 1) (by omega) (by omega) (by omega) (by simp; omega)

theorem clone_f (l : List S35) (h : l.length < 8796093022208) : cloneSpan.f l = some l := by
  unfold cloneSpan.f
  simp [h]
/-- Merged, as the program does it. -/
def mergeS (l : List S35) : List S35 := (sortS l).foldl stepM []
theorem merged_f (l : List S35) (h : l.length < 1000000000000) (k : Nat) (hk : l.length < k) : session_merged.f k l = some (mergeS l) := by
  unfold session_merged.f
  rw [clone_f l (by omega)]
  simp only [Option.bind_some]
  unfold sortSpan.f
  rw [if_pos (by omega)]
  simp only [Option.bind_some]
  have hs := sortS_length l
  have := merged_loop (sortS l) l.length (by rw [hs]) (by omega) (sortS l).length k [] 0 (by omega) (by omega) (by omega) (by simp)
  rw [List.drop_zero] at this
  exact this
theorem mergeS_inv {l : List S35} (hp : Pos l) : Pos (mergeS l) ∧ Ord (mergeS l) ∧ (∀ q, Cov (mergeS l) q ↔ Cov l q) ∧ (mergeS l).length ≤ l.length ∧ (∀ s ∈ mergeS l, (∃ x ∈ l, x.f0 = s.f0) ∧ ∃ x ∈ l, x.f1 = s.f1) := by
  have hperm := sortS_perm l
  have H := merged_inv (sortS l) (fun s hs => hp s (hperm.mem_iff.1 hs)) (sortS_sorted l)
  refine ⟨H.pos, H.ord, fun q => (H.cov q).trans (cov_perm hperm q), ?_, fun s hs => ⟨?_, ?_⟩⟩
  · have := H.len
    rw [hperm.length_eq] at this
    exact this
  · obtain ⟨x, hx, e⟩ := H.starts s hs
    exact ⟨x, hperm.mem_iff.1 hx, e⟩
  · obtain ⟨x, hx, e⟩ := H.ends s hs
    exact ⟨x, hperm.mem_iff.1 hx, e⟩

/-! ### check -/
def okTime (t : Int) : Prop := -1099511627776 ≤ t ∧ t ≤ 1099511627776
def okGap (g : Int) : Prop := 1 ≤ g ∧ g ≤ 1073741824
def checkC (t g : Int) : Int := if g < 1 ∨ g > 1073741824 then 2 else if t < -1099511627776 ∨ t > 1099511627776 then 16 else 0
theorem check_f (t g : Int) (k : Nat) (hk : 0 < k) : session_check.f k t g = some (checkC t g) := by
  obtain ⟨k, rfl⟩ : ∃ m, k = m + 1 := ⟨k - 1, by omega⟩
  unfold session_check.f checkC
  simp only [session_check.j0]
  by_cases c1 : g < 1
  · simp [c1]
  · by_cases c2 : g > 1073741824
    · simp [c1, c2]
    · have c2' : ¬ 1073741824 < g := c2
      by_cases c3 : t < -1099511627776
      · simp [c1, c2', c3]
      · by_cases c4 : t > 1099511627776
        · simp [c1, c2', c3, c4]
        · have c4' : ¬ 1099511627776 < t := c4
          simp [c1, c2', c3, c4']
theorem refcheck_f (t g : Int) (k : Nat) (hk : 0 < k) : tailwaterref13_Check.f k t g = some (checkC t g) := by
  obtain ⟨k, rfl⟩ : ∃ m, k = m + 1 := ⟨k - 1, by omega⟩
  unfold tailwaterref13_Check.f checkC
  simp only [tailwaterref13_Check.j0]
  by_cases c1 : g < 1
  · simp [c1]
  · by_cases c2 : g > 1073741824
    · simp [c1, c2]
    · have c2' : ¬ 1073741824 < g := c2
      by_cases c3 : t < -1099511627776
      · simp [c1, c2', c3]
      · by_cases c4 : t > 1099511627776
        · simp [c1, c2', c3, c4]
        · have c4' : ¬ 1099511627776 < t := c4
          simp [c1, c2', c3, c4']
theorem checkC_zero (t g : Int) : checkC t g = 0 ↔ okTime t ∧ okGap g := by
  unfold checkC okTime okGap
  by_cases c1 : g < 1 ∨ g > 1073741824
  · rw [if_pos c1]; omega
  · rw [if_neg c1]
    by_cases c2 : t < -1099511627776 ∨ t > 1099511627776
    · rw [if_pos c2]; omega
    · rw [if_neg c2]; omega
theorem checkC_zero' (g : Int) : checkC 0 g = 0 ↔ okGap g := by
  rw [checkC_zero]; unfold okTime okGap; omega
theorem checkC_gap (t g : Int) (h : ¬ okGap g) : checkC t g = 2 := by
  unfold checkC; unfold okGap at h; rw [if_pos (by omega)]
theorem checkC_time (t g : Int) (h : okGap g) (h2 : ¬ okTime t) : checkC t g = 16 := by
  unfold checkC; unfold okGap at h; unfold okTime at h2; rw [if_neg (by omega), if_pos (by omega)]

/-! ### right -/
def okSpan (s : S35) : Prop := -1099511627776 ≤ s.f0 ∧ s.f0 ≤ 1099511627776 ∧ s.f0 < s.f1 ∧ s.f1 ≤ 1100585369600
def okAt (l : List S35) (i : Nat) : Prop := okSpan (l.getD i z35) ∧ (0 < i → (l.getD (i - 1) z35).f1 ≤ (l.getD i z35).f0)
theorem getD_at (xs : List S35) (i : Nat) (h : i < xs.length) : xs.getD i z35 = xs[i] := by simp [List.getElem?_eq_getElem h]
theorem okAt_iff (l : List S35) (i : Nat) (h : i < l.length) : okAt l i ↔ okSpan l[i] ∧ (0 < i → (l[i - 1]'(by omega)).f1 ≤ l[i].f0) := by
  unfold okAt
  rw [getD_at l i h, getD_at l (i - 1) (by omega)]
open Classical in
theorem right_loop (l : List S35) (n : Int) (hn : n = l.length) (hb : l.length < 1000000000000) : ∀ (d k i : Nat), l.length - i = d → i ≤ l.length → d < k →
    session_right.l0 k l l n (i : Int) = some (decide (∀ j, i ≤ j → j < l.length → okAt l j)) := by
  intro d
  induction d with
  | zero =>
    intro k i hd hi hk
    obtain ⟨k, rfl⟩ : ∃ m, k = m + 1 := ⟨k - 1, by omega⟩
    simp only [session_right.l0]
    rw [if_neg (by omega), decide_eq_true (fun j h1 h2 => by omega)]
  | succ d ih =>
    intro k i hd hi hk
    obtain ⟨k, rfl⟩ : ∃ m, k = m + 1 := ⟨k - 1, by omega⟩
    have hlt : i < l.length := by omega
    have hA := okAt_iff l i hlt
    have next : ∀ (P : okAt l i), decide (∀ j, i ≤ j → j < l.length → okAt l j) = decide (∀ j, i + 1 ≤ j → j < l.length → okAt l j) := fun P => by
      rw [decide_eq_decide]
      exact ⟨fun h j h1 h2 => h j (by omega) h2, fun h j h1 h2 => by
        rcases Nat.eq_or_lt_of_le h1 with rfl | h1
        · exact P
        · exact h j h1 h2⟩
    have stop : ∀ (P : ¬ okAt l i), decide (∀ j, i ≤ j → j < l.length → okAt l j) = false := fun P => decide_eq_false (fun h => P (h i (Nat.le_refl _) hlt))
    have hw := wrap_succ i (by omega)
    simp only [session_right.l0]
    rw [if_pos (by omega), if_pos (by omega), if_pos (by omega), hw, rd_at l i hlt]
    unfold okSpan at hA
    by_cases c1 : l[i].f0 < -1099511627776
    · rw [if_pos c1, stop (fun h => by have := hA.1 h; omega)]
    rw [if_neg c1]
    by_cases c2 : l[i].f0 > 1099511627776
    · rw [if_pos c2, stop (fun h => by have := hA.1 h; omega)]
    rw [if_neg c2]
    by_cases c3 : l[i].f1 ≤ l[i].f0
    · rw [if_pos c3, stop (fun h => by have := hA.1 h; omega)]
    rw [if_neg c3]
    by_cases c4 : l[i].f1 > 1100585369600
    · rw [if_pos c4, stop (fun h => by have := hA.1 h; omega)]
    rw [if_neg c4]
    by_cases c5 : (i : Int) > 0
    · have hp := wrap_pred i (by omega) (by omega)
      rw [if_pos c5, hp, if_pos (by omega), if_pos (by omega), rd_at l (i - 1) (by omega)]
      by_cases c6 : l[i].f0 < l[i - 1].f1
      · rw [if_pos c6, stop (fun h => by have := (hA.1 h).2 (by omega); omega)]
      · rw [if_neg c6, next (hA.2 ⟨by omega, fun _ => by omega⟩)]
        exact ih k (i + 1) (by omega) (by omega) (by omega)
    · rw [if_neg c5, next (hA.2 ⟨by omega, fun _ => by omega⟩)]
      exact ih k (i + 1) (by omega) (by omega) (by omega)
def RightP (l : List S35) : Prop := l.length ≤ 4000 ∧ (∀ s ∈ l, okSpan s) ∧ Ord l
theorem right_iff (l : List S35) : (∀ j, 0 ≤ j → j < l.length → okAt l j) ↔ (∀ s ∈ l, okSpan s) ∧ Ord l := by
  constructor
  · intro h
    have h1 : ∀ s ∈ l, okSpan s := fun s hs => by
      obtain ⟨i, hi, rfl⟩ := List.mem_iff_getElem.1 hs
      exact ((okAt_iff l i hi).1 (h i (Nat.zero_le _) hi)).1
    refine ⟨h1, ?_⟩
    unfold Ord
    rw [List.pairwise_iff_getElem]
    intro i j hi hj hij
    induction j with
    | zero => omega
    | succ j ih =>
      have h2 := ((okAt_iff l (j + 1) hj).1 (h (j + 1) (Nat.zero_le _) hj)).2 (by omega)
      simp only [Nat.add_sub_cancel] at h2
      rcases Nat.eq_or_lt_of_le (Nat.le_of_lt_succ hij) with rfl | hlt
      · exact h2
      · have h3 := ih (by omega) hlt
        have h4 := h1 l[j] (List.getElem_mem _)
        unfold okSpan at h4
        omega
  · rintro ⟨h1, h2⟩ j _ hj
    rw [okAt_iff l j hj]
    refine ⟨h1 _ (List.getElem_mem _), fun h0 => ?_⟩
    exact (List.pairwise_iff_getElem.1 h2) (j - 1) j (by omega) hj (by omega)
open Classical in
theorem right_f (l : List S35) (hb : l.length < 1000000000000) (k : Nat) (hk : l.length < k) : session_right.f k l = some (decide (RightP l)) := by
  unfold session_right.f
  by_cases c : (l.length : Int) > 4000
  · rw [if_pos c, decide_eq_false (fun h => by have := h.1; omega)]
  · rw [if_neg c]
    have := right_loop l l.length rfl hb l.length k 0 (by omega) (by omega) (by omega)
    rw [show ((0 : Nat) : Int) = 0 from rfl] at this
    rw [this]
    congr 1
    rw [decide_eq_decide, right_iff]
    exact ⟨fun h => ⟨by omega, h⟩, fun h => h.2⟩
open Classical in
theorem refright_loop (l : List S35) (hb : l.length < 1000000000000) : ∀ (d k i : Nat), l.length - i = d → i ≤ l.length → d < k →
    tailwaterref15_Right.l0 k l (i : Int) = some (decide ((∀ j, i ≤ j → j < l.length → okAt l j) ∧ l.length ≤ 4000)) := by
  intro d
  induction d with
  | zero =>
    intro k i hd hi hk
    obtain ⟨k, rfl⟩ : ∃ m, k = m + 1 := ⟨k - 1, by omega⟩
    simp only [tailwaterref15_Right.l0]
    rw [if_neg (by omega)]
    congr 1
    rw [decide_eq_decide]
    exact ⟨fun h => ⟨fun j h1 h2 => by omega, by omega⟩, fun h => by omega⟩
  | succ d ih =>
    intro k i hd hi hk
    obtain ⟨k, rfl⟩ : ∃ m, k = m + 1 := ⟨k - 1, by omega⟩
    have hlt : i < l.length := by omega
    have hA := okAt_iff l i hlt
    have next : ∀ (P : okAt l i), decide ((∀ j, i ≤ j → j < l.length → okAt l j) ∧ l.length ≤ 4000) = decide ((∀ j, i + 1 ≤ j → j < l.length → okAt l j) ∧ l.length ≤ 4000) := fun P => by
      rw [decide_eq_decide]
      exact ⟨fun h => ⟨fun j h1 h2 => h.1 j (by omega) h2, h.2⟩, fun h => ⟨fun j h1 h2 => by
        rcases Nat.eq_or_lt_of_le h1 with rfl | h1
        · exact P
        · exact h.1 j h1 h2, h.2⟩⟩
    have stop : ∀ (P : ¬ okAt l i), decide ((∀ j, i ≤ j → j < l.length → okAt l j) ∧ l.length ≤ 4000) = false := fun P => decide_eq_false (fun h => P (h.1 i (Nat.le_refl _) hlt))
    have hw := wrap_succ i (by omega)
    simp only [tailwaterref15_Right.l0]
    rw [if_pos (by omega), if_pos (by omega), hw, rd_at l i hlt]
    unfold okSpan at hA
    by_cases c1 : l[i].f0 < -1099511627776
    · rw [if_pos c1, stop (fun h => by have := hA.1 h; omega)]
    rw [if_neg c1]
    by_cases c2 : l[i].f0 > 1099511627776
    · rw [if_pos c2, stop (fun h => by have := hA.1 h; omega)]
    rw [if_neg c2]
    by_cases c3 : l[i].f1 ≤ l[i].f0
    · rw [if_pos c3, stop (fun h => by have := hA.1 h; omega)]
    rw [if_neg c3]
    by_cases c4 : l[i].f1 > 1100585369600
    · rw [if_pos c4, stop (fun h => by have := hA.1 h; omega)]
    rw [if_neg c4]
    by_cases c5 : (i : Int) > 0
    · have hp := wrap_pred i (by omega) (by omega)
      rw [if_pos c5, hp, if_pos (by omega), if_pos (by omega), rd_at l (i - 1) (by omega)]
      by_cases c6 : l[i].f0 < l[i - 1].f1
      · rw [if_pos c6, stop (fun h => by have := (hA.1 h).2 (by omega); omega)]
      · rw [if_neg c6, next (hA.2 ⟨by omega, fun _ => by omega⟩)]
        exact ih k (i + 1) (by omega) (by omega) (by omega)
    · rw [if_neg c5, next (hA.2 ⟨by omega, fun _ => by omega⟩)]
      exact ih k (i + 1) (by omega) (by omega) (by omega)
open Classical in
theorem refright_f (l : List S35) (hb : l.length < 1000000000000) (k : Nat) (hk : l.length < k) : tailwaterref15_Right.f k l = some (decide (RightP l)) := by
  unfold tailwaterref15_Right.f
  have := refright_loop l hb l.length k 0 (by omega) (by omega) (by omega)
  rw [show ((0 : Nat) : Int) = 0 from rfl] at this
  rw [this]
  congr 1
  rw [decide_eq_decide, right_iff]
  exact ⟨fun h => ⟨h.2, h.1⟩, fun h => ⟨h.2, h.1⟩⟩

/-! ### the same lists -/
theorem same_loop (a b : List S35) (hl : a.length = b.length) (hb : a.length < 1000000000000) : ∀ (d k i : Nat), a.length - i = d → i ≤ a.length → d < k →
    ∃ r, tailwaterref14_Same.l0 k a b (i : Int) = some r ∧ (r = true ↔ a.drop i = b.drop i) := by
  intro d
  induction d with
  | zero =>
    intro k i hd hi hk
    obtain ⟨k, rfl⟩ : ∃ m, k = m + 1 := ⟨k - 1, by omega⟩
    simp only [tailwaterref14_Same.l0]
    rw [if_neg (by omega), List.drop_of_length_le (by omega), List.drop_of_length_le (by omega)]
    exact ⟨true, rfl, by simp⟩
  | succ d ih =>
    intro k i hd hi hk
    obtain ⟨k, rfl⟩ : ∃ m, k = m + 1 := ⟨k - 1, by omega⟩
    have hlt : i < a.length := by omega
    have hlt2 : i < b.length := by omega
    have hw := wrap_succ i (by omega)
    simp only [tailwaterref14_Same.l0]
    rw [if_pos (by omega), if_pos (by omega), if_pos (by omega), hw, rd_at a i hlt, rd_at b i hlt2, List.drop_eq_getElem_cons hlt, List.drop_eq_getElem_cons hlt2]
    by_cases c : a[i] = b[i]
    · rw [c, if_neg (by simp)]
      obtain ⟨r, h1, h2⟩ := ih k (i + 1) (by omega) (by omega) (by omega)
      exact ⟨r, h1, by rw [h2]; exact ⟨fun h => by rw [h], fun h => (List.cons.inj h).2⟩⟩
    · rw [if_pos]
      · exact ⟨false, rfl, ⟨fun h => absurd h (by simp), fun h => absurd (List.cons.inj h).1 c⟩⟩
      · have : ¬ (a[i].f0 = b[i].f0 ∧ a[i].f1 = b[i].f1) := fun h => c (S35.ext' h.1 h.2)
        rw [Bool.or_eq_true, Bool.not_eq_true', Bool.not_eq_true', beq_eq_false_iff_ne, beq_eq_false_iff_ne]
        omega
open Classical in
theorem same_f (a b : List S35) (hb : a.length < 1000000000000) (k : Nat) (hk : a.length < k) : tailwaterref14_Same.f k a b = some (decide (a = b)) := by
  unfold tailwaterref14_Same.f
  by_cases c : (a.length : Int) = b.length
  · rw [if_pos c]
    obtain ⟨r, h1, h2⟩ := same_loop a b (by omega) hb a.length k 0 (by omega) (by omega) (by omega)
    rw [show ((0 : Nat) : Int) = 0 from rfl] at h1
    rw [h1]
    congr 1
    rw [List.drop_zero, List.drop_zero] at h2
    cases r
    · symm; rw [decide_eq_false_iff_not]; simpa using h2
    · symm; rw [decide_eq_true_iff]; simpa using h2
  · rw [if_neg c, decide_eq_false (fun h => c (by rw [h]))]

end Go.Proofs.Ytbeldjhpbomonaa.Se
