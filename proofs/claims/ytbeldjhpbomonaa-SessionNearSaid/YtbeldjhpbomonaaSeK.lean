/- SessionNear over lists: a time and the next one are in one session just if the next one is less than the gap later; the law's own guard: at most 60 times, a gap. -/
import Derived.Test.YtbeldjhpbomonaaSeF
import Derived.Test.YtbeldjhpbomonaaSex8
namespace Go.Proofs.Ytbeldjhpbomonaa.Se
open Go.RowKit Go.Proofs.YtbeldjhpbomonaaW.PrintWords Go.Proofs.YtbeldjhpbomonaaW.PrintLast Go.Proofs.YtbeldjhpbomonaaW.PrintMore
set_option linter.unusedVariables false

theorem ord_pair {L : List S35} (ho : Ord L) {s s' : S35} (h : s ∈ L) (h' : s' ∈ L) : s = s' ∨ s.f1 ≤ s'.f0 ∨ s'.f1 ≤ s.f0 := by
  obtain ⟨i, hi, rfl⟩ := List.mem_iff_getElem.1 h
  obtain ⟨j, hj, rfl⟩ := List.mem_iff_getElem.1 h'
  have hp := List.pairwise_iff_getElem.1 ho
  rcases Nat.lt_trichotomy i j with h1 | h1 | h1
  · exact .inr (.inl (hp i j hi hj h1))
  · subst h1
    exact .inl rfl
  · exact .inr (.inr (hp j i hj hi h1))

theorem near_iff {xs : List Int} {g : Int} (hg : okGap g) {a b : Int} (ha : a ∈ xs) (hb : b ∈ xs) (hab : a < b) (hn : ∀ t ∈ xs, a < t → b ≤ t) : (∃ s ∈ ofL xs g, s.f0 ≤ a ∧ b < s.f1) ↔ b - a < g := by
  have hg' := hg
  unfold okGap at hg'
  constructor
  · rintro ⟨s, hs, h1, h2⟩
    obtain ⟨t, ht, h3, h4⟩ := (of_cov' hg (2 * b)).1 ⟨s, hs, by omega, by omega⟩
    by_cases c : a < t
    · have := hn t ht c
      omega
    · omega
  · intro h
    obtain ⟨s, hs, h1, h2⟩ := (of_cov' hg (2 * a + 1)).2 ⟨a, ha, by omega, by omega⟩
    by_cases c : b < s.f1
    · exact ⟨s, hs, by omega, c⟩
    · obtain ⟨s', hs', h3, h4⟩ := (of_cov' hg (2 * s.f1)).2 ⟨a, ha, by omega, by omega⟩
      have hp := of_pos hg s hs
      have hp' := of_pos hg s' hs'
      rcases ord_pair (of_ord hg) hs hs' with rfl | h5 | h5
      · omega
      · omega
      · omega

theorem near_l2 (xs : List Int) (g : Int) (x5 : Bool) (L : List S35) (i : Nat) (hi : i < xs.length) (hi' : i < 1000000) (b : Int) (hL : L.length < 1000000) (r : Bool) (hw : wrap64 (b - xs[i]) = b - xs[i])
    (hn : Ev (fun k => tailwaterlaw15_SessionNear.l0 k xs g x5 L ((i + 1 : Nat) : Int)) r) (hb : (∃ s ∈ L, s.f0 ≤ xs[i] ∧ b < s.f1) ↔ b - xs[i] < g) : ∀ (d j : Nat) (tg : Bool), L.length - j = d → j ≤ L.length →
    ((tg = true ∨ ∃ s ∈ L.drop j, s.f0 ≤ xs[i] ∧ b < s.f1) ↔ ∃ s ∈ L, s.f0 ≤ xs[i] ∧ b < s.f1) → Ev (fun k => tailwaterlaw15_SessionNear.l2 k xs g x5 L (i : Int) b tg (j : Int)) r := by
  intro d
  induction d with
  | zero =>
    intro j tg hd hj hto
    refine Ev.step (fun k => ?_) hn
    have hws := wrap_succ i (by omega)
    rw [List.drop_of_length_le (by omega)] at hto
    have e : tg = decide (b - xs[i] < g) := by
      have h1 : tg = true ↔ b - xs[i] < g := by
        rw [← hb, ← hto]
        simp
      cases tg
      · symm
        rw [decide_eq_false_iff_not, ← h1]
        simp
      · symm
        rw [decide_eq_true_iff, ← h1]
    simp only [tailwaterlaw15_SessionNear.l2]
    rw [if_neg (by omega), if_pos (by omega), if_pos (by omega), rdI_at xs i hi, hw, ← e, if_neg (by simp), hws]
  | succ d ih =>
    intro j tg hd hj hto
    have hlt : j < L.length := by clear hb hto; omega
    have hws := wrap_succ j (by clear hb hto; omega)
    have ea : L.length - (j + 1) = d := by clear hb hto; omega
    have eb : j + 1 ≤ L.length := by clear hb hto; omega
    have ec : (j : Int) < (L.length : Int) := by clear hb hto; omega
    have ed : (0 : Int) ≤ (j : Int) := by clear hb hto; omega
    have ee : (0 : Int) ≤ (i : Int) := by clear hb hto; omega
    have ef : (i : Int) < (xs.length : Int) := by clear hb hto; omega
    rw [List.drop_eq_getElem_cons hlt] at hto
    have hto' : ((tg || decide (L[j].f0 ≤ xs[i] ∧ b < L[j].f1)) = true ∨ ∃ s ∈ L.drop (j + 1), s.f0 ≤ xs[i] ∧ b < s.f1) ↔ ∃ s ∈ L, s.f0 ≤ xs[i] ∧ b < s.f1 := by
      rw [← hto, Bool.or_eq_true, decide_eq_true_eq, or_assoc]
      simp only [List.mem_cons, exists_eq_or_imp]
    refine Ev.step (fun k => ?_) (ih (j + 1) _ ea eb hto')
    simp only [tailwaterlaw15_SessionNear.l2]
    rw [if_pos ec, hws]
    cases tg with
    | true => simp
    | false =>
      rw [if_neg (by simp), if_pos ed, if_pos ee, if_pos ef, rd_at L j hlt, rdI_at xs i hi]
      by_cases c : L[j].f0 ≤ xs[i]
      · rw [if_pos c]
        simp [c]
      · rw [if_neg c]
        simp [c]

theorem near_l1 (xs : List Int) (g : Int) (hg : okGap g) (ht : ∀ t ∈ xs, okTime t) (x5 : Bool) (i : Nat) (hi : i < xs.length) (hx : xs.length < 1000000) (r : Bool)
    (hn : Ev (fun k => tailwaterlaw15_SessionNear.l0 k xs g x5 (ofL xs g) ((i + 1 : Nat) : Int)) r) : ∀ (d j : Nat) (nx : Int) (is : Bool), xs.length - j = d → j ≤ xs.length →
    (is = true → nx ∈ xs ∧ xs[i] < nx ∧ ∀ t ∈ xs.take j, xs[i] < t → nx ≤ t) → (is = false → ∀ t ∈ xs.take j, ¬ xs[i] < t) →
    Ev (fun k => tailwaterlaw15_SessionNear.l1 k xs g x5 (ofL xs g) (i : Int) nx is (j : Int)) r := by
  intro d
  induction d with
  | zero =>
    intro j nx is hd hj h1 h2
    have hws := wrap_succ i (by omega)
    rw [List.take_of_length_le (by omega)] at h1 h2
    cases is with
    | false =>
      refine Ev.step (fun k => ?_) hn
      simp only [tailwaterlaw15_SessionNear.l1]
      rw [if_neg (by omega), if_neg (by simp), hws]
    | true =>
      obtain ⟨m1, m2, m3⟩ := h1 rfl
      have hlen := of_len (times := xs) hg
      have hA := ht xs[i] (List.getElem_mem _)
      have hB := ht nx m1
      unfold okTime at hA hB
      have hl2 := near_l2 xs g x5 (ofL xs g) i hi (by omega) nx (by omega) r (wrap_small _ (by omega) (by omega)) hn (near_iff hg (List.getElem_mem _) m1 m2 m3) (ofL xs g).length 0 false (by omega) (by omega) (by simp)
      refine Ev.step (fun k => ?_) hl2
      simp only [tailwaterlaw15_SessionNear.l1]
      rw [if_neg (by omega), if_pos trivial]
      rfl
  | succ d ih =>
    intro j nx is hd hj h1 h2
    have hlt : j < xs.length := by omega
    have hws := wrap_succ j (by omega)
    have et : xs.take (j + 1) = xs.take j ++ [xs[j]] := by rw [List.take_succ_eq_append_getElem hlt]
    have ea : xs.length - (j + 1) = d := by omega
    have eb : j + 1 ≤ xs.length := by omega
    by_cases c : xs[i] < xs[j]
    · by_cases c2 : is = true ∧ ¬ xs[j] < nx
      · obtain ⟨m1, m2, m3⟩ := h1 c2.1
        refine Ev.step (fun k => ?_) (ih (j + 1) nx is ea eb (fun _ => ⟨m1, m2, fun t ht' => ?_⟩) (fun h => by rw [c2.1] at h; cases h))
        · simp only [tailwaterlaw15_SessionNear.l1]
          rw [if_pos (by omega), if_pos (by omega), if_pos (by omega), if_pos (by omega), hws, rdI_at xs i hi, rdI_at xs j hlt, if_pos c, if_pos c2.1, if_neg c2.2]
        · rw [et] at ht'
          rcases List.mem_append.1 ht' with ht' | ht'
          · exact m3 t ht'
          · simp at ht'
            subst ht'
            intro _
            have := c2.2
            omega
      · refine Ev.step (fun k => ?_) (ih (j + 1) xs[j] true ea eb (fun _ => ⟨List.getElem_mem _, c, fun t ht' hlt' => ?_⟩) (fun h => by cases h))
        · simp only [tailwaterlaw15_SessionNear.l1]
          rw [if_pos (by omega), if_pos (by omega), if_pos (by omega), if_pos (by omega), hws, rdI_at xs i hi, rdI_at xs j hlt, if_pos c]
          cases is with
          | false => rw [if_neg (by simp)]
          | true =>
            have c3 : xs[j] < nx := by
              rcases Int.lt_or_le xs[j] nx with h | h
              · exact h
              · exact absurd ⟨rfl, by omega⟩ c2
            rw [if_pos rfl, if_pos c3]
        · rw [et] at ht'
          rcases List.mem_append.1 ht' with ht' | ht'
          · cases is with
            | false => exact absurd hlt' (h2 rfl t ht')
            | true =>
              have c3 : xs[j] < nx := by
                rcases Int.lt_or_le xs[j] nx with h | h
                · exact h
                · exact absurd ⟨rfl, by omega⟩ c2
              have := (h1 rfl).2.2 t ht' hlt'
              omega
          · simp at ht'
            subst ht'
            omega
    · refine Ev.step (fun k => ?_) (ih (j + 1) nx is ea eb (fun h => ⟨(h1 h).1, (h1 h).2.1, fun t ht' hlt' => ?_⟩) (fun h t ht' hlt' => ?_))
      · simp only [tailwaterlaw15_SessionNear.l1]
        rw [if_pos (by omega), if_pos (by omega), if_pos (by omega), if_pos (by omega), hws, rdI_at xs i hi, rdI_at xs j hlt, if_neg c]
      · rw [et] at ht'
        rcases List.mem_append.1 ht' with ht' | ht'
        · exact (h1 h).2.2 t ht' hlt'
        · simp at ht'
          subst ht'
          exact absurd hlt' c
      · rw [et] at ht'
        rcases List.mem_append.1 ht' with ht' | ht'
        · exact h2 h t ht' hlt'
        · simp at ht'
          subst ht'
          exact c hlt'

theorem near_l0 (xs : List Int) (g : Int) (hg : okGap g) (ht : ∀ t ∈ xs, okTime t) (hx : xs.length < 1000000) : ∀ (d i : Nat), xs.length - i = d → i ≤ xs.length →
    Ev (fun k => tailwaterlaw15_SessionNear.l0 k xs g true (ofL xs g) (i : Int)) true := by
  intro d
  induction d with
  | zero =>
    intro i hd hi
    refine Ev.step (fun k => ?_) (Ev.now true)
    simp only [tailwaterlaw15_SessionNear.l0]
    rw [if_neg (by omega)]
  | succ d ih =>
    intro i hd hi
    have hlt : i < xs.length := by omega
    have h1 := near_l1 xs g hg ht true i hlt hx true (ih (i + 1) (by omega) (by omega)) xs.length 0 0 false (by omega) (by omega) (fun h => by cases h) (fun _ t h => by simp at h)
    refine Ev.step (fun k => ?_) h1
    simp only [tailwaterlaw15_SessionNear.l0]
    rw [if_pos (by omega)]
    rfl

theorem SessionNear_pure : tailwaterlaw15_SessionNear.Pure := by
  intro xs g _ _ _ _
  refine Ev.rounds ?_
  unfold tailwaterlaw15_SessionNear.f
  refine Ev.bind alive_ev ?_
  obtain ⟨r, h1, h2⟩ := few_ev xs g
  refine Ev.bind h1 ?_
  cases r with
  | false =>
    refine Ev.step (f := fun _ => some true) (fun k => ?_) (Ev.now true)
    simp [tailwaterlaw15_SessionNear.j0]
  | true =>
    obtain ⟨hl, hg, ht⟩ := h2 rfl
    refine Ev.step (f := fun k => (session_Of.f k xs g).bind fun bt200 => (if bt200.2 = 0 then (tailwaterlaw15_SessionNear.l0 k xs g true bt200.1 0) else (some false))) (fun k => ?_) ?_
    · rw [if_pos rfl]
      simp only [tailwaterlaw15_SessionNear.j0]
      rw [if_neg (by simp)]
    · refine Ev.bind (of_ev hg ht hl) ?_
      exact Ev.congr (fun k => if_pos rfl) (near_l0 xs g hg ht (by omega) xs.length 0 (by omega) (by omega))
end Go.Proofs.Ytbeldjhpbomonaa.Se
