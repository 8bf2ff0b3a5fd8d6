/- SessionHas over lists: each time in one session, that begins with a time and ends with one and the gap; conditions: times in their range, a gap. -/
import Derived.Test.YtbeldjhpbomonaaSeF
import Derived.Test.YtbeldjhpbomonaaSex7
namespace Go.Proofs.Ytbeldjhpbomonaa.Se
open Go.RowKit Go.Proofs.YtbeldjhpbomonaaW.PrintWords Go.Proofs.YtbeldjhpbomonaaW.PrintLast Go.Proofs.YtbeldjhpbomonaaW.PrintMore
set_option linter.unusedVariables false

/-- How many spans have a time. -/
def cntIn (t : Int) (l : List S35) : Nat := l.countP fun s => decide (s.f0 ≤ t ∧ t < s.f1)
theorem cnt_one {l : List S35} (hp : Pos l) (ho : Ord l) (t : Int) (h : Cov l (2 * t + 1)) : cntIn t l = 1 := by
  unfold cntIn
  induction l with
  | nil => exact absurd h (cov_nil _)
  | cons s r ih =>
    have ho' := List.pairwise_cons.1 ho
    have hs := hp s (by simp)
    rw [List.countP_cons]
    by_cases c : s.f0 ≤ t ∧ t < s.f1
    · have e0 : r.countP (fun s => decide (s.f0 ≤ t ∧ t < s.f1)) = 0 := by
        rw [List.countP_eq_zero]
        intro x hx
        have := ho'.1 x hx
        simp only [decide_eq_true_eq]
        omega
      rw [e0]
      simp [c]
    · have hr : Cov r (2 * t + 1) := by
        rcases (cov_cons s r _).1 h with h1 | h1
        · omega
        · exact h1
      rw [ih (fun x hx => hp x (by simp [hx])) ho'.2 hr]
      simp [c]

theorem has_l1 (xs : List Int) (g : Int) (x5 : Bool) (L : List S35) (i : Nat) (hi : i < xs.length) (hL : L.length < 1000000) (r : Bool) : ∀ (d j c : Nat), L.length - j = d → j ≤ L.length → c ≤ j →
    (c + cntIn xs[i] (L.drop j) = 1 → Ev (fun k => tailwaterlaw15_SessionHas.l0 k xs g x5 L ((i + 1 : Nat) : Int)) r) → (hi' : i < 1000000) →
    c + cntIn xs[i] (L.drop j) = 1 → Ev (fun k => tailwaterlaw15_SessionHas.l1 k xs g x5 L (i : Int) (c : Int) (j : Int)) r := by
  intro d
  induction d with
  | zero =>
    intro j c hd hj hc hn hi' h1
    refine Ev.step (fun k => ?_) (hn h1)
    have hw := wrap_succ i (by omega)
    have hc1 : c = 1 := by
      rw [List.drop_of_length_le (by omega)] at h1
      simpa [cntIn] using h1
    simp only [tailwaterlaw15_SessionHas.l1]
    rw [if_neg (by omega), if_pos (by omega), hw]
  | succ d ih =>
    intro j c hd hj hc hn hi' h1
    have hlt : j < L.length := by omega
    have hw := wrap_succ j (by omega)
    have hwc := wrap_succ c (by omega)
    have ed : cntIn xs[i] (L.drop j) = cntIn xs[i] (L.drop (j + 1)) + if L[j].f0 ≤ xs[i] ∧ xs[i] < L[j].f1 then 1 else 0 := by
      rw [List.drop_eq_getElem_cons hlt]
      unfold cntIn
      rw [List.countP_cons]
      simp only [decide_eq_true_eq]
    by_cases c1 : L[j].f0 ≤ xs[i] ∧ xs[i] < L[j].f1
    · rw [if_pos c1] at ed
      have hnx := ih (j + 1) (c + 1) (by omega) (by omega) (by omega) (fun h => hn (by omega)) hi' (by omega)
      refine Ev.step (fun k => ?_) hnx
      simp only [tailwaterlaw15_SessionHas.l1]
      rw [if_pos (by omega), if_pos (by omega), if_pos (by omega), if_pos (by omega), rd_at L j hlt, rdI_at xs i hi, if_pos c1.1, if_pos c1.2, hw, hwc]
    · rw [if_neg c1] at ed
      have hnx := ih (j + 1) c (by omega) (by omega) (by omega) (fun h => hn (by omega)) hi' (by omega)
      refine Ev.step (fun k => ?_) hnx
      simp only [tailwaterlaw15_SessionHas.l1]
      rw [if_pos (by omega), if_pos (by omega), if_pos (by omega), if_pos (by omega), rd_at L j hlt, rdI_at xs i hi, hw]
      by_cases c2 : L[j].f0 ≤ xs[i]
      · rw [if_pos c2, if_neg (fun h => c1 ⟨c2, h⟩)]
      · rw [if_neg c2]

theorem has_l3 (xs : List Int) (g : Int) (x5 : Bool) (L : List S35) (q : Nat) (hq : q < L.length) (hx : xs.length < 1000000) (hw' : ∀ t ∈ xs, wrap64 (t + g) = t + g) (hq' : q < 1000000) (r : Bool) (hn : Ev (fun k => tailwaterlaw15_SessionHas.l2 k xs g x5 L ((q + 1 : Nat) : Int)) r) : ∀ (d i : Nat) (b1 b2 : Bool), xs.length - i = d → i ≤ xs.length →
    (b1 = true ∨ ∃ t ∈ xs.drop i, t = L[q].f0) → (b2 = true ∨ ∃ t ∈ xs.drop i, t + g = L[q].f1) → Ev (fun k => tailwaterlaw15_SessionHas.l3 k xs g x5 L (q : Int) b1 b2 (i : Int)) r := by
  intro d
  induction d with
  | zero =>
    intro i b1 b2 hd hi h1 h2
    rw [List.drop_of_length_le (by omega)] at h1 h2
    have e1 : b1 = true := by simpa using h1
    have e2 : b2 = true := by simpa using h2
    subst e1
    subst e2
    have hw := wrap_succ q (by omega)
    refine Ev.step (fun k => ?_) hn
    simp only [tailwaterlaw15_SessionHas.l3]
    rw [if_neg (by omega), if_pos trivial, if_pos trivial, hw]
  | succ d ih =>
    intro i b1 b2 hd hi h1 h2
    have hlt : i < xs.length := by omega
    have hw := wrap_succ i (by omega)
    have hwx := hw' xs[i] (List.getElem_mem _)
    rw [List.drop_eq_getElem_cons hlt] at h1 h2
    have n1 : (b1 = true ∨ (xs[i] == L[q].f0) = true) ∨ ∃ t ∈ xs.drop (i + 1), t = L[q].f0 := by
      rcases h1 with h1 | ⟨t, ht, e⟩
      · exact .inl (.inl h1)
      · rcases List.mem_cons.1 ht with rfl | ht
        · exact .inl (.inr (by simpa using e))
        · exact .inr ⟨t, ht, e⟩
    have n2 : (b2 = true ∨ (xs[i] + g == L[q].f1) = true) ∨ ∃ t ∈ xs.drop (i + 1), t + g = L[q].f1 := by
      rcases h2 with h2 | ⟨t, ht, e⟩
      · exact .inl (.inl h2)
      · rcases List.mem_cons.1 ht with rfl | ht
        · exact .inl (.inr (by simpa using e))
        · exact .inr ⟨t, ht, e⟩
    have hnx := ih (i + 1) (b1 || (xs[i] == L[q].f0)) (b2 || (xs[i] + g == L[q].f1)) (by clear h1 h2 n1 n2 ih hwx hw'; omega) (by clear h1 h2 n1 n2 ih hwx hw'; omega) (by rw [Bool.or_eq_true]; exact n1) (by rw [Bool.or_eq_true]; exact n2)
    refine Ev.step (fun k => ?_) hnx
    simp only [tailwaterlaw15_SessionHas.l3]
    rw [if_pos (by omega), hw, rdI_at xs i hlt, hwx, rd_at L q hq]
    cases b1 <;> cases b2 <;> simp [hq]

theorem has_l2 (xs : List Int) (g : Int) (L : List S35) (hL : L.length < 1000000) (hx : xs.length < 1000000) (hw' : ∀ t ∈ xs, wrap64 (t + g) = t + g) (hm : ∀ s ∈ L, (∃ t ∈ xs, t = s.f0) ∧ ∃ t ∈ xs, t + g = s.f1) : ∀ (d q : Nat), L.length - q = d → q ≤ L.length →
    Ev (fun k => tailwaterlaw15_SessionHas.l2 k xs g true L (q : Int)) true := by
  intro d
  induction d with
  | zero =>
    intro q hd hq
    refine Ev.step (fun k => ?_) (Ev.now true)
    simp only [tailwaterlaw15_SessionHas.l2]
    rw [if_neg (by omega)]
  | succ d ih =>
    intro q hd hq
    have hlt : q < L.length := by omega
    obtain ⟨m1, m2⟩ := hm L[q] (List.getElem_mem _)
    have h3 := has_l3 xs g true L q hlt hx hw' (by omega) true (ih (q + 1) (by omega) (by omega)) xs.length 0 false false (by omega) (by omega) (.inr (by simpa using m1)) (.inr (by simpa using m2))
    refine Ev.step (fun k => ?_) h3
    simp only [tailwaterlaw15_SessionHas.l2]
    rw [if_pos (by omega)]
    rfl

theorem has_l0 (xs : List Int) (g : Int) (L : List S35) (hL : L.length < 1000000) (hx : xs.length < 1000000) (hw' : ∀ t ∈ xs, wrap64 (t + g) = t + g) (hm : ∀ s ∈ L, (∃ t ∈ xs, t = s.f0) ∧ ∃ t ∈ xs, t + g = s.f1) (hc : ∀ t ∈ xs, cntIn t L = 1) : ∀ (d i : Nat), xs.length - i = d → i ≤ xs.length →
    Ev (fun k => tailwaterlaw15_SessionHas.l0 k xs g true L (i : Int)) true := by
  intro d
  induction d with
  | zero =>
    intro i hd hi
    refine Ev.step (fun k => ?_) (has_l2 xs g L hL hx hw' hm L.length 0 (by omega) (by omega))
    simp only [tailwaterlaw15_SessionHas.l0]
    rw [if_neg (by omega)]
    rfl
  | succ d ih =>
    intro i hd hi
    have hlt : i < xs.length := by omega
    have h1 := has_l1 xs g true L i hlt hL true L.length 0 0 (by omega) (by omega) (by omega) (fun _ => ih (i + 1) (by omega) (by omega)) (by omega) (by rw [List.drop_zero, hc _ (List.getElem_mem _)])
    refine Ev.step (fun k => ?_) h1
    simp only [tailwaterlaw15_SessionHas.l0]
    rw [if_pos (by omega)]
    rfl

theorem SessionHas_pure : tailwaterlaw15_SessionHas.Pure := by
  intro xs g _ _ _ _
  refine Ev.rounds ?_
  unfold tailwaterlaw15_SessionHas.f
  refine Ev.bind alive_ev ?_
  obtain ⟨r, h1, h2⟩ := few_ev xs g
  refine Ev.bind h1 ?_
  cases r with
  | false =>
    refine Ev.step (f := fun _ => some true) (fun k => ?_) (Ev.now true)
    simp [tailwaterlaw15_SessionHas.j0]
  | true =>
    obtain ⟨hl, hg, ht⟩ := h2 rfl
    have hlen := of_len (times := xs) hg
    have hr := of_right hg ht (by omega)
    have hfin := has_l0 xs g (ofL xs g) (by omega) (by omega) (wraps hg ht) (of_mem hg) (fun t h => cnt_one (of_pos hg) (of_ord hg) t ((of_cov' hg _).2 ⟨t, h, by omega, by unfold okGap at hg; omega⟩)) xs.length 0 (by omega) (by omega)
    have hj1 : Ev (fun k => tailwaterlaw15_SessionHas.j1 k xs g true (ofL xs g) (decide (((ofL xs g).length : Int) > (xs.length : Int)))) true := by
      refine Ev.step (fun k => ?_) hfin
      simp only [tailwaterlaw15_SessionHas.j1]
      rw [if_neg (by simp; omega)]
      rfl
    have hrt := refright_ev hr
    refine Ev.step (f := fun k => (session_Of.f k xs g).bind fun bt183 => (if bt183.2 = 0 then ((tailwaterref15_Right.f k bt183.1).bind fun t187 => (if t187 = true then (tailwaterlaw15_SessionHas.j1 k xs g true bt183.1 (decide ((bt183.1.length : Int) > (xs.length : Int)))) else (tailwaterlaw15_SessionHas.j1 k xs g true bt183.1 true))) else (tailwaterlaw15_SessionHas.j1 k xs g true bt183.1 true))) (fun k => ?_) ?_
    · rw [if_pos rfl]
      simp only [tailwaterlaw15_SessionHas.j0]
      rw [if_neg (by simp)]
    · refine Ev.bind (of_ev hg ht hl) ?_
      refine Ev.congr (f := fun k => (tailwaterref15_Right.f k (ofL xs g)).bind fun t187 => (if t187 = true then (tailwaterlaw15_SessionHas.j1 k xs g true (ofL xs g) (decide (((ofL xs g).length : Int) > (xs.length : Int)))) else (tailwaterlaw15_SessionHas.j1 k xs g true (ofL xs g) true))) (fun k => if_pos rfl) ?_
      refine Ev.bind hrt ?_
      exact Ev.congr (fun k => if_pos rfl) hj1
end Go.Proofs.Ytbeldjhpbomonaa.Se
