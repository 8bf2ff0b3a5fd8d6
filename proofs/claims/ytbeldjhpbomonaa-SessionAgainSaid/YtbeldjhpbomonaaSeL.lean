/- SessionAgain over lists: a time that was there changes nothing, one that is near to none becomes a session of its own; the law's own guard: at most 60 times, a gap, a time. -/
import Derived.Test.YtbeldjhpbomonaaSeF
import Derived.Test.YtbeldjhpbomonaaSex9
namespace Go.Proofs.Ytbeldjhpbomonaa.Se
open Go.RowKit Go.Proofs.YtbeldjhpbomonaaW.PrintWords Go.Proofs.YtbeldjhpbomonaaW.PrintLast Go.Proofs.YtbeldjhpbomonaaW.PrintMore
set_option linter.unusedVariables false

theorem again_near {xs : List Int} {g t : Int} (hg : okGap g) : (∃ x ∈ xs, x - t < g ∧ t - x < g) ↔ ∃ s ∈ ofL xs g, ovl s t (t + g) := by
  have hg' := hg
  unfold okGap at hg'
  constructor
  · rintro ⟨x, hx, h1, h2⟩
    obtain ⟨s, hs, h3, h4⟩ := (of_cov' hg (2 * max x t + 1)).2 ⟨x, hx, by omega, by omega⟩
    exact ⟨s, hs, by omega, by omega⟩
  · rintro ⟨s, hs, h1, h2⟩
    have hp := of_pos hg s hs
    obtain ⟨x, hx, h3, h4⟩ := (of_cov' hg (2 * max s.f0 t + 1)).1 ⟨s, hs, by omega, by omega⟩
    exact ⟨x, hx, by omega, by omega⟩
theorem again_same {xs : List Int} {g t : Int} (hg : okGap g) (h : t ∈ xs) : ofL xs g = withL (ofL xs g) t (t + g) := by
  have hg' := hg
  unfold okGap at hg'
  have hpos : t < t + g := by omega
  refine sess_unique _ _ (of_pos hg) (of_ord hg) (with_pos hpos (of_pos hg) (of_ord hg)) (with_ord hpos (of_pos hg) (of_ord hg)) (fun q => ?_)
  rw [with_cov hpos (of_pos hg) (of_ord hg)]
  exact ⟨.inl, fun h' => h'.elim id (fun h' => (of_cov' hg q).2 ⟨t, h, h'⟩)⟩

theorem again_l1 (g t : Int) (L M : List S35) (near : Bool) (hM : M.length < 1000000) (hL : L.length < 1000000) (hw : wrap64 (t + g) = t + g) (hnear : near = true → M.length ≤ L.length) (hfar : near = false → M.length = L.length + 1 ∧ (⟨t, t + g⟩ : S35) ∈ M) : ∀ (d j : Nat) (own : Bool), M.length - j = d → j ≤ M.length →
    (near = false → own = true ∨ (⟨t, t + g⟩ : S35) ∈ M.drop j) → Ev (fun k => tailwaterlaw15_SessionAgain.l1 k g t true L M near own (j : Int)) true := by
  intro d
  induction d with
  | zero =>
    intro j own hd hj ho
    refine Ev.step (f := fun _ => some true) (fun k => ?_) (Ev.now true)
    rw [List.drop_of_length_le (by omega)] at ho
    simp only [tailwaterlaw15_SessionAgain.l1]
    rw [if_neg (by omega)]
    cases near with
    | true =>
      have := hnear rfl
      rw [if_pos rfl, if_pos trivial, decide_eq_true (by omega)]
    | false =>
      have h1 := (hfar rfl).1
      have h2 : own = true := by simpa using ho rfl
      have h3 := wrap_succ L.length (by omega)
      rw [if_neg (by simp), if_pos trivial, if_pos h2, h3, h1]
      simp
  | succ d ih =>
    intro j own hd hj ho
    have hlt : j < M.length := by omega
    have hws := wrap_succ j (by omega)
    rw [List.drop_eq_getElem_cons hlt] at ho
    have ho' : near = false → (own || (M[j].f0 == t && (M[j].f1 == t + g))) = true ∨ (⟨t, t + g⟩ : S35) ∈ M.drop (j + 1) := fun hn => by
      rcases ho hn with h | h
      · exact .inl (by simp [h])
      · rcases List.mem_cons.1 h with h | h
        · refine .inl ?_
          rw [← h]
          simp
        · exact .inr h
    refine Ev.step (fun k => ?_) (ih (j + 1) _ (by omega) (by omega) ho')
    simp only [tailwaterlaw15_SessionAgain.l1]
    rw [if_pos (by omega), hws]
    cases own with
    | true => simp
    | false => rw [if_neg (by simp), if_pos (by omega), rd_at M j hlt, hw]; simp

theorem again_l0 (xs : List Int) (g t : Int) (hg : okGap g) (ht : ∀ x ∈ xs, okTime x) (htt : okTime t) (hx : xs.length ≤ 60) : ∀ (d i : Nat) (was near : Bool), xs.length - i = d → i ≤ xs.length →
    (was = true ↔ t ∈ xs.take i) → (near = true ↔ ∃ x ∈ xs.take i, x - t < g ∧ t - x < g) →
    Ev (fun k => tailwaterlaw15_SessionAgain.l0 k xs g t true (ofL xs g) (withL (ofL xs g) t (t + g)) was near (i : Int)) true := by
  have hg' := hg
  unfold okGap at hg'
  have hpos : t < t + g := by omega
  have hlen := of_len (times := xs) hg
  have hlen2 := with_len hpos (of_pos (times := xs) hg) (of_ord hg)
  intro d
  induction d with
  | zero =>
    intro i was near hd hi h1 h2
    rw [List.take_of_length_le (by clear h1 h2; omega)] at h1 h2
    have e0 : ¬ (i : Int) < (xs.length : Int) := by clear h1 h2; omega
    cases was with
    | true =>
      have hs := again_same (t := t) hg (h1.1 rfl)
      refine Ev.step (f := fun k => (tailwaterref14_Same.f k (ofL xs g) (withL (ofL xs g) t (t + g))).bind fun t229 => (some t229)) (fun k => ?_) ?_
      · simp only [tailwaterlaw15_SessionAgain.l0]
        rw [if_neg e0, if_pos trivial, if_pos trivial]
      · refine Ev.bind (a := true) ⟨1000, fun k hk => ?_⟩ (Ev.now true)
        show tailwaterref14_Same.f k _ _ = _
        rw [← hs, same_f _ _ (by omega) k (by omega)]
        simp
    | false =>
      rw [again_near hg] at h2
      have hl1 := again_l1 g t (ofL xs g) (withL (ofL xs g) t (t + g)) near (by clear h1 h2; omega) (by clear h1 h2; omega) (by unfold okTime at htt; exact wrap_small _ (by omega) (by omega)) (fun hn => with_len_some hpos (of_pos hg) (of_ord hg) (h2.1 hn))
        (fun hn => with_len_none hpos (of_pos hg) (of_ord hg) (fun s hs hov => by have := h2.2 ⟨s, hs, hov⟩; rw [hn] at this; cases this)) (withL (ofL xs g) t (t + g)).length 0 false (by clear h1 h2; omega) (by clear h1 h2; omega)
        (fun hn => .inr (by rw [List.drop_zero]; exact (with_len_none hpos (of_pos hg) (of_ord hg) (fun s hs hov => by have := h2.2 ⟨s, hs, hov⟩; rw [hn] at this; cases this)).2))
      refine Ev.step (fun k => ?_) hl1
      simp only [tailwaterlaw15_SessionAgain.l0]
      rw [if_neg e0, if_neg (by simp)]
      rfl
  | succ d ih =>
    intro i was near hd hi h1 h2
    have hlt : i < xs.length := by clear h1 h2; omega
    have hws := wrap_succ i (by clear h1 h2; omega)
    have et : xs.take (i + 1) = xs.take i ++ [xs[i]] := by rw [List.take_succ_eq_append_getElem hlt]
    have hti := ht xs[i] (List.getElem_mem _)
    have w1 : wrap64 (xs[i] - t) = xs[i] - t := by unfold okTime at hti htt; exact wrap_small _ (by omega) (by omega)
    have w2 : wrap64 (t - xs[i]) = t - xs[i] := by unfold okTime at hti htt; exact wrap_small _ (by omega) (by omega)
    have n1 : (was || (xs[i] == t)) = true ↔ t ∈ xs.take (i + 1) := by
      rw [et, List.mem_append, Bool.or_eq_true, h1, beq_iff_eq, List.mem_singleton, eq_comm (a := t)]
    have n2 : (near || decide (xs[i] - t < g ∧ t - xs[i] < g)) = true ↔ ∃ x ∈ xs.take (i + 1), x - t < g ∧ t - x < g := by
      rw [et, Bool.or_eq_true, h2, decide_eq_true_eq]
      simp only [List.mem_append, List.mem_singleton, or_and_right, exists_or, exists_eq_left]
    have ea : xs.length - (i + 1) = d := by clear h1 h2 n1 n2; omega
    have eb : i + 1 ≤ xs.length := by clear h1 h2 n1 n2; omega
    have ec : (i : Int) < (xs.length : Int) := by clear h1 h2 n1 n2; omega
    have ed : (0 : Int) ≤ (i : Int) := by clear h1 h2 n1 n2; omega
    refine Ev.step (fun k => ?_) (ih (i + 1) _ _ ea eb n1 n2)
    simp only [tailwaterlaw15_SessionAgain.l0]
    rw [if_pos ec, hws, rdI_at xs i hlt, w1, w2]
    by_cases c : xs[i] - t < g
    · cases was <;> cases near <;> simp [c]
    · cases was <;> cases near <;> simp [c]

theorem SessionAgain_pure : tailwaterlaw15_SessionAgain.Pure := by
  intro xs g t _ _ _ _ _
  refine Ev.rounds ?_
  unfold tailwaterlaw15_SessionAgain.f
  refine Ev.bind alive_ev ?_
  obtain ⟨r, h1, h2⟩ := few_ev xs g
  refine Ev.bind h1 ?_
  have stop : Ev (fun k => tailwaterlaw15_SessionAgain.j0 k xs g t true true) true := by
    refine Ev.step (f := fun _ => some true) (fun k => ?_) (Ev.now true)
    simp [tailwaterlaw15_SessionAgain.j0]
  cases r with
  | false => exact Ev.congr (fun k => by simp) stop
  | true =>
    obtain ⟨hl, hg, ht⟩ := h2 rfl
    refine Ev.congr (f := fun k => (tailwaterref13_Check.f k t g).bind fun t215 => (if t215 = 0 then (tailwaterlaw15_SessionAgain.j0 k xs g t true (!true)) else (tailwaterlaw15_SessionAgain.j0 k xs g t true true))) (fun k => if_pos rfl) ?_
    refine Ev.bind (a := checkC t g) ⟨1, fun k hk => refcheck_f t g k (by omega)⟩ ?_
    by_cases c : checkC t g = 0
    · obtain ⟨htt, _⟩ := (checkC_zero t g).1 c
      have hg' := hg
      unfold okGap at hg'
      have hlen := of_len (times := xs) hg
      have hlen2 := with_len (a := t) (b := t + g) (by omega) (of_pos (times := xs) hg) (of_ord hg)
      have hadd : addR (ofL xs g) t g = (withL (ofL xs g) t (t + g), 0) := by
        unfold addR
        rw [if_pos (of_right hg ht (by omega)), if_pos c, if_pos (by omega)]
      have hfin := again_l0 xs g t hg ht htt hl xs.length 0 false false (by omega) (by omega) (by simp) (by simp)
      refine Ev.step (f := fun k => (session_Of.f k xs g).bind fun bt216 => ((session_Add.f k bt216.1 t g).bind fun bt220 => (if bt216.2 = 0 then (tailwaterlaw15_SessionAgain.j1 k xs g t true bt216.1 bt220.1 (bt220.2 != 0)) else (tailwaterlaw15_SessionAgain.j1 k xs g t true bt216.1 bt220.1 true)))) (fun k => ?_) ?_
      · rw [if_pos c]
        simp only [tailwaterlaw15_SessionAgain.j0]
        rw [if_neg (by simp)]
      · refine Ev.bind (of_ev hg ht hl) ?_
        refine Ev.bind (a := (withL (ofL xs g) t (t + g), 0)) ⟨1000, fun k hk => ?_⟩ ?_
        · show session_Add.f k (ofL xs g) t g = _
          rw [add_f _ _ _ (by omega) k (by omega), hadd]
        · refine Ev.step (fun k => ?_) hfin
          rw [if_pos rfl]
          simp only [tailwaterlaw15_SessionAgain.j1]
          rw [if_neg (by simp)]
          rfl
    · exact Ev.congr (fun k => if_neg c) stop
end Go.Proofs.Ytbeldjhpbomonaa.Se
