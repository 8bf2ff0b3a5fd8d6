/- One span more among sessions: the reference's way gives sessions again, that cover what both did; condition: they are sessions, and the span ends behind its start. -/
import Derived.Test.YtbeldjhpbomonaaSeA
namespace Go.Proofs.Ytbeldjhpbomonaa.Se
open Go.RowKit Go.Proofs.YtbeldjhpbomonaaW.PrintWords Go.Proofs.YtbeldjhpbomonaaW.PrintLast Go.Proofs.YtbeldjhpbomonaaW.PrintMore
set_option linter.unusedVariables false

structure WSt where
  bf : List S35
  bh : List S35
  s0 : Int
  s1 : Int

/-- Do they overlap? -/
def ovl (x : S35) (a b : Int) : Prop := x.f0 < b ∧ a < x.f1
instance (x : S35) (a b : Int) : Decidable (ovl x a b) := by unfold ovl; infer_instance

def wstep (st : WSt) (x : S35) : WSt :=
  if ovl x st.s0 st.s1 then ⟨st.bf, st.bh, mn st.s0 x.f0, mx st.s1 x.f1⟩
  else if x.f0 < st.s0 then ⟨st.bf ++ [x], st.bh, st.s0, st.s1⟩
  else ⟨st.bf, st.bh ++ [x], st.s0, st.s1⟩
def WSt.out (st : WSt) : List S35 := st.bf ++ [⟨st.s0, st.s1⟩] ++ st.bh
def withL (l : List S35) (a b : Int) : List S35 := (l.foldl wstep ⟨[], [], a, b⟩).out

structure WInv (a b : Int) (done rest : List S35) (st : WSt) : Prop where
  lt : st.s0 < st.s1
  le0 : st.s0 ≤ a
  le1 : b ≤ st.s1
  posf : Pos st.bf
  posh : Pos st.bh
  ordf : Ord st.bf
  ordh : Ord st.bh
  endf : ∀ x ∈ st.bf, x.f1 ≤ st.s0
  begh : ∀ x ∈ st.bh, st.s1 ≤ x.f0
  cov : ∀ q, Cov st.out q ↔ Cov done q ∨ (2 * a < q ∧ q < 2 * b)
  restf : ∀ x ∈ st.bf, ∀ y ∈ rest, x.f1 ≤ y.f0
  resth : ∀ x ∈ st.bh, ∀ y ∈ rest, x.f1 ≤ y.f0
  none : (∀ x ∈ done, ¬ ovl x a b) → st.s0 = a ∧ st.s1 = b ∧ st.bf.length + st.bh.length = done.length
  some : (∃ x ∈ done, ovl x a b) → st.bf.length + st.bh.length + 1 ≤ done.length
  len : st.bf.length + st.bh.length ≤ done.length

theorem cov_out (st : WSt) (q : Int) : Cov st.out q ↔ Cov st.bf q ∨ (2 * st.s0 < q ∧ q < 2 * st.s1) ∨ Cov st.bh q := by
  unfold WSt.out
  rw [cov_append, cov_append, or_assoc]
  simp [Cov]

theorem winv_step {a b : Int} {done rest : List S35} {st : WSt} {x : S35} (h : WInv a b done (x :: rest) st) (hx : x.f0 < x.f1) (ho : ∀ y ∈ rest, x.f1 ≤ y.f0) : WInv a b (done ++ [x]) rest (wstep st x) := by
  have lt := h.lt
  have le0 := h.le0
  have le1 := h.le1
  have hlen := h.len
  unfold wstep
  by_cases c : ovl x st.s0 st.s1
  · rw [if_pos c]
    obtain ⟨c1, c2⟩ := c
    rw [mn_eq, mx_eq]
    -- nothing stands behind
    have hb : st.bh = [] := by
      rcases hbh : st.bh with _ | ⟨z, zs⟩
      · rfl
      · have h1 := h.begh z (by simp [hbh])
        have h2 := h.resth z (by simp [hbh]) x (by simp)
        have h3 := h.posh z (by simp [hbh])
        omega
    refine ⟨by simp only; omega, by simp only; omega, by simp only; omega, h.posf, h.posh, h.ordf, h.ordh, fun y hy => ?_, fun y hy => ?_, fun q => ?_, fun y hy z hz => h.restf y hy z (by simp [hz]), fun y hy z hz => h.resth y hy z (by simp [hz]), fun hn => ?_, fun _ => ?_, ?_⟩
    · have h1 := h.endf y hy
      have h2 := h.restf y hy x (by simp)
      simp only; omega
    · simp [hb] at hy
    · have hq := h.cov q
      rw [cov_out] at hq ⊢
      rw [cov_append]
      have e1 : Cov [x] q ↔ 2 * x.f0 < q ∧ q < 2 * x.f1 := by simp [Cov]
      rw [e1]
      simp only [hb] at hq ⊢
      have e2 : ¬ Cov [] q := cov_nil q
      simp only [e2, or_false] at hq ⊢
      have e3 : (2 * min st.s0 x.f0 < q ∧ q < 2 * max st.s1 x.f1) ↔ (2 * st.s0 < q ∧ q < 2 * st.s1) ∨ (2 * x.f0 < q ∧ q < 2 * x.f1) := by omega
      rw [e3]
      constructor
      · rintro (h1 | h1 | h1)
        · rcases hq.1 (.inl h1) with h2 | h2
          · exact .inl (.inl h2)
          · exact .inr h2
        · rcases hq.1 (.inr h1) with h2 | h2
          · exact .inl (.inl h2)
          · exact .inr h2
        · exact .inl (.inr h1)
      · rintro ((h1 | h1) | h1)
        · rcases hq.2 (.inl h1) with h2 | h2
          · exact .inl h2
          · exact .inr (.inl h2)
        · exact .inr (.inr h1)
        · rcases hq.2 (.inr h1) with h2 | h2
          · exact .inl h2
          · exact .inr (.inl h2)
    · obtain ⟨e0, e1, _⟩ := h.none (fun y hy => hn y (by simp [hy]))
      have hnx : ¬ ovl x a b := hn x (by simp)
      unfold ovl at hnx
      omega
    · simp; omega
    · simp; omega
  · rw [if_neg c]
    have hnx : ¬ ovl x a b := by
      unfold ovl at c ⊢
      omega
    have hsome : (∃ y ∈ done ++ [x], ovl y a b) → ∃ y ∈ done, ovl y a b := by
      rintro ⟨y, hy, h1⟩
      rcases List.mem_append.1 hy with hy | hy
      · exact ⟨y, hy, h1⟩
      · simp at hy; subst hy; exact absurd h1 hnx
    unfold ovl at c
    by_cases c2 : x.f0 < st.s0
    · rw [if_pos c2]
      refine ⟨lt, le0, le1, fun y hy => ?_, h.posh, ?_, h.ordh, fun y hy => ?_, h.begh, fun q => ?_, fun y hy z hz => ?_, fun y hy z hz => h.resth y hy z (by simp [hz]), fun hn => ?_, fun hs => ?_, ?_⟩
      · rcases List.mem_append.1 hy with hy | hy
        · exact h.posf y hy
        · simp at hy; subst hy; exact hx
      · refine List.pairwise_append.2 ⟨h.ordf, List.pairwise_singleton .., fun y hy z hz => ?_⟩
        simp at hz; subst hz
        exact h.restf y hy _ (by simp)
      · rcases List.mem_append.1 hy with hy | hy
        · exact h.endf y hy
        · simp at hy; subst hy; simp only; omega
      · have hq := h.cov q
        rw [cov_out] at hq ⊢
        simp only [cov_append]
        rw [or_right_comm (a := Cov done q), ← hq, or_right_comm (a := Cov st.bf q)]
      · rcases List.mem_append.1 hy with hy | hy
        · exact h.restf y hy z (by simp [hz])
        · simp at hy; subst hy; exact ho z hz
      · obtain ⟨e0, e1, e2⟩ := h.none (fun y hy => hn y (by simp [hy]))
        exact ⟨e0, e1, by simp; omega⟩
      · have := h.some (hsome hs)
        simp; omega
      · simp; omega
    · rw [if_neg c2]
      refine ⟨lt, le0, le1, h.posf, fun y hy => ?_, h.ordf, ?_, h.endf, fun y hy => ?_, fun q => ?_, fun y hy z hz => h.restf y hy z (by simp [hz]), fun y hy z hz => ?_, fun hn => ?_, fun hs => ?_, ?_⟩
      · rcases List.mem_append.1 hy with hy | hy
        · exact h.posh y hy
        · simp at hy; subst hy; exact hx
      · refine List.pairwise_append.2 ⟨h.ordh, List.pairwise_singleton .., fun y hy z hz => ?_⟩
        simp at hz; subst hz
        exact h.resth y hy _ (by simp)
      · rcases List.mem_append.1 hy with hy | hy
        · exact h.begh y hy
        · simp at hy; subst hy; simp only; omega
      · have hq := h.cov q
        rw [cov_out] at hq ⊢
        simp only [cov_append]
        rw [or_right_comm (a := Cov done q), ← hq]
        simp only [or_assoc]
      · rcases List.mem_append.1 hy with hy | hy
        · exact h.resth y hy z (by simp [hz])
        · simp at hy; subst hy; exact ho z hz
      · obtain ⟨e0, e1, e2⟩ := h.none (fun y hy => hn y (by simp [hy]))
        exact ⟨e0, e1, by simp; omega⟩
      · have := h.some (hsome hs)
        simp; omega
      · simp; omega

theorem winv_nil (a b : Int) (l : List S35) (h : a < b) : WInv a b [] l ⟨[], [], a, b⟩ :=
  ⟨h, Int.le_refl _, Int.le_refl _, fun x hx => by simp at hx, fun x hx => by simp at hx, List.Pairwise.nil, List.Pairwise.nil, fun x hx => by simp at hx, fun x hx => by simp at hx,
    fun q => by rw [cov_out]; simp [Cov], fun x hx => by simp at hx, fun x hx => by simp at hx, fun _ => ⟨rfl, rfl, rfl⟩, fun ⟨x, hx, _⟩ => by simp at hx, by simp⟩

theorem winv_fold (a b : Int) : ∀ (rest done : List S35) (st : WSt), WInv a b done rest st → Pos rest → Ord rest → WInv a b (done ++ rest) [] (rest.foldl wstep st) := by
  intro rest
  induction rest with
  | nil => intro done st h _ _; simpa using h
  | cons x t ih =>
    intro done st h hp ho
    have ho' := List.pairwise_cons.1 ho
    have h1 := winv_step h (hp x (by simp)) ho'.1
    have h2 := ih (done ++ [x]) (wstep st x) h1 (fun y hy => hp y (by simp [hy])) ho'.2
    simpa using h2

theorem with_inv (l : List S35) (a b : Int) (h : a < b) (hp : Pos l) (ho : Ord l) : WInv a b l [] (l.foldl wstep ⟨[], [], a, b⟩) := by
  have := winv_fold a b l [] _ (winv_nil a b l h) hp ho
  simpa using this

theorem with_pos {l : List S35} {a b : Int} (h : a < b) (hp : Pos l) (ho : Ord l) : Pos (withL l a b) := by
  have H := with_inv l a b h hp ho
  intro x hx
  unfold withL WSt.out at hx
  rcases List.mem_append.1 hx with hx | hx
  · rcases List.mem_append.1 hx with hx | hx
    · exact H.posf x hx
    · simp at hx; subst hx; exact H.lt
  · exact H.posh x hx
theorem with_ord {l : List S35} {a b : Int} (h : a < b) (hp : Pos l) (ho : Ord l) : Ord (withL l a b) := by
  have H := with_inv l a b h hp ho
  unfold withL WSt.out Ord
  have hlt := H.lt
  refine List.pairwise_append.2 ⟨List.pairwise_append.2 ⟨H.ordf, List.pairwise_singleton .., fun x hx y hy => ?_⟩, H.ordh, fun x hx y hy => ?_⟩
  · simp at hy; subst hy; exact H.endf x hx
  · have h2 := H.begh y hy
    rcases List.mem_append.1 hx with hx | hx
    · have := H.endf x hx
      omega
    · simp at hx; subst hx; exact h2
theorem with_cov {l : List S35} {a b : Int} (h : a < b) (hp : Pos l) (ho : Ord l) (q : Int) : Cov (withL l a b) q ↔ Cov l q ∨ (2 * a < q ∧ q < 2 * b) := (with_inv l a b h hp ho).cov q
theorem with_len_none {l : List S35} {a b : Int} (h : a < b) (hp : Pos l) (ho : Ord l) (hn : ∀ x ∈ l, ¬ ovl x a b) : (withL l a b).length = l.length + 1 ∧ (⟨a, b⟩ : S35) ∈ withL l a b := by
  obtain ⟨e0, e1, e2⟩ := (with_inv l a b h hp ho).none hn
  unfold withL WSt.out
  rw [e0, e1]
  refine ⟨by simp; omega, by simp⟩
theorem with_len_some {l : List S35} {a b : Int} (h : a < b) (hp : Pos l) (ho : Ord l) (hn : ∃ x ∈ l, ovl x a b) : (withL l a b).length ≤ l.length := by
  have := (with_inv l a b h hp ho).some hn
  unfold withL WSt.out
  simp; omega
theorem with_len {l : List S35} {a b : Int} (h : a < b) (hp : Pos l) (ho : Ord l) : (withL l a b).length ≤ l.length + 1 := by
  have := (with_inv l a b h hp ho).len
  unfold withL WSt.out
  simp; omega
end Go.Proofs.Ytbeldjhpbomonaa.Se
