/- Spans merged: what sessions are, told by what they cover; no condition but that each span ends behind its start. -/
import Derived.Test.YtbeldjhpbomonaaSex0
namespace Go.Proofs.Ytbeldjhpbomonaa.Se
open Go.RowKit Go.Proofs.YtbeldjhpbomonaaW.PrintWords Go.Proofs.YtbeldjhpbomonaaW.PrintLast Go.Proofs.YtbeldjhpbomonaaW.PrintMore
set_option linter.unusedVariables false

/-- What spans cover, in halves: an odd number is a time and the next one, an even one a time that lies inside. -/
def Cov (l : List S35) (q : Int) : Prop := ∃ s ∈ l, 2 * s.f0 < q ∧ q < 2 * s.f1
/-- Each span ends behind its start. -/
def Pos (l : List S35) : Prop := ∀ s ∈ l, s.f0 < s.f1
/-- Spans that follow each other. -/
def Ord (l : List S35) : Prop := l.Pairwise fun a b => a.f1 ≤ b.f0

theorem S35.ext' {a b : S35} (h0 : a.f0 = b.f0) (h1 : a.f1 = b.f1) : a = b := by
  cases a; cases b; simp_all

theorem cov_nil (q : Int) : ¬ Cov [] q := by simp [Cov]
theorem cov_cons (s : S35) (l : List S35) (q : Int) : Cov (s :: l) q ↔ (2 * s.f0 < q ∧ q < 2 * s.f1) ∨ Cov l q := by
  simp [Cov]
theorem cov_append (a b : List S35) (q : Int) : Cov (a ++ b) q ↔ Cov a q ∨ Cov b q := by
  simp only [Cov, List.mem_append, or_and_right, exists_or]
theorem cov_perm {a b : List S35} (h : a.Perm b) (q : Int) : Cov a q ↔ Cov b q := by
  simp only [Cov, h.mem_iff]

/-- Sessions are told by what they cover. -/
theorem sess_unique : ∀ (a b : List S35), Pos a → Ord a → Pos b → Ord b → (∀ q, Cov a q ↔ Cov b q) → a = b := by
  intro a
  induction a with
  | nil =>
    intro b _ _ hp _ h
    cases b with
    | nil => rfl
    | cons s t =>
      have hs := hp s (by simp)
      exact absurd ((h (2 * s.f0 + 1)).2 ⟨s, by simp, by omega, by omega⟩) (cov_nil _)
  | cons s t ih =>
    intro b hp ho hp' ho' h
    cases b with
    | nil =>
      have hs := hp s (by simp)
      exact absurd ((h (2 * s.f0 + 1)).1 ⟨s, by simp, by omega, by omega⟩) (cov_nil _)
    | cons s' t' =>
      have hs := hp s (by simp)
      have hs' := hp' s' (by simp)
      have ho1 := List.pairwise_cons.1 ho
      have ho2 := List.pairwise_cons.1 ho'
      have low : ∀ (x : S35) (l : List S35), Pos (x :: l) → Ord (x :: l) → ∀ q, Cov (x :: l) q → 2 * x.f0 < q := by
        intro x l hp ho q hq
        obtain ⟨y, hy, h1, h2⟩ := hq
        rcases List.mem_cons.1 hy with rfl | hy
        · exact h1
        · have := (List.pairwise_cons.1 ho).1 y hy
          have := hp x (by simp)
          omega
      have e0 : s.f0 = s'.f0 := by
        have h1 := low s' t' hp' ho' _ ((h (2 * s.f0 + 1)).1 ⟨s, by simp, by omega, by omega⟩)
        have h2 := low s t hp ho _ ((h (2 * s'.f0 + 1)).2 ⟨s', by simp, by omega, by omega⟩)
        omega
      have edge : ∀ (x y : S35) (l m : List S35), Pos (x :: l) → Ord (x :: l) → (∀ q, Cov (y :: m) q → Cov (x :: l) q) → x.f0 = y.f0 → x.f0 < x.f1 → y.f1 ≤ x.f1 := by
        intro x y l m hp ho hc e hx
        rcases Int.lt_or_le x.f1 y.f1 with hlt | hle
        · obtain ⟨z, hz, h1, h2⟩ := hc (2 * x.f1) ⟨y, by simp, by omega, by omega⟩
          rcases List.mem_cons.1 hz with rfl | hz
          · omega
          · have := (List.pairwise_cons.1 ho).1 z hz
            omega
        · exact hle
      have e1 : s.f1 = s'.f1 := by
        have h1 := edge s s' t t' hp ho (fun q hq => (h q).2 hq) e0 hs
        have h2 := edge s' s t' t hp' ho' (fun q hq => (h q).1 hq) e0.symm hs'
        omega
      have es : s = s' := S35.ext' e0 e1
      subst es
      congr 1
      refine ih t' (fun x hx => hp x (List.mem_cons_of_mem _ hx)) ho1.2 (fun x hx => hp' x (List.mem_cons_of_mem _ hx)) ho2.2 (fun q => ?_)
      have far : ∀ (l : List S35), (∀ b ∈ l, s.f1 ≤ b.f0) → ∀ q, Cov l q → 2 * s.f1 < q := by
        intro l hl q ⟨y, hy, h1, h2⟩
        have := hl y hy
        omega
      constructor
      · intro hq
        have hf := far t ho1.1 q hq
        rcases (cov_cons s t' q).1 ((h q).1 ((cov_cons s t q).2 (.inr hq))) with h1 | h1
        · omega
        · exact h1
      · intro hq
        have hf := far t' ho2.1 q hq
        rcases (cov_cons s t q).1 ((h q).2 ((cov_cons s t' q).2 (.inr hq))) with h1 | h1
        · omega
        · exact h1

/-! ### Merging, one span behind the other -/
def lastS (out : List S35) : S35 := rd_T35 out ((out.length : Int) - 1)
def stepM (out : List S35) (s : S35) : List S35 :=
  if 0 < out.length ∧ s.f0 < (lastS out).f1 then out.set (out.length - 1) ⟨(lastS out).f0, mx (lastS out).f1 s.f1⟩ else out ++ [s]

theorem lastS_append (a : List S35) (p : S35) : lastS (a ++ [p]) = p := by
  unfold lastS rd_T35
  simp only [List.length_append, List.length_singleton]
  have : (((a.length + 1 : Nat) : Int) - 1).toNat = a.length := by omega
  rw [this]
  simp
theorem stepM_snoc (a : List S35) (p s : S35) : stepM (a ++ [p]) s = if s.f0 < p.f1 then a ++ [⟨p.f0, mx p.f1 s.f1⟩] else a ++ [p] ++ [s] := by
  unfold stepM
  rw [lastS_append]
  by_cases h : s.f0 < p.f1
  · rw [if_pos ⟨by simp, h⟩, if_pos h]
    simp
  · rw [if_neg (fun x => h x.2), if_neg h]
theorem stepM_nil (s : S35) : stepM [] s = [s] := by simp [stepM]

theorem mx_eq (a b : Int) : mx a b = max a b := by unfold mx; omega
theorem mn_eq (a b : Int) : mn a b = min a b := by unfold mn; omega

/-- Merged sessions of spans whose starts come in order. -/
structure MInv (l out : List S35) : Prop where
  pos : Pos out
  ord : Ord out
  cov : ∀ q, Cov out q ↔ Cov l q
  len : out.length ≤ l.length
  starts : ∀ s ∈ out, ∃ x ∈ l, x.f0 = s.f0
  ends : ∀ s ∈ out, ∃ x ∈ l, x.f1 = s.f1
  last : ∀ a p, out = a ++ [p] → ∀ x ∈ l, p.f0 ≥ x.f0 ∨ x.f1 ≤ p.f1
  low : ∀ s ∈ out, ∀ t, (∀ x ∈ l, x.f0 ≤ t) → s.f0 ≤ t

theorem minv_step {l out : List S35} (h : MInv l out) (s : S35) (hs : s.f0 < s.f1) (hsort : ∀ x ∈ l, x.f0 ≤ s.f0) : MInv (l ++ [s]) (stepM out s) := by
  rcases List.eq_nil_or_concat out with rfl | ⟨a, p, rfl⟩
  · rw [stepM_nil]
    have hl : ∀ q, ¬ Cov l q := fun q hq => cov_nil q ((h.cov q).2 hq)
    refine ⟨fun x hx => ?_, List.pairwise_singleton .., fun q => ?_, by simp, fun x hx => ⟨s, by simp, by simp_all⟩, fun x hx => ⟨s, by simp, by simp_all⟩, fun a p e x hx => ?_, fun x hx t ht => ?_⟩
    · simp at hx; subst hx; exact hs
    · rw [cov_append]
      exact ⟨fun hq => .inr hq, fun hq => hq.resolve_left (hl q)⟩
    · have : p = s := by
        have := congrArg List.getLast? e
        simpa using this.symm
      subst this
      rcases List.mem_append.1 hx with hx | hx
      · exact .inl (hsort x hx)
      · simp at hx; subst hx; exact .inl (Int.le_refl _)
    · simp at hx; subst hx; exact ht _ (by simp)
  · rw [List.concat_eq_append] at h ⊢
    have hp : p.f0 < p.f1 := h.pos p (by simp)
    have hps : p.f0 ≤ s.f0 := h.low p (by simp) s.f0 hsort
    have hord := List.pairwise_append.1 h.ord
    rw [stepM_snoc]
    by_cases c : s.f0 < p.f1
    · rw [if_pos c, mx_eq]
      have hlen := h.len
      refine ⟨fun x hx => ?_, ?_, fun q => ?_, by simp at hlen ⊢; omega, fun x hx => ?_, fun x hx => ?_, fun a' p' e x hx => ?_, fun x hx t ht => ?_⟩
      · rcases List.mem_append.1 hx with hx | hx
        · exact h.pos x (by simp [hx])
        · simp at hx; subst hx; simp only; omega
      · refine List.pairwise_append.2 ⟨hord.1, List.pairwise_singleton .., fun x hx y hy => ?_⟩
        simp at hy; subst hy
        exact hord.2.2 x hx p (by simp)
      · have hq := h.cov q
        rw [cov_append] at hq ⊢
        rw [cov_append]
        have e1 : Cov [(⟨p.f0, max p.f1 s.f1⟩ : S35)] q ↔ Cov [p] q ∨ Cov [s] q := by
          simp only [Cov, List.mem_singleton, exists_eq_left]
          omega
        rw [e1, ← hq]
        constructor
        · rintro (h1 | h1 | h1)
          · exact .inl (.inl h1)
          · exact .inl (.inr h1)
          · exact .inr h1
        · rintro ((h1 | h1) | h1)
          · exact .inl h1
          · exact .inr (.inl h1)
          · exact .inr (.inr h1)
      · rcases List.mem_append.1 hx with hx | hx
        · obtain ⟨y, hy, e⟩ := h.starts x (by simp [hx])
          exact ⟨y, by simp [hy], e⟩
        · simp at hx; subst hx
          obtain ⟨y, hy, e⟩ := h.starts p (by simp)
          exact ⟨y, by simp [hy], e⟩
      · rcases List.mem_append.1 hx with hx | hx
        · obtain ⟨y, hy, e⟩ := h.ends x (by simp [hx])
          exact ⟨y, by simp [hy], e⟩
        · simp at hx; subst hx
          simp only
          rcases Int.le_total p.f1 s.f1 with hle | hle
          · exact ⟨s, by simp, by omega⟩
          · obtain ⟨y, hy, e⟩ := h.ends p (by simp)
            exact ⟨y, by simp [hy], by omega⟩
      · have e' : (⟨p.f0, max p.f1 s.f1⟩ : S35) = p' := by
          have := congrArg List.getLast? e
          simpa using this
        subst e'
        simp only
        rcases List.mem_append.1 hx with hx | hx
        · rcases h.last a p rfl x hx with h1 | h1
          · exact .inl h1
          · exact .inr (by omega)
        · simp at hx; subst hx; exact .inr (by omega)
      · rcases List.mem_append.1 hx with hx | hx
        · exact h.low x (by simp [hx]) t (fun y hy => ht y (by simp [hy]))
        · simp at hx; subst hx
          exact h.low p (by simp) t (fun y hy => ht y (by simp [hy]))
    · rw [if_neg c]
      have hlen := h.len
      refine ⟨fun x hx => ?_, ?_, fun q => ?_, by simp at hlen ⊢; omega, fun x hx => ?_, fun x hx => ?_, fun a' p' e x hx => ?_, fun x hx t ht => ?_⟩
      · rcases List.mem_append.1 hx with hx | hx
        · exact h.pos x hx
        · simp at hx; subst hx; exact hs
      · refine List.pairwise_append.2 ⟨h.ord, List.pairwise_singleton .., fun x hx y hy => ?_⟩
        simp at hy; subst hy
        rcases List.mem_append.1 hx with hx | hx
        · have := hord.2.2 x hx p (by simp)
          omega
        · simp at hx; subst hx; omega
      · have hq := h.cov q
        rw [cov_append, cov_append l, hq]
      · rcases List.mem_append.1 hx with hx | hx
        · obtain ⟨y, hy, e⟩ := h.starts x hx
          exact ⟨y, by simp [hy], e⟩
        · simp at hx; subst hx
          exact ⟨x, by simp, rfl⟩
      · rcases List.mem_append.1 hx with hx | hx
        · obtain ⟨y, hy, e⟩ := h.ends x hx
          exact ⟨y, by simp [hy], e⟩
        · simp at hx; subst hx
          exact ⟨x, by simp, rfl⟩
      · have e' : s = p' := by
          have := congrArg List.getLast? e
          simpa using this
        subst e'
        rcases List.mem_append.1 hx with hx | hx
        · exact .inl (hsort x hx)
        · simp at hx; subst hx; exact .inl (Int.le_refl _)
      · rcases List.mem_append.1 hx with hx | hx
        · exact h.low x hx t (fun y hy => ht y (by simp [hy]))
        · simp at hx; subst hx
          exact ht x (by simp)

theorem minv_nil : MInv [] [] := ⟨fun x hx => by simp at hx, List.Pairwise.nil, fun q => Iff.rfl, Nat.le_refl _, fun x hx => by simp at hx, fun x hx => by simp at hx, fun a p e => by simp at e, fun x hx => by simp at hx⟩

theorem minv_fold : ∀ (m l out : List S35), MInv l out → Pos m → (l ++ m).Pairwise (fun a b => a.f0 ≤ b.f0) → MInv (l ++ m) (m.foldl stepM out) := by
  intro m
  induction m with
  | nil => intro l out h _ _; simpa using h
  | cons s t ih =>
    intro l out h hp hs
    have h1 := minv_step h s (hp s (by simp)) (fun x hx => (List.pairwise_append.1 hs).2.2 x hx s (by simp))
    have h2 := ih (l ++ [s]) (stepM out s) h1 (fun x hx => hp x (by simp [hx])) (by simpa using hs)
    simpa using h2

/-- Spans in the order of their starts, merged. -/
theorem merged_inv (m : List S35) (hp : Pos m) (hs : m.Pairwise (fun a b => a.f0 ≤ b.f0)) : MInv m (m.foldl stepM []) := by
  have := minv_fold m [] [] minv_nil hp (by simpa using hs)
  simpa using this
end Go.Proofs.Ytbeldjhpbomonaa.Se
