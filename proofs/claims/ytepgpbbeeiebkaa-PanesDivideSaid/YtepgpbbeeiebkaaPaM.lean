/- panes.Values' maps: keys of two whole numbers, accumulators at them; what the records' loop and the panes' loop make; condition: numbers that are Go's. -/
import Derived.Test.YtepgpbbeeiebkaaPvD
import Derived.Test.YtepgpbbeeiebkaaSeE
namespace Go.Proofs.Ytepgpbbeeiebkaa.St
open Go.RowKit Go.Sort Go.Proofs.YtepgpbbeeiebkaaSB Go.Proofs.YtepgpbbeeiebkaaW.PrintWords Go.Proofs.YtepgpbbeeiebkaaW.PrintMore Go.Proofs.YtepgpbbeeiebkaaAcc Go.Proofs.YtepgpbbeeiebkaaMp Go.Proofs.YtepgpbbeeiebkaaPv
set_option linter.unusedVariables false

theorem laid : laidOutB Try.prog = true := by kernel_rfl
theorem key104 : Go.Maps.Keyed Try.prog 104 := Go.Maps.Keyed.of_law (deep_law_laid laid (m := 4) (by decide) (of_decide_eq_true (by kernel_rfl)) (by kernel_rfl) (by kernel_rfl))
theorem zero36 (w : World) : (zeroValue 36).run Try.prog w = .ok (accV (0, 0, 0, 0)) w := by kernel_rfl
/-- A whole number of Go's. -/
def i64Ok (x : Int) : Bool := decide (-9223372036854775808 ≤ x) && decide (x ≤ 9223372036854775807)
theorem wf64 {x : Int} (h : i64Ok x = true) : (Lit.int .i64 x).wf = true := by
  simp only [i64Ok, Bool.and_eq_true, decide_eq_true_eq] at h
  exact WalkArith.wf_i64 (by omega)
theorem okK_of {P : Program} {kt : TypeId} {f0 f1 : Field} (hu : P.underlying kt = some (.struct #[f0, f1])) (hu2 : P.underlying f0.type = some (.int .i64)) (hu3 : P.underlying f1.type = some (.int .i64)) (hk : P.keyType kt = true) (hc : P.cellsOf kt = 2) (h0 : P.cellsOf f0.type = 1) (h1 : P.cellsOf f1.type = 1)
    (o0 : f0.offset = 0) (o1 : f1.offset = 1) (n0 : (f0.name != "_") = true) (n1 : (f1.name != "_") = true) {n : Nat} (hn : P.types.size = n + 1) {a b : Int} (ha : (Lit.int .i64 a).wf = true) (hb : (Lit.int .i64 b).wf = true) : okK P kt (a, b) := by
  unfold okK keyV
  simp [keyOf, hu, hu2, hu3, hk, hc, h0, h1, o0, o1, n0, n1, hn, Value.formed, Value.cells, Program.keyLits, ha, hb]
theorem okK104 {a b : Int} (ha : i64Ok a = true) (hb : i64Ok b = true) : okK Try.prog 104 (a, b) :=
  okK_of Try.underlying104 Try.underlying2 Try.underlying2 (by kernel_rfl) (by kernel_rfl) (by kernel_rfl) (by kernel_rfl) rfl rfl (by decide) (by decide) (n := 191) (by kernel_rfl) (wf64 ha) (wf64 hb)
/-- Every accumulator of a map is that of few values. -/
def Bnd (m : M2) (B : Nat) : Prop := ∀ κ, ∃ xs, getA m κ = acc xs ∧ xs.length ≤ B
theorem bnd_nil : Bnd [] 0 := fun κ => ⟨[], rfl, Nat.le_refl _⟩
theorem bnd_put {m : M2} {B C : Nat} (h : Bnd m B) (κ : K2) (ys : List Int) (hy : ys.length ≤ C) : Bnd (putM m κ (joinA (getA m κ) (acc ys))) (B + C) := fun κ' => by
  by_cases e : κ' = κ
  · subst e
    obtain ⟨xs, h1, h2⟩ := h κ'
    refine ⟨xs ++ ys, ?_, by rw [List.length_append]; omega⟩
    rw [h1, joinA_acc]
    unfold getA
    rw [look_put_same]
    rfl
  · obtain ⟨xs, h1, h2⟩ := h κ'
    refine ⟨xs, ?_, by omega⟩
    rw [← h1]
    unfold getA
    rw [look_put_other m _ e]
theorem bnd_step {m : M2} {B C : Nat} (h : Bnd m B) (k : Int) (ys : List Int) (hy : ys.length ≤ C) (ss : List Int) : Bnd (winStep m k (acc ys) ss) (B + ss.length * C) := by
  induction ss using snocRec with
  | nil => simpa [winStep] using h
  | snoc ss s ih =>
    rw [winStep_snoc, List.length_append, List.length_singleton, Nat.add_mul, Nat.one_mul, ← Nat.add_assoc]
    exact bnd_put ih _ ys hy
theorem bnd_mono {m : M2} {B B' : Nat} (h : Bnd m B) (hb : B ≤ B') : Bnd m B' := fun κ => by
  obtain ⟨xs, h1, h2⟩ := h κ
  exact ⟨xs, h1, by omega⟩
theorem bnd_wins (ws : Int → List Int) (hw : ∀ t, (ws t).length ≤ 16) (C : Nat) (seen : M2) (hs : ∀ p ∈ seen, ∃ ys, p.2 = acc ys ∧ ys.length ≤ C) : Bnd (winsF ws seen) (seen.length * (16 * C)) := by
  induction seen using snocRec with
  | nil => simpa [winsF] using bnd_nil
  | snoc seen p ih =>
    have h1 := ih (fun q hq => hs q (by simp [hq]))
    obtain ⟨ys, e, hy⟩ := hs p (by simp)
    rw [winsF_snoc, e]
    refine bnd_mono (bnd_step h1 _ ys hy _) ?_
    have := Nat.mul_le_mul_right C (hw p.1.2)
    rw [List.length_append, List.length_singleton, Nat.add_mul, Nat.one_mul]
    omega
/-- The windows of a pane. -/
def wsOf (sz ev p : Int) : List Int := winsAt sz ev (max p (-1099511627776))
def recOf (x : S26) : Rec := (x.f0, x.f1, x.f2)
end Go.Proofs.Ytepgpbbeeiebkaa.St
