/- An argument that is a slice, opened into what the printed contracts ask of it; condition: each element's cells are of the kind. -/
import Derived.Test.YtepgpbbeeiebkaaWWords
import Derived.Deep.Slices
import Derived.ChangeSame
import Derived.OpenShut
import Derived.ChangeArms
namespace Go.Proofs.YtepgpbbeeiebkaaOp
open Go.RowKit Go.ChangeShapes Go.WideShapes Go.Deep Go.Proofs.YtepgpbbeeiebkaaW.PrintWords
set_option linter.unusedVariables false
section
variable {H : Type} {enc : TypeId × Value → H} {P : Program} {w : World} {base : Nat} {spare : Nat → Bool} {held : Bool}

/-- A slice's cells, element by element, as a list of the kind. -/
theorem C_of_trod {α : Type} (k : Kd α) {t e : TypeId} (ht : P.underlying t = some (.slice e)) (hC : P.cellsOf e = k.sz)
    (hel : ∀ (n : Nat) (cs : List Value) (x : DataW H × List MemPlace), DataW.trod enc P w base spare held n e cs = some x → cs.length = k.sz → ∃ p : α, k.K w p cs)
    {A : Option Addr} {len cap : Nat} {d : DataW H} {ps : List MemPlace} (h : DataW.Trod enc P w base spare held t (.slice A len cap) d ps) : ∃ xs : List α, xs.length = len ∧ len ≤ cap ∧ Kd.C k w A len xs := by
  obtain ⟨fuel, hf⟩ := h
  rcases open_slice ht hf with ⟨hcs, _⟩ | ⟨a, l, c, m, n, D, Pl, hcs, _, hl, hm, hmm, _, hi⟩
  · simp [Value.cells] at hcs
    obtain ⟨rfl, rfl, rfl⟩ := hcs
    exact ⟨[], rfl, Nat.le_refl _, rfl, by omega, fun h0 => absurd h0 (by omega)⟩
  · simp [Value.cells] at hcs
    obtain ⟨rfl, rfl, rfl⟩ := hcs
    have hlm : len ≤ m := by
      rw [hmm]
      split <;> omega
    have hp : ∀ i, i < len → ∃ p : α, ∃ cs, cs.length = k.sz ∧ k.K w p cs ∧ ∀ j u, cs[j]? = some u → w.cell? (a.add (i * k.sz + j)) = some u := by
      intro i hilen
      obtain ⟨cs, hc, htr⟩ := hi i (by omega)
      obtain ⟨_, hcl, hat⟩ := World.cells?_some hc
      rw [hC] at hcl hat
      obtain ⟨p, hk⟩ := hel n cs _ htr hcl
      refine ⟨p, cs, hcl, hk, fun j u hu => ?_⟩
      have hj : j < k.sz := by
        have := (List.getElem?_eq_some_iff.1 hu).1
        omega
      rw [← Go.Deep.add_add, hat j hj, hu]
    by_cases h0 : len = 0
    · subst h0
      exact ⟨[], rfl, hl, rfl, by omega, fun h => absurd h (by omega)⟩
    · have hne : Nonempty α := by
        obtain ⟨p, _⟩ := hp 0 (by omega)
        exact ⟨p⟩
      have : Inhabited α := ⟨Classical.choice hne⟩
      let f : Nat → α := fun i => if h : i < len then (hp i h).choose else default
      refine ⟨(List.range len).map f, by simp, hl, by simp, ?_, fun _ => ⟨a, rfl, fun j p hj => ?_⟩⟩
      · unfold maxLen at hm
        omega
      · have hjl : j < len := by
          have := (List.getElem?_eq_some_iff.1 hj).1
          simpa using this
        have e : p = (hp j hjl).choose := by
          rw [List.getElem?_map, List.getElem?_range hjl] at hj
          simp only [Option.map_some, Option.some.injEq] at hj
          rw [← hj]
          simp only [f]
          rw [dif_pos hjl]
        rw [e]
        exact (hp j hjl).choose_spec

/-- The cells of a field of one whole number. -/
theorem int_cell {e : TypeId} {k : IntKind} (he : P.underlying e = some (.int k)) {n : Nat} {c : Value} {x : DataW H × List MemPlace} (h : DataW.trod enc P w base spare held n e [c] = some x) : ∃ v : Int, c = .int k v := by
  obtain ⟨v, hv, _, _⟩ := DataW.trod_int he h
  injection hv with hv _
  exact ⟨v, hv⟩
theorem int_elem {e : TypeId} {k : IntKind} (he : P.underlying e = some (.int k)) {n : Nat} {cs : List Value} {x : DataW H × List MemPlace} (h : DataW.trod enc P w base spare held n e cs = some x) (hl : cs.length = 1) : ∃ v : Int, (Kd.int k).K w v cs := by
  match cs, hl with
  | [c], _ =>
    obtain ⟨v, rfl⟩ := int_cell he h
    exact ⟨v, rfl⟩
end
end Go.Proofs.YtepgpbbeeiebkaaOp
