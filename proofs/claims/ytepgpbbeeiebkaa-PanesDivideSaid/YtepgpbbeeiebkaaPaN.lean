/- panes.Values' end in plain words: the entries that the third loop collects, sorted, are those of all windows, in order; condition: numbers that are Go's. -/
import Derived.Test.YtepgpbbeeiebkaaPaM
namespace Go.Proofs.Ytepgpbbeeiebkaa.St
open Go.RowKit Go.Sort Go.Proofs.YtepgpbbeeiebkaaSB Go.Proofs.YtepgpbbeeiebkaaAcc Go.Proofs.YtepgpbbeeiebkaaMp Go.Proofs.YtepgpbbeeiebkaaPv
set_option linter.unusedVariables false

def entryOf (sz : Int) (p : K2 × A4) : S39 := ⟨p.1.1, ⟨p.1.2, p.1.2 + sz⟩, ⟨⟨p.2.1, p.2.2.1, p.2.2.2.1, p.2.2.2.2⟩, ⟨0, 0, 0, 0⟩⟩⟩
def backOf (x : S39) : K2 × A4 := ((x.f0, x.f1.f0), (x.f2.f0.f0, x.f2.f0.f1, x.f2.f0.f2, x.f2.f0.f3))
theorem back_entry (sz : Int) (p : K2 × A4) : backOf (entryOf sz p) = p := rfl
theorem sorted_values (sz ev : Int) (l : List Rec) {wm seen : M2} (ht : Tells wm (vals (winsAt sz ev) l)) (hn : (keysM seen).Nodup) (h1 : ∀ p ∈ seen, lookM wm p.1 = some p.2) (h2 : ∀ κ a, lookM wm κ = some a → κ ∈ keysM seen) :
    sortEn (seen.map (entryOf sz)) = (valuesC (winsAt sz ev) l).map (entryOf sz) := by
  have hsn : seen.Nodup := by
    unfold keysM at hn
    exact List.Pairwise.of_map (·.1) (fun a b (h : a.1 ≠ b.1) e => h (by rw [e])) hn
  have hwn : wm.Nodup := by
    have := ht.1
    unfold keysM at this
    exact List.Pairwise.of_map (·.1) (fun a b (h : a.1 ≠ b.1) e => h (by rw [e])) this
  have hp : seen.Perm wm := by
    refine (List.perm_ext_iff_of_nodup hsn hwn).2 fun p => ⟨fun h => ?_, fun h => ?_⟩
    · obtain ⟨κ, a⟩ := p
      exact look_mem (h1 _ h)
    · obtain ⟨κ, a⟩ := p
      have hl := look_of_mem ht.1 h
      have hk := h2 κ a hl
      unfold keysM at hk
      obtain ⟨q, hq, e⟩ := List.mem_map.1 hk
      have := h1 q hq
      rw [e, hl] at this
      obtain ⟨κ', a'⟩ := q
      dsimp only at e this
      subst e
      cases this
      exact hq
  obtain ⟨o, ho⟩ : ∃ o, o = (sortEn (seen.map (entryOf sz))).map backOf := ⟨_, rfl⟩
  have hperm := sortEn_perm (seen.map (entryOf sz))
  have hop : o.Perm seen := by
    rw [ho]
    have := hperm.map backOf
    rw [List.map_map] at this
    have e : (backOf ∘ entryOf sz) = id := by funext p; rfl
    rw [e, List.map_id] at this
    exact this
  have hom : o.map (entryOf sz) = sortEn (seen.map (entryOf sz)) := by
    rw [ho, List.map_map]
    conv => rhs; rw [← List.map_id (sortEn (seen.map (entryOf sz)))]
    refine List.map_congr_left fun x hx => ?_
    obtain ⟨p, _, rfl⟩ := List.mem_map.1 (hperm.mem_iff.1 hx)
    rfl
  have hkn : (keysM o).Nodup := (hop.map (fun p : K2 × A4 => p.1)).nodup_iff.2 hn
  have hup : Up (keysM o) := by
    have hs := sortEn_sorted (seen.map (entryOf sz))
    rw [← hom, List.pairwise_map] at hs
    unfold Up
    unfold keysM at hkn ⊢
    rw [List.nodup_iff_pairwise_ne, List.pairwise_map] at hkn
    rw [List.pairwise_map]
    refine (hs.and hkn).imp fun {p q} hh => ?_
    obtain ⟨h, hne⟩ := hh
    rw [ltEn] at h
    have h3 : ¬ (q.1.2 + sz < p.1.2 + sz ∨ (q.1.2 + sz = p.1.2 + sz ∧ q.1.1 < p.1.1)) := fun c => by
      have : (decide ((entryOf sz q).f1.f1 < (entryOf sz p).f1.f1) || (decide ((entryOf sz q).f1.f1 = (entryOf sz p).f1.f1) && decide ((entryOf sz q).f0 < (entryOf sz p).f0))) = true := by
        simp only [entryOf, Bool.or_eq_true, Bool.and_eq_true]
        exact c.imp decide_eq_true fun h => ⟨decide_eq_true h.1, decide_eq_true h.2⟩
      rw [h] at this
      cases this
    simp only [before, Bool.or_eq_true, Bool.and_eq_true, decide_eq_true_eq]
    have : ¬ (p.1.1 = q.1.1 ∧ p.1.2 = q.1.2) := fun e => hne (Prod.ext e.1 e.2)
    omega
  rw [← hom, valuesC_unique (winsAt sz ev) l ht (hop.trans hp) hup]
end Go.Proofs.Ytepgpbbeeiebkaa.St
