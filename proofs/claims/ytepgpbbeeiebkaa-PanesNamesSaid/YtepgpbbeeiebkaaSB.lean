/- A row of the call's own (the print's word) as the sort's row (the shelf's word), and back; condition: an element's cells are told by its value alone. -/
import Derived.Test.YtepgpbbeeiebkaaWKept
import Derived.Shelf.GgSortFunc.RowK
import Derived.Shelf.GgSortFunc.InsertionK
namespace Go.Proofs.YtepgpbbeeiebkaaSB
open Go.RowKit Go.Sort Go.Proofs.YtepgpbbeeiebkaaW.PrintWords
set_option linter.unusedVariables false

/-- A kind whose cells are told by the value alone. -/
structure Flat {α : Type} (d : Kd α) (enc : α → List Value) : Prop where
  M : ∀ {w base ok x cs}, d.M w base ok x cs → cs = enc x
  made : ∀ w base ok x, d.M w base ok x (enc x)
  len : ∀ x, (enc x).length = d.sz
  one : ∀ x, ∀ v ∈ enc x, v.oneCell' = true
  pos : 0 < d.sz

section
variable {α : Type} [Inhabited α] {d : Kd α} {enc : α → List Value}

theorem flat_get (H : Flat d enc) (xs : Array α) (i c : Nat) (hi : i < xs.size) (hc : c < d.sz) : (flatK enc d.sz xs)[i * d.sz + c]! = (enc xs[i]!)[c]! := by
  have hlt : i * d.sz + c < xs.size * d.sz := by
    have := Nat.mul_le_mul_right d.sz (show i + 1 ≤ xs.size from hi)
    rw [Nat.add_mul, Nat.one_mul] at this
    omega
  rw [get_flatK _ _ _ _ hlt]
  have e1 : (i * d.sz + c) / d.sz = i := by
    rw [Nat.mul_comm, Nat.mul_add_div H.pos, Nat.div_eq_of_lt hc, Nat.add_zero]
  have e2 : (i * d.sz + c) % d.sz = c := by
    rw [Nat.mul_comm, Nat.mul_add_mod, Nat.mod_eq_of_lt hc]
  rw [e1, e2]

theorem reps_flat (H : Flat d enc) {R : α → List Value → Prop} (hR : ∀ p c, R p c → c = enc p) {xs : List α} {inner : List Value} (h : Reps R d.sz xs inner) (j : Nat) (hj : j < xs.length * d.sz) : inner[j]? = some ((flatK enc d.sz xs.toArray)[j]!) := by
  obtain ⟨hl, hr⟩ := h
  have hi : j / d.sz < xs.length := by
    rw [Nat.div_lt_iff_lt_mul H.pos]
    exact hj
  have hc : j % d.sz < d.sz := Nat.mod_lt _ H.pos
  have hq := hR _ _ (hr (j / d.sz) _ (List.getElem?_eq_getElem hi))
  have hjj : j / d.sz * d.sz + j % d.sz = j := by rw [Nat.mul_comm]; exact Nat.div_add_mod j d.sz
  have hg := flat_get H xs.toArray (j / d.sz) (j % d.sz) (by simpa using hi) hc
  rw [hjj] at hg
  rw [hg]
  have e1 : inner[j]? = ((inner.drop (j / d.sz * d.sz)).take d.sz)[j % d.sz]? := by
    rw [List.getElem?_take, if_pos hc, List.getElem?_drop, hjj]
  rw [e1, hq]
  have hlen : j % d.sz < (enc xs[j / d.sz]).length := by rw [H.len]; exact hc
  rw [List.getElem?_eq_getElem hlen]
  have e2 : xs.toArray[j / d.sz]! = xs[j / d.sz] := by simp [hi]
  rw [e2, getElem!_pos (enc _) _ hlen]

theorem flat_reps (H : Flat d enc) {R : α → List Value → Prop} (hR : ∀ p, R p (enc p)) (xs : Array α) : Reps R d.sz xs.toList (flatK enc d.sz xs).toList := by
  refine ⟨by simp, fun j p hp => ?_⟩
  have hj : j < xs.size := by
    have := (List.getElem?_eq_some_iff.1 hp).1
    simpa using this
  have hpe : xs[j]! = p := by
    have := (List.getElem?_eq_some_iff.1 hp).2
    rw [getElem!_pos xs j hj]
    simpa using this
  have e : (((flatK enc d.sz xs).toList.drop (j * d.sz)).take d.sz) = enc p := by
    apply List.ext_getElem?
    intro c
    rw [List.getElem?_take]
    by_cases hc : c < d.sz
    · rw [if_pos hc, List.getElem?_drop]
      have hlt : j * d.sz + c < (flatK enc d.sz xs).size := by
        rw [size_flatK]
        have := Nat.mul_le_mul_right d.sz (show j + 1 ≤ xs.size from hj)
        rw [Nat.add_mul, Nat.one_mul] at this
        omega
      have hg := flat_get H xs j c hj hc
      rw [getElem!_pos (flatK enc d.sz xs) _ hlt, hpe] at hg
      have hlen : c < (enc p).length := by rw [H.len]; exact hc
      rw [getElem!_pos (enc _) _ hlen] at hg
      rw [List.getElem?_eq_getElem (by simpa using hlt), List.getElem?_eq_getElem hlen]
      simpa using hg
    · rw [if_neg hc, List.getElem?_eq_none (by rw [H.len]; omega)]
  rw [e]
  exact hR p

theorem frozen_of {w : World} {g : Nat} {cs : Array Value} {t : TypeId} (hb : w.heap[g]? = some (.cells cs t (0, 0))) (j : Nat) : w.frozen? ⟨g, j, none⟩ = false := by
  unfold World.frozen?
  simp [hb]

/-- A row of the call's own holds what the sort wants. -/
theorem holds_of_R (H : Flat d enc) {e : Nat} {w : World} {base : Nat} {ok : Nat → Prop} {g n c : Nat} {xs : List α} (h : d.R e w base ok (.slice (some ⟨g, 0, none⟩) n c) xs) : n = xs.length ∧ HoldsK enc d.sz w g 0 xs.toArray ∧ g < w.heap.size := by
  obtain ⟨h0, inner, ho, hr⟩ := h
  rcases ho.2 with ⟨he, _⟩ | ⟨g', cap, cur, he, hbase, hh, hn, hm, hs, htake⟩
  · cases he
  · injection he with ha hn' hc'
    injection ha with ha
    injection ha with ha _ _
    subst ha
    refine ⟨hn', ?_, (Array.getElem?_eq_some_iff.1 hh).1⟩
    intro j hj
    rw [size_flatK] at hj
    have hj' : j < xs.length * d.sz := by simpa using hj
    have hin := reps_flat H (fun p c hp => H.M hp) hr j hj'
    rw [← htake, List.getElem?_take, if_pos hj'] at hin
    rw [Nat.zero_add]
    refine ⟨?_, frozen_of hh j⟩
    rw [cell_of_row w g j cur e (0, 0) hh]
    simpa using hin

/-- What the sort leaves is the same row, with other elements. -/
theorem R_of_sort (H : Flat d enc) {e : Nat} {w : World} {base : Nat} {ok ok' : Nat → Prop} {g n c : Nat} {xs : List α} (h : d.R e w base ok (.slice (some ⟨g, 0, none⟩) n c) xs) (ys : Array α) (hl : ys.size = xs.length) (m : Nat) (os : Array Obj) (hok : ∀ k, ok k → ok' k) :
    d.R e (sortWorldK enc d.sz w g 0 m ys os) base ok' (.slice (some ⟨g, 0, none⟩) n c) ys.toList := by
  obtain ⟨h0, inner, ho, hr⟩ := h
  refine ⟨fun k hk => hok k (h0 k hk), (flatK enc d.sz ys).toList, ⟨by simp, ?_⟩, flat_reps H (fun p => H.made _ _ _ p) ys⟩
  rcases ho.2 with ⟨he, _⟩ | ⟨g', cap, cur, he, hbase, hh, hn, hm, hs, htake⟩
  · cases he
  · injection he with ha hn' hc'
    injection ha with ha
    injection ha with ha _ _
    subst ha
    subst hc'
    have hlt := (Array.getElem?_eq_some_iff.1 hh).1
    have hF : (flatK enc d.sz ys).size = xs.length * d.sz := by rw [size_flatK, hl]
    refine .inr ⟨g, c, putCells id 0 (flatK enc d.sz ys) cur, ?_, hbase, ?_, by simpa [hl] using hn, hm, ?_, ?_⟩
    · rw [hn', ← hl]
      simp
    · unfold sortWorldK putRowK putRow
      rw [heap_grow_old _ _ (by simpa [mapBlock, ahead] using hlt)]
      simp [mapBlock, Array.getElem?_modify, hh, onCells]
    · simpa [putCells] using hs
    · have hle : xs.length * d.sz ≤ cur.size := by rw [hs]; exact Nat.mul_le_mul_right _ hn
      apply List.ext_getElem?
      intro j
      rw [List.getElem?_take]
      simp only [Array.length_toList, hl]
      by_cases hj : j < xs.length * d.sz
      · rw [if_pos hj]
        have hjc : j < cur.size := by omega
        simp only [putCells, Array.getElem?_toList, Array.getElem?_mapIdx, Array.getElem?_eq_getElem hjc, Option.map_some]
        rw [if_pos ⟨Nat.zero_le _, by rw [hF]; omega⟩, Nat.sub_zero, Array.getElem?_eq_getElem (by rw [hF]; exact hj), getElem!_pos _ _ (by rw [hF]; exact hj)]
        rfl
      · rw [if_neg hj]
        symm
        rw [Array.getElem?_toList, Array.getElem?_eq_none]
        rw [hF]
        omega

theorem heap_sort (w : World) (g m : Nat) (ys : Array α) (k : Nat) (os : Array Obj) (i : Nat) (hi : i < w.heap.size) (hg : i ≠ g) : (sortWorldK enc k w g 0 m ys os).heap[i]? = w.heap[i]? := by
  unfold sortWorldK putRowK putRow
  rw [heap_grow_old _ _ (by simpa [mapBlock, ahead] using hi)]
  simp [mapBlock, Array.getElem?_modify, Ne.symm hg]

theorem size_sortWorldK_ge (w : World) (g m : Nat) (ys : Array α) (k : Nat) (os : Array Obj) : w.heap.size ≤ (sortWorldK enc k w g 0 m ys os).heap.size := by
  unfold sortWorldK putRowK putRow
  simp [mapBlock]

theorem kept_sort {w : World} {S : Nat → Prop} (g m : Nat) (ys : Array α) (k : Nat) (os : Array Obj) (hg : S g) : Kept w (sortWorldK enc k w g 0 m ys os) S :=
  ⟨size_sortWorldK_ge (enc := enc) w g m ys k os, fun i hi hn => heap_sort w g m ys k os i hi (fun e => hn (e ▸ hg))⟩

theorem below_sort {w0 w : World} (hB : Below w0.heap.size w0 w) (g m : Nat) (ys : Array α) (k : Nat) (os : Array Obj) (hg : w0.heap.size ≤ g) : Below w0.heap.size w0 (sortWorldK enc k w g 0 m ys os) := by
  refine ⟨hB.os, hB.tape, hB.output, ?_, fun i hi => ?_⟩
  · have := size_sortWorldK_ge (enc := enc) w g m ys k os
    exact Nat.le_trans hB.size this
  · rw [heap_sort w g m ys k os i (Nat.lt_of_lt_of_le hi hB.size) (by omega)]
    exact hB.block i hi
end
end Go.Proofs.YtepgpbbeeiebkaaSB
