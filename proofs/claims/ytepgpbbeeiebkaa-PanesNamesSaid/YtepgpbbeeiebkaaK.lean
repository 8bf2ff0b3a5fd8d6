/- copy of elements of several cells, and rows of a call's own whose cells are told by the value alone: what they hold behind stores; no condition. -/
import Derived.Test.YtepgpbbeeiebkaaSB
import Derived.Laws.IdiomCopy
import Derived.ArgAppend
import Derived.Shelf.Spec.SlicesInsertGrow
namespace Go.Proofs.YtepgpbbeeiebkaaK
open Go.RowKit Go.Sort Go.Proofs.YtepgpbbeeiebkaaW.PrintWords Go.Proofs.YtepgpbbeeiebkaaSB
set_option linter.unusedVariables false

theorem run_copy_k {P : Program} (w : World) (dT sT ty elem : TypeId) (k b o dLen dCap : Nat) (a : Addr) (sLen sCap n : Nat) (cs : List Value)
    (hu : P.underlying dT = some (.slice elem)) (hs : (P.info? elem).map (·.size) = some k) (hn : n = Nat.min sLen dLen) (hl : cs.length = n * k)
    (hsrc : ∀ j v, cs[j]? = some v → w.cell? (a.add j) = some v) (hc : ∀ j, j < cs.length → (w.cell? ⟨b, o + j, none⟩).isSome = true) (hf : ∀ j, j < cs.length → w.frozen? ⟨b, o + j, none⟩ = false) (h1 : ∀ v ∈ cs, v.oneCell' = true) :
    (Builtin.copy_ #[dT, sT] ty #[.slice (some ⟨b, o, none⟩) dLen dCap, .slice (some a) sLen sCap]).run P w = .ok (goInt n) (w.setCells b o cs) := by
  have hll := run_loadCells_list (P := P) w a cs hsrc
  have hst := run_storeCells_cells (P := P) b o cs 0 w (by simpa using hc) (by simpa using hf) h1
  rw [hl] at hll
  cases hq : P.info? elem with
  | none => simp [hq] at hs
  | some i =>
    have hi : i.size = k := by simpa [hq] using hs
    simp [Builtin.copy_, run_underlying hu, Builtin.lenOf, Builtin.firstCells, sizeOf, typeInfo, hq, hi, ← hn, hll, hst]

section
variable {α : Type} {d : Kd α} {enc : α → List Value}
/-- The cells of a row, element by element. -/
def cellsL (enc : α → List Value) (xs : List α) : List Value := xs.flatMap enc
theorem cellsL_length (H : Flat d enc) (xs : List α) : (cellsL enc xs).length = xs.length * d.sz := by
  induction xs with
  | nil => simp [cellsL]
  | cons x xs ih =>
    have : cellsL enc (x :: xs) = enc x ++ cellsL enc xs := by simp [cellsL]
    rw [this, List.length_append, H.len, ih, List.length_cons, Nat.succ_mul, Nat.add_comm]
theorem cellsL_append (xs ys : List α) : cellsL enc (xs ++ ys) = cellsL enc xs ++ cellsL enc ys := by simp [cellsL]
theorem cellsL_one (x : α) : cellsL enc [x] = enc x := by simp [cellsL]
theorem cellsL_take (H : Flat d enc) (xs : List α) (m : Nat) : cellsL enc (xs.take m) = (cellsL enc xs).take (m * d.sz) := by
  induction xs generalizing m with
  | nil => simp [cellsL]
  | cons x xs ih =>
    cases m with
    | zero => simp [cellsL]
    | succ m =>
      have e1 : cellsL enc (x :: xs) = enc x ++ cellsL enc xs := by simp [cellsL]
      have e2 : cellsL enc (x :: xs.take m) = enc x ++ cellsL enc (xs.take m) := by simp [cellsL]
      have e3 : (enc x).take ((m + 1) * d.sz) = enc x := List.take_of_length_le (by rw [H.len, Nat.succ_mul]; omega)
      have e4 : (m + 1) * d.sz - d.sz = m * d.sz := by rw [Nat.succ_mul]; omega
      rw [List.take_succ_cons, e2, e1, ih, List.take_append, H.len, e3, e4]
theorem cellsL_drop (H : Flat d enc) (xs : List α) (m : Nat) : cellsL enc (xs.drop m) = (cellsL enc xs).drop (m * d.sz) := by
  induction xs generalizing m with
  | nil => simp [cellsL]
  | cons x xs ih =>
    cases m with
    | zero => simp
    | succ m =>
      have e1 : cellsL enc (x :: xs) = enc x ++ cellsL enc xs := by simp [cellsL]
      have e3 : (enc x).drop ((m + 1) * d.sz) = [] := List.drop_of_length_le (by rw [H.len, Nat.succ_mul]; omega)
      have e4 : (m + 1) * d.sz - d.sz = m * d.sz := by rw [Nat.succ_mul]; omega
      rw [List.drop_succ_cons, e1, ih, List.drop_append, H.len, e3, e4, List.nil_append]
theorem cellsL_oneCell (H : Flat d enc) (xs : List α) : ∀ v ∈ cellsL enc xs, v.oneCell' = true := by
  intro v hv
  simp only [cellsL, List.mem_flatMap] at hv
  obtain ⟨x, _, hx⟩ := hv
  exact H.one x v hx
theorem reps_cellsL (H : Flat d enc) {R : α → List Value → Prop} (hR : ∀ p c, R p c → c = enc p) {xs : List α} {inner : List Value} (h : Reps R d.sz xs inner) : inner = cellsL enc xs := by
  induction xs generalizing inner with
  | nil =>
    have := h.1
    simp at this
    simp [this, cellsL]
  | cons x xs ih =>
    have hl := h.1
    have h0 := hR _ _ (h.2 0 x rfl)
    simp only [Nat.zero_mul, List.drop_zero] at h0
    have e1 : cellsL enc (x :: xs) = enc x ++ cellsL enc xs := by simp [cellsL]
    have ht : inner.drop d.sz = cellsL enc xs := ih ⟨by rw [List.length_drop, hl, List.length_cons, Nat.succ_mul]; omega, fun j p hj => by
      have := h.2 (j + 1) p (by simpa using hj)
      rwa [Nat.succ_mul, Nat.add_comm, ← List.drop_drop] at this⟩
    rw [e1, ← h0, ← ht, List.take_append_drop]
theorem cellsL_reps (H : Flat d enc) {R : α → List Value → Prop} (hR : ∀ p, R p (enc p)) (xs : List α) : Reps R d.sz xs (cellsL enc xs) := by
  refine ⟨cellsL_length H xs, fun j p hj => ?_⟩
  have hjl := (List.getElem?_eq_some_iff.1 hj).1
  have e : (cellsL enc xs).drop (j * d.sz) = enc p ++ cellsL enc (xs.drop (j + 1)) := by
    rw [← cellsL_drop H, List.drop_eq_getElem_cons hjl]
    have : xs[j] = p := (List.getElem?_eq_some_iff.1 hj).2
    rw [this]
    simp [cellsL]
  rw [e, List.take_left' (H.len p)]
  exact hR p

/-- What a row of the call's own that has an address is, in cells. -/
theorem R_block (H : Flat d enc) {e : Nat} {w : World} {base : Nat} {ok : Nat → Prop} {v : Value} {xs : List α} (h : d.R e w base ok v xs) (h0 : 0 < xs.length) :
    ∃ g c cur, v = .slice (some ⟨g, 0, none⟩) xs.length c ∧ ok g ∧ base ≤ g ∧ w.heap[g]? = some (.cells cur e (0, 0)) ∧ xs.length ≤ c ∧ c ≤ maxLen ∧ cur.size = c * d.sz ∧ cur.toList.take (xs.length * d.sz) = cellsL enc xs := by
  obtain ⟨hk, inner, ho, hr⟩ := h
  have hin := reps_cellsL H (fun p c hp => H.M hp) hr
  rcases ho.2 with ⟨rfl, hx⟩ | ⟨g, cap, cur, rfl, hbase, hh, hn, hm, hs, ht⟩
  · omega
  · exact ⟨g, cap, cur, rfl, hk g (by simp [Value.ownBlock]), hbase, hh, hn, hm, hs, by rw [ht, hin]⟩
theorem R_of_block (H : Flat d enc) {e : Nat} {w : World} {base : Nat} {ok : Nat → Prop} {g c : Nat} {cur : Array Value} {xs : List α} (hok : ok g) (hb : base ≤ g) (hh : w.heap[g]? = some (.cells cur e (0, 0))) (hn : xs.length ≤ c) (hm : c ≤ maxLen) (hs : cur.size = c * d.sz) (ht : cur.toList.take (xs.length * d.sz) = cellsL enc xs) :
    d.R e w base ok (.slice (some ⟨g, 0, none⟩) xs.length c) xs := by
  refine ⟨fun k hk => ?_, cellsL enc xs, ⟨cellsL_length H xs, .inr ⟨g, c, cur, rfl, hb, hh, hn, hm, hs, ht⟩⟩, cellsL_reps H (fun p => H.made _ _ _ p) xs⟩
  simp [Value.ownBlock] at hk
  rwa [← hk]
theorem cell_of_take {w : World} {g : Nat} {cur : Array Value} {t : TypeId} {m : Nat} {cs : List Value} (hh : w.heap[g]? = some (.cells cur t (0, 0))) (ht : cur.toList.take m = cs) (j : Nat) (v : Value) (hj : cs[j]? = some v) : w.cell? ⟨g, j, none⟩ = some v := by
  rw [cell_of_row w g j cur t (0, 0) hh, ← Array.getElem?_toList]
  rw [← ht, List.getElem?_take] at hj
  split at hj
  · exact hj
  · cases hj
theorem cell_some {w : World} {g : Nat} {cur : Array Value} {t : TypeId} (hh : w.heap[g]? = some (.cells cur t (0, 0))) (j : Nat) (hj : j < cur.size) : (w.cell? ⟨g, j, none⟩).isSome = true := by
  rw [cell_of_row w g j cur t (0, 0) hh, Array.getElem?_eq_getElem hj]
  rfl
theorem shape_of {w : World} {g : Nat} {cur : Array Value} {t : TypeId} (hh : w.heap[g]? = some (.cells cur t (0, 0))) : w.shape? g = some (t, cur.size) := by
  unfold World.shape?
  simp [hh]
end
end Go.Proofs.YtepgpbbeeiebkaaK
