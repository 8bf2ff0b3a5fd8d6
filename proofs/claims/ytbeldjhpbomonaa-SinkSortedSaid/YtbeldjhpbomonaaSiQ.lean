/- The reference's sorted lists are the program's: the one sorted permutation. Condition: fewer than 100000 elements. -/
import Derived.Test.YtbeldjhpbomonaaSiP
namespace Go.Proofs.Ytbeldjhpbomonaa.Si
open Go.RowKit Go.Sort Go.Proofs.YtbeldjhpbomonaaW.PrintWords Go.Proofs.YtbeldjhpbomonaaW.PrintLast Go.Proofs.YtbeldjhpbomonaaW.PrintMore
set_option linter.unusedVariables false
set_option linter.unnecessarySimpa false
set_option linter.unusedSimpArgs false

theorem le_trans_of {α : Type} {cf : α → α → Int} (hO : SWO (ltOf cf)) (a b c : α) (h1 : (!(ltOf cf) b a) = true) (h2 : (!(ltOf cf) c b) = true) : (!(ltOf cf) c a) = true := by
  simp only [Bool.not_eq_true'] at *
  exact hO.ntrans c b a h2 h1
theorem le_total_of {α : Type} {cf : α → α → Int} (hO : SWO (ltOf cf)) (a b : α) : ((!(ltOf cf) b a) || (!(ltOf cf) a b)) = true := by
  cases h1 : ltOf cf b a with
  | false => rfl
  | true =>
    cases h2 : ltOf cf a b with
    | false => rfl
    | true => have := hO.trans _ _ _ h1 h2; rw [hO.irrefl] at this; exact absurd this (by simp)
theorem sort_unique {α : Type} {cf : α → α → Int} (hO : SWO (ltOf cf)) (hT : ∀ x y, ltOf cf x y = false → ltOf cf y x = false → x = y) (l r : List α) (hp : r.Perm l) (hs : r.Pairwise (fun x y => ltOf cf y x = false)) : l.mergeSort (fun x y => !(ltOf cf) y x) = r := by
  refine List.Perm.eq_of_pairwise (le := fun x y => ltOf cf y x = false) (fun a b _ _ h1 h2 => hT a b h2 h1) ?_ hs ((List.mergeSort_perm _ _).trans hp.symm)
  have := List.pairwise_mergeSort (le := fun x y => !(ltOf cf) y x) (fun a b c => le_trans_of hO a b c) (fun a b => le_total_of hO a b) l
  exact this.imp (fun h => by simpa using h)
theorem ints_map {α : Type} (l : List α) (z : α) : (ints 0 l.length).map (fun i => l.getD i.toNat z) = l := by
  apply List.ext_getElem
  · simp [ints]
  · intro i h1 h2
    simp [ints, h2]

theorem Sorted_l0 (l : List S38) (hl : l.length < 100000) (k : Nat) : ∀ (d i : Nat), i + d = l.length → tailwaterref34_Sorted.l0 (k + d + 1) l ((l.map rowL).take i) (i : Int) = (tailwaterref34_order.f k (l.map rowL) 0 (l.length : Int)).bind fun t => tailwaterref34_Sorted.l1 k l t [] 0 := by
  intro d
  induction d with
  | zero =>
    intro i hi
    have : i = l.length := by omega
    subst this
    unfold tailwaterref34_Sorted.l0
    rw [if_neg (by omega), List.take_of_length_le (by simp)]
    simp
  | succ d ih =>
    intro i hi
    unfold tailwaterref34_Sorted.l0
    have hlt : i < l.length := by omega
    rw [if_pos (by omega), if_pos (by omega), rd38_at l i hlt]
    unfold tailwaterref34_row.f
    simp only [Option.bind_some]
    rw [if_pos (by simp; omega), wrap_succ i (by omega)]
    have e : (l.map rowL).take i ++ [rowL l[i]] = (l.map rowL).take (i + 1) := by
      rw [List.take_add_one, List.getElem?_map, List.getElem?_eq_getElem hlt]
      rfl
    have e2 : ([l[i].f1.f1, l[i].f1.f0, l[i].f0, l[i].f2.f0, l[i].f2.f1] : List Int) = rowL l[i] := rfl
    rw [e2, e, show k + (d + 1) = k + d + 1 by omega]
    exact ih (i + 1) (by omega)
theorem Sorted_l1 (l : List S38) (t : List Int) (ht : ∀ i ∈ t, 0 ≤ i ∧ i < (l.length : Int)) (hl : t.length < 100000) : ∀ (k n : Nat) (out : List S38), n ≤ t.length → t.length - n < k → out.length = n →
    tailwaterref34_Sorted.l1 k l t out (n : Int) = some (out ++ (t.drop n).map (fun i => l.getD i.toNat z38)) := by
  intro k
  induction k with
  | zero => intro n _ _ h; omega
  | succ k ih =>
    intro n out hn hk ho
    unfold tailwaterref34_Sorted.l1
    by_cases hlt : n < t.length
    · have hm := ht t[n] (List.getElem_mem _)
      rw [if_pos (by omega), if_pos (by omega), rd_at t n hlt, if_pos hm.1, if_pos hm.2, if_pos (by omega), wrap_succ n (by omega), ih (n + 1) _ (by omega) (by omega) (by simp [ho])]
      have e2 : t.drop n = t[n] :: t.drop (n + 1) := List.drop_eq_getElem_cons hlt
      rw [e2, List.map_cons, List.append_assoc]
      rfl
    · rw [if_neg (by omega), List.drop_eq_nil_of_le (by omega)]
      simp
theorem Sorted_f (l : List S38) (hl : l.length < 100000) (k : Nat) (hk : 5 * l.length + 300 ≤ k) : tailwaterref34_Sorted.f k l = some (sortRows l) := by
  have hL : Ok (l.map rowL) 5 := ⟨by simpa using hl, by omega, fun x hx => by
    obtain ⟨y, _, rfl⟩ := List.mem_map.1 hx
    rfl⟩
  obtain ⟨k', rfl⟩ : ∃ k', k = k' + l.length + 1 := ⟨k - l.length - 1, by omega⟩
  have h0 := Sorted_l0 l hl k' l.length 0 (by omega)
  obtain ⟨r, hr, rp, rs⟩ := order_f hL l.length 0 (by simp) k' (by omega)
  rw [Nat.zero_add] at hr
  have hidx : ∀ i ∈ r, 0 ≤ i ∧ i < (l.length : Int) := fun x hx => by
    have := rp.mem_iff.1 hx
    simp [ints] at this
    obtain ⟨y, hy, rfl⟩ := this
    omega
  have hlen : r.length = l.length := by rw [rp.length_eq]; simp [ints]
  have h1 := Sorted_l1 l r hidx (by omega) k' 0 [] (by omega) (by omega) rfl
  unfold tailwaterref34_Sorted.f
  simp only [List.take_zero] at h0
  have h0' : tailwaterref34_Sorted.l0 (k' + l.length + 1) l [] 0 = (tailwaterref34_order.f k' (l.map rowL) 0 (l.length : Int)).bind fun t => tailwaterref34_Sorted.l1 k' l t [] 0 := h0
  have hr' : tailwaterref34_order.f k' (l.map rowL) 0 (l.length : Int) = some r := hr
  have h1' : tailwaterref34_Sorted.l1 k' l r [] 0 = some ([] ++ (r.drop 0).map (fun i => l.getD i.toNat z38)) := h1
  rw [h0', hr']
  simp only [Option.bind_some]
  rw [h1']
  simp only [List.nil_append, List.drop_zero, Option.some.injEq]
  symm
  refine sort_unique swoRow totRow l _ ?_ ?_
  · have := rp.map (fun i => l.getD i.toNat z38)
    rw [ints_map] at this
    exact this
  · rw [List.pairwise_map]
    refine rs.imp_of_mem (fun {i j} hi hj h => ?_)
    have a := hidx i hi
    have b := hidx j hj
    rw [lt_row]
    simp only [leI, Bool.not_eq_true'] at h
    have ea : (l.map rowL).getD i.toNat [] = rowL (l.getD i.toNat z38) := by
      have : i.toNat < l.length := by omega
      simp [this]
    have eb : (l.map rowL).getD j.toNat [] = rowL (l.getD j.toNat z38) := by
      have : j.toNat < l.length := by omega
      simp [this]
    rw [ea, eb] at h
    exact h

theorem SortedLate_l0 (l : List S33) (hl : l.length < 100000) (k : Nat) : ∀ (d i : Nat), i + d = l.length → tailwaterref34_SortedLate.l0 (k + d + 1) l ((l.map recL).take i) (i : Int) = (tailwaterref34_order.f k (l.map recL) 0 (l.length : Int)).bind fun t => tailwaterref34_SortedLate.l1 k l t [] 0 := by
  intro d
  induction d with
  | zero =>
    intro i hi
    have : i = l.length := by omega
    subst this
    unfold tailwaterref34_SortedLate.l0
    rw [if_neg (by omega), List.take_of_length_le (by simp)]
    simp
  | succ d ih =>
    intro i hi
    unfold tailwaterref34_SortedLate.l0
    have hlt : i < l.length := by omega
    rw [if_pos (by omega), if_pos (by omega), rd33_at l i hlt]
    unfold tailwaterref34_record.f
    simp only [Option.bind_some]
    rw [if_pos (by simp; omega), wrap_succ i (by omega)]
    have e : (l.map recL).take i ++ [recL l[i]] = (l.map recL).take (i + 1) := by
      rw [List.take_add_one, List.getElem?_map, List.getElem?_eq_getElem hlt]
      rfl
    have e2 : ([l[i].f1, l[i].f0, l[i].f2] : List Int) = recL l[i] := rfl
    rw [e2, e, show k + (d + 1) = k + d + 1 by omega]
    exact ih (i + 1) (by omega)
theorem SortedLate_l1 (l : List S33) (t : List Int) (ht : ∀ i ∈ t, 0 ≤ i ∧ i < (l.length : Int)) (hl : t.length < 100000) : ∀ (k n : Nat) (out : List S33), n ≤ t.length → t.length - n < k → out.length = n →
    tailwaterref34_SortedLate.l1 k l t out (n : Int) = some (out ++ (t.drop n).map (fun i => l.getD i.toNat z33)) := by
  intro k
  induction k with
  | zero => intro n _ _ h; omega
  | succ k ih =>
    intro n out hn hk ho
    unfold tailwaterref34_SortedLate.l1
    by_cases hlt : n < t.length
    · have hm := ht t[n] (List.getElem_mem _)
      rw [if_pos (by omega), if_pos (by omega), rd_at t n hlt, if_pos hm.1, if_pos hm.2, if_pos (by omega), wrap_succ n (by omega), ih (n + 1) _ (by omega) (by omega) (by simp [ho])]
      have e2 : t.drop n = t[n] :: t.drop (n + 1) := List.drop_eq_getElem_cons hlt
      rw [e2, List.map_cons, List.append_assoc]
      rfl
    · rw [if_neg (by omega), List.drop_eq_nil_of_le (by omega)]
      simp
theorem SortedLate_f (l : List S33) (hl : l.length < 100000) (k : Nat) (hk : 5 * l.length + 300 ≤ k) : tailwaterref34_SortedLate.f k l = some (sortLate l) := by
  have hL : Ok (l.map recL) 3 := ⟨by simpa using hl, by omega, fun x hx => by
    obtain ⟨y, _, rfl⟩ := List.mem_map.1 hx
    rfl⟩
  obtain ⟨k', rfl⟩ : ∃ k', k = k' + l.length + 1 := ⟨k - l.length - 1, by omega⟩
  have h0 := SortedLate_l0 l hl k' l.length 0 (by omega)
  obtain ⟨r, hr, rp, rs⟩ := order_f hL l.length 0 (by simp) k' (by omega)
  rw [Nat.zero_add] at hr
  have hidx : ∀ i ∈ r, 0 ≤ i ∧ i < (l.length : Int) := fun x hx => by
    have := rp.mem_iff.1 hx
    simp [ints] at this
    obtain ⟨y, hy, rfl⟩ := this
    omega
  have hlen : r.length = l.length := by rw [rp.length_eq]; simp [ints]
  have h1 := SortedLate_l1 l r hidx (by omega) k' 0 [] (by omega) (by omega) rfl
  unfold tailwaterref34_SortedLate.f
  simp only [List.take_zero] at h0
  have h0' : tailwaterref34_SortedLate.l0 (k' + l.length + 1) l [] 0 = (tailwaterref34_order.f k' (l.map recL) 0 (l.length : Int)).bind fun t => tailwaterref34_SortedLate.l1 k' l t [] 0 := h0
  have hr' : tailwaterref34_order.f k' (l.map recL) 0 (l.length : Int) = some r := hr
  have h1' : tailwaterref34_SortedLate.l1 k' l r [] 0 = some ([] ++ (r.drop 0).map (fun i => l.getD i.toNat z33)) := h1
  rw [h0', hr']
  simp only [Option.bind_some]
  rw [h1']
  simp only [List.nil_append, List.drop_zero, Option.some.injEq]
  symm
  refine sort_unique swoRec totRec l _ ?_ ?_
  · have := rp.map (fun i => l.getD i.toNat z33)
    rw [ints_map] at this
    exact this
  · rw [List.pairwise_map]
    refine rs.imp_of_mem (fun {i j} hi hj h => ?_)
    have a := hidx i hi
    have b := hidx j hj
    rw [lt_rec]
    simp only [leI, Bool.not_eq_true'] at h
    have ea : (l.map recL).getD i.toNat [] = recL (l.getD i.toNat z33) := by
      have : i.toNat < l.length := by omega
      simp [this]
    have eb : (l.map recL).getD j.toNat [] = recL (l.getD j.toNat z33) := by
      have : j.toNat < l.length := by omega
      simp [this]
    rw [ea, eb] at h
    exact h
end Go.Proofs.Ytbeldjhpbomonaa.Si
