/- The accumulator of a list of values: how many, the sum, the least, the greatest; no condition. -/
import Derived.RowKit
namespace Go.Proofs.YtepgpbbeeiebkaaAcc
open Go.RowKit
/-- The accumulator of a list of values: how many, the sum, the least, the greatest. -/
def cnt (l : List Int) : Int := (l.length : Int)
def sm : List Int → Int
  | [] => 0
  | [v] => v
  | l => wrap64 l.sum
def lo : List Int → Int
  | [] => 0
  | v :: l => l.foldl min v
def hi : List Int → Int
  | [] => 0
  | v :: l => l.foldl max v
theorem wrap_eq {a b : Int} (h : (a - b) % 18446744073709551616 = 0) : wrap64 a = wrap64 b := by unfold wrap64; omega
theorem wrap_self (a : Int) : (wrap64 a - a) % 18446744073709551616 = 0 := by unfold wrap64; omega
theorem sm_mod (l : List Int) : (sm l - l.sum) % 18446744073709551616 = 0 := by
  match l with
  | [] => simp [sm]
  | [v] => simp [sm]
  | a :: b :: l => exact wrap_self _
theorem sm_two {l : List Int} (h : 2 ≤ l.length) : sm l = wrap64 l.sum := by
  match l with
  | [] => simp at h
  | [v] => simp at h
  | a :: b :: l => rfl
theorem sm_append {a b : List Int} (ha : a ≠ []) (hb : b ≠ []) : sm (a ++ b) = wrap64 (sm a + sm b) := by
  have h1 := List.length_pos_iff.2 ha
  have h2 := List.length_pos_iff.2 hb
  rw [sm_two (by rw [List.length_append]; omega), List.sum_append]
  have := sm_mod a
  have := sm_mod b
  exact wrap_eq (by omega)
theorem foldl_min (l : List Int) (a b : Int) : l.foldl min (min a b) = min a (l.foldl min b) := by
  induction l generalizing a b with
  | nil => rfl
  | cons x l ih => rw [List.foldl_cons, List.foldl_cons, Int.min_assoc, ih]
theorem foldl_max (l : List Int) (a b : Int) : l.foldl max (max a b) = max a (l.foldl max b) := by
  induction l generalizing a b with
  | nil => rfl
  | cons x l ih => rw [List.foldl_cons, List.foldl_cons, Int.max_assoc, ih]
theorem lo_append {a b : List Int} (ha : a ≠ []) (hb : b ≠ []) : lo (a ++ b) = min (lo a) (lo b) := by
  obtain ⟨x, a, rfl⟩ := List.exists_cons_of_ne_nil ha
  obtain ⟨y, b, rfl⟩ := List.exists_cons_of_ne_nil hb
  simp only [lo, List.cons_append, List.foldl_append, List.foldl_cons]
  rw [foldl_min]
theorem hi_append {a b : List Int} (ha : a ≠ []) (hb : b ≠ []) : hi (a ++ b) = max (hi a) (hi b) := by
  obtain ⟨x, a, rfl⟩ := List.exists_cons_of_ne_nil ha
  obtain ⟨y, b, rfl⟩ := List.exists_cons_of_ne_nil hb
  simp only [hi, List.cons_append, List.foldl_append, List.foldl_cons]
  rw [foldl_max]
theorem lo_le_hi (l : List Int) : lo l ≤ hi l := by
  cases l with
  | nil => simp [lo, hi]
  | cons x l =>
    simp only [lo, hi]
    have : ∀ (l : List Int) (a b : Int), a ≤ b → l.foldl min a ≤ l.foldl max b := by
      intro l
      induction l with
      | nil => intro a b h; exact h
      | cons x l ih => intro a b h; exact ih _ _ (by omega)
    exact this l x x (Int.le_refl _)
theorem sm_perm {a b : List Int} (h : a.Perm b) : sm a = sm b := by
  have hl := h.length_eq
  have hs : a.sum = b.sum := by
    induction h with
    | nil => rfl
    | cons x _ ih => simp only [List.sum_cons]; rw [ih (by simpa using hl)]
    | swap x y l => simp only [List.sum_cons]; omega
    | trans h1 h2 ih1 ih2 => exact (ih1 h1.length_eq).trans (ih2 h2.length_eq)
  rcases Nat.lt_or_ge a.length 2 with h2 | h2
  · match a, b, h with
    | [], b, h => rw [List.nil_perm.1 h]
    | [v], b, h => rw [List.singleton_perm.1 h]
    | _ :: _ :: _, _, _ => exact absurd h2 (by simp)
  · rw [sm_two h2, sm_two (by omega), hs]
theorem lo_perm {a b : List Int} (h : a.Perm b) : lo a = lo b := by
  induction h with
  | nil => rfl
  | @cons x l1 l2 h ih =>
    rcases Decidable.em (l1 = []) with rfl | hn
    · rw [List.nil_perm.1 h]
    · have hn2 : l2 ≠ [] := fun e => hn (by rw [e] at h; exact List.perm_nil.1 h)
      have e1 := lo_append (a := [x]) (b := l1) (by simp) hn
      have e2 := lo_append (a := [x]) (b := l2) (by simp) hn2
      rw [List.singleton_append] at e1 e2
      rw [e1, e2, ih]
  | swap x y l => simp only [lo, List.foldl_cons]; rw [Int.min_comm]
  | trans _ _ ih1 ih2 => exact ih1.trans ih2
theorem hi_perm {a b : List Int} (h : a.Perm b) : hi a = hi b := by
  induction h with
  | nil => rfl
  | @cons x l1 l2 h ih =>
    rcases Decidable.em (l1 = []) with rfl | hn
    · rw [List.nil_perm.1 h]
    · have hn2 : l2 ≠ [] := fun e => hn (by rw [e] at h; exact List.perm_nil.1 h)
      have e1 := hi_append (a := [x]) (b := l1) (by simp) hn
      have e2 := hi_append (a := [x]) (b := l2) (by simp) hn2
      rw [List.singleton_append] at e1 e2
      rw [e1, e2, ih]
  | swap x y l => simp only [hi, List.foldl_cons]; rw [Int.max_comm]
  | trans _ _ ih1 ih2 => exact ih1.trans ih2
theorem cnt_perm {a b : List Int} (h : a.Perm b) : cnt a = cnt b := by unfold cnt; rw [h.length_eq]
theorem cnt_append (a b : List Int) : cnt (a ++ b) = cnt a + cnt b := by unfold cnt; rw [List.length_append]; omega
theorem cnt_zero {l : List Int} : cnt l = 0 ↔ l = [] := by unfold cnt; rw [← List.length_eq_zero_iff]; omega
theorem cnt_one {l : List Int} (h : cnt l = 1) : ∃ v, l = [v] := List.length_eq_one_iff.1 (by unfold cnt at h; omega)
end Go.Proofs.YtepgpbbeeiebkaaAcc
