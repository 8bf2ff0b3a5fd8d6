/- What the sink's functions and the reference's compute, as plain lists: sorting by merging gives the one sorted permutation. Conditions: lists below the lengths told. -/
import Derived.Test.YtbeldjhpbomonaaSix13
namespace Go.Proofs.Ytbeldjhpbomonaa.Si
open Go.RowKit Go.Sort Go.Proofs.YtbeldjhpbomonaaW.PrintWords Go.Proofs.YtbeldjhpbomonaaW.PrintLast Go.Proofs.YtbeldjhpbomonaaW.PrintMore
set_option linter.unusedVariables false
set_option linter.unnecessarySimpa false
set_option linter.unusedSimpArgs false

/-- From some number of rounds on. -/
def Ev {α : Type} (f : Nat → Option α) (v : α) : Prop := ∃ K, ∀ k, K ≤ k → f k = some v
theorem Ev.two {α β : Type} {f : Nat → Option α} {g : Nat → Option β} {u : α} {v : β} (h : Ev f u) (h' : Ev g v) : ∃ K, ∀ k, K ≤ k → f k = some u ∧ g k = some v := by
  obtain ⟨K, hK⟩ := h
  obtain ⟨L, hL⟩ := h'
  exact ⟨K + L, fun k hk => ⟨hK k (by omega), hL k (by omega)⟩⟩

instance decS35 : DecidableEq S35 := fun a b => decidable_of_iff (a.f0 = b.f0 ∧ a.f1 = b.f1) ⟨fun h => by cases a; cases b; simp_all, fun h => by subst h; simp⟩
instance decS36 : DecidableEq S36 := fun a b => decidable_of_iff (a.f0 = b.f0 ∧ a.f1 = b.f1) ⟨fun h => by cases a; cases b; simp_all, fun h => by subst h; simp⟩
instance decS33 : DecidableEq S33 := fun a b => decidable_of_iff (a.f0 = b.f0 ∧ a.f1 = b.f1 ∧ a.f2 = b.f2) ⟨fun h => by cases a; cases b; simp_all, fun h => by subst h; simp⟩
instance decS38 : DecidableEq S38 := fun a b => decidable_of_iff (a.f0 = b.f0 ∧ a.f1 = b.f1 ∧ a.f2 = b.f2) ⟨fun h => by cases a; cases b; simp_all, fun h => by subst h; simp⟩
theorem wrap_succ (i : Nat) (h : i < 4611686018427387904) : wrap64 ((i : Int) + 1) = ((i + 1 : Nat) : Int) := by unfold wrap64; omega
theorem rd_at (l : List Int) (i : Nat) (h : i < l.length) : rd l (i : Int) = l[i] := by show l.getD (i : Int).toNat 0 = _; simp [h]
theorem rd38_at (l : List S38) (i : Nat) (h : i < l.length) : rd_T38 l (i : Int) = l[i] := by show l.getD (i : Int).toNat z38 = _; simp [h]
theorem rd33_at (l : List S33) (i : Nat) (h : i < l.length) : rd_T33 l (i : Int) = l[i] := by show l.getD (i : Int).toNat z33 = _; simp [h]
theorem rdL7_at (l : List (List Int)) (i : Nat) (h : i < l.length) : rd_L7 l (i : Int) = l[i] := by show l.getD (i : Int).toNat [] = _; simp [h]

theorem ne38 (a b : S38) : ((!((a.f0) == (b.f0)) || ((!((a.f1.f0) == (b.f1.f0)) || (!((a.f1.f1) == (b.f1.f1)))) || ((!((a.f2.f0) == (b.f2.f0)) || (!((a.f2.f1) == (b.f2.f1))))))) = true) ↔ a ≠ b := by
  obtain ⟨a0, ⟨a1, a2⟩, ⟨a3, a4⟩⟩ := a
  obtain ⟨b0, ⟨b1, b2⟩, ⟨b3, b4⟩⟩ := b
  simp only [Bool.or_eq_true, Bool.not_eq_true', beq_eq_false_iff_ne, ne_eq, S38.mk.injEq, S35.mk.injEq, S36.mk.injEq]
  by_cases c0 : a0 = b0 <;> by_cases c1 : a1 = b1 <;> by_cases c2 : a2 = b2 <;> by_cases c3 : a3 = b3 <;> by_cases c4 : a4 = b4 <;> simp [c0, c1, c2, c3, c4]
theorem ne33 (a b : S33) : ((!((a.f0) == (b.f0)) || (!((a.f1) == (b.f1)) || (!((a.f2) == (b.f2))))) = true) ↔ a ≠ b := by
  obtain ⟨a0, a1, a2⟩ := a
  obtain ⟨b0, b1, b2⟩ := b
  simp only [Bool.or_eq_true, Bool.not_eq_true', beq_eq_false_iff_ne, ne_eq, S33.mk.injEq]
  by_cases c0 : a0 = b0 <;> by_cases c1 : a1 = b1 <;> by_cases c2 : a2 = b2 <;> simp [c0, c1, c2]

theorem sameRows_l0 (a b : List S38) (hl : a.length = b.length) (hb : a.length < 4611686018427387904) : ∀ (k n : Nat), n ≤ a.length → a.length - n < k → tailwaterref34_SameRows.l0 k a b (n : Int) = some (decide (a.drop n = b.drop n)) := by
  intro k
  induction k with
  | zero => intro n _ h; omega
  | succ k ih =>
    intro n hn hk
    unfold tailwaterref34_SameRows.l0
    by_cases hlt : n < a.length
    · rw [if_pos (by omega), if_pos (by omega), if_pos (by omega), rd38_at a n hlt, rd38_at b n (by omega)]
      have e2 : a.drop n = a[n] :: a.drop (n + 1) := List.drop_eq_getElem_cons hlt
      have e3 : b.drop n = b[n] :: b.drop (n + 1) := List.drop_eq_getElem_cons (by omega)
      rw [e2, e3, wrap_succ n (by omega), ih (n + 1) (by omega) (by omega)]
      by_cases hne : a[n] ≠ b[n]
      · rw [if_pos ((ne38 _ _).2 hne), decide_eq_false (fun e => hne (List.cons.inj e).1)]
      · rw [if_neg (fun h => hne ((ne38 _ _).1 h))]
        have : a[n] = b[n] := Classical.not_not.1 hne
        exact congrArg some (decide_eq_decide.2 ⟨fun e => by rw [e, this], fun e => (List.cons.inj e).2⟩)
    · rw [if_neg (by omega), List.drop_eq_nil_of_le (by omega), List.drop_eq_nil_of_le (by omega)]
      simp
theorem sameRows_f (a b : List S38) (hb : a.length < 4611686018427387904) (k : Nat) (hk : a.length < k) : tailwaterref34_SameRows.f k a b = some (decide (a = b)) := by
  unfold tailwaterref34_SameRows.f
  by_cases h : a.length = b.length
  · rw [if_pos (by omega)]
    have := sameRows_l0 a b h hb k 0 (by omega) (by omega)
    simpa using this
  · rw [if_neg (by omega)]
    have : a ≠ b := fun e => h (e ▸ rfl)
    simp [this]
theorem equal_l0 (a b : List S38) (hl : a.length = b.length) (hb : a.length < 4611686018427387904) : ∀ (k n : Nat), n ≤ a.length → a.length - n < k → api_Row.l0 k a b (a.length : Int) (n : Int) = some (decide (a.drop n = b.drop n)) := by
  intro k
  induction k with
  | zero => intro n _ h; omega
  | succ k ih =>
    intro n hn hk
    unfold api_Row.l0
    by_cases hlt : n < a.length
    · rw [if_pos (by omega), if_pos (by omega), if_pos (by omega), if_pos (by omega), rd38_at a n hlt, rd38_at b n (by omega)]
      have e2 : a.drop n = a[n] :: a.drop (n + 1) := List.drop_eq_getElem_cons hlt
      have e3 : b.drop n = b[n] :: b.drop (n + 1) := List.drop_eq_getElem_cons (by omega)
      rw [e2, e3, wrap_succ n (by omega), ih (n + 1) (by omega) (by omega)]
      by_cases hne : a[n] ≠ b[n]
      · rw [if_pos ((ne38 _ _).2 hne), decide_eq_false (fun e => hne (List.cons.inj e).1)]
      · rw [if_neg (fun h => hne ((ne38 _ _).1 h))]
        have : a[n] = b[n] := Classical.not_not.1 hne
        exact congrArg some (decide_eq_decide.2 ⟨fun e => by rw [e, this], fun e => (List.cons.inj e).2⟩)
    · rw [if_neg (by omega), List.drop_eq_nil_of_le (by omega), List.drop_eq_nil_of_le (by omega)]
      simp
theorem equal_f (a b : List S38) (hb : a.length < 4611686018427387904) (k : Nat) (hk : a.length < k) : api_Row.f k a b = some (decide (a = b)) := by
  unfold api_Row.f
  by_cases h : a.length = b.length
  · rw [if_pos (by omega)]
    have := equal_l0 a b h hb k 0 (by omega) (by omega)
    simpa using this
  · rw [if_neg (by omega)]
    have : a ≠ b := fun e => h (e ▸ rfl)
    simp [this]
theorem sameRecords_l0 (a b : List S33) (hl : a.length = b.length) (hb : a.length < 4611686018427387904) : ∀ (k n : Nat), n ≤ a.length → a.length - n < k → tailwaterref34_SameRecords.l0 k a b (n : Int) = some (decide (a.drop n = b.drop n)) := by
  intro k
  induction k with
  | zero => intro n _ h; omega
  | succ k ih =>
    intro n hn hk
    unfold tailwaterref34_SameRecords.l0
    by_cases hlt : n < a.length
    · rw [if_pos (by omega), if_pos (by omega), if_pos (by omega), rd33_at a n hlt, rd33_at b n (by omega)]
      have e2 : a.drop n = a[n] :: a.drop (n + 1) := List.drop_eq_getElem_cons hlt
      have e3 : b.drop n = b[n] :: b.drop (n + 1) := List.drop_eq_getElem_cons (by omega)
      rw [e2, e3, wrap_succ n (by omega), ih (n + 1) (by omega) (by omega)]
      by_cases hne : a[n] ≠ b[n]
      · rw [if_pos ((ne33 _ _).2 hne), decide_eq_false (fun e => hne (List.cons.inj e).1)]
      · rw [if_neg (fun h => hne ((ne33 _ _).1 h))]
        have : a[n] = b[n] := Classical.not_not.1 hne
        exact congrArg some (decide_eq_decide.2 ⟨fun e => by rw [e, this], fun e => (List.cons.inj e).2⟩)
    · rw [if_neg (by omega), List.drop_eq_nil_of_le (by omega), List.drop_eq_nil_of_le (by omega)]
      simp
theorem sameRecords_f (a b : List S33) (hb : a.length < 4611686018427387904) (k : Nat) (hk : a.length < k) : tailwaterref34_SameRecords.f k a b = some (decide (a = b)) := by
  unfold tailwaterref34_SameRecords.f
  by_cases h : a.length = b.length
  · rw [if_pos (by omega)]
    have := sameRecords_l0 a b h hb k 0 (by omega) (by omega)
    simpa using this
  · rw [if_neg (by omega)]
    have : a ≠ b := fun e => h (e ▸ rfl)
    simp [this]

theorem lower_l0 (a b : List Int) (hl : a.length = b.length) (hb : a.length < 4611686018427387904) : ∀ (k n : Nat), n ≤ a.length → a.length - n < k → tailwaterref34_lower.l0 k a b (n : Int) = some (lowL (a.drop n) (b.drop n)) := by
  intro k
  induction k with
  | zero => intro n _ h; omega
  | succ k ih =>
    intro n hn hk
    unfold tailwaterref34_lower.l0
    by_cases hlt : n < a.length
    · rw [if_pos (by omega), if_pos (by omega), if_pos (by omega), rd_at a n hlt, rd_at b n (by omega)]
      have e2 : a.drop n = a[n] :: a.drop (n + 1) := List.drop_eq_getElem_cons hlt
      have e3 : b.drop n = b[n] :: b.drop (n + 1) := List.drop_eq_getElem_cons (by omega)
      rw [e2, e3, wrap_succ n (by omega), ih (n + 1) (by omega) (by omega)]
      simp only [lowL]
      by_cases hne : a[n] = b[n]
      · rw [if_pos hne, if_pos hne]
      · rw [if_neg hne, if_neg hne]
    · rw [if_neg (by omega), List.drop_eq_nil_of_le (by omega), List.drop_eq_nil_of_le (by omega)]
      rfl
theorem lower_f (a b : List Int) (hl : a.length = b.length) (k : Nat) (hb : a.length < 100) (hk : 100 ≤ k) : tailwaterref34_lower.f k a b = some (lowL a b) := by
  have := lower_l0 a b hl (by omega) k 0 (by omega) (by omega)
  simpa [tailwaterref34_lower.f] using this

/-- Which of two indices is to stand first. -/
def leI (L : List (List Int)) (i j : Int) : Bool := !lowL (L.getD j.toNat []) (L.getD i.toNat [])
def Ok (L : List (List Int)) (m : Nat) : Prop := L.length < 100000 ∧ m < 100 ∧ ∀ x ∈ L, x.length = m
def Idx (L : List (List Int)) (a : List Int) : Prop := ∀ i ∈ a, 0 ≤ i ∧ i < (L.length : Int)
theorem low_idx {L : List (List Int)} {m : Nat} (hL : Ok L m) {i j : Int} (hi : 0 ≤ i ∧ i < (L.length : Int)) (hj : 0 ≤ j ∧ j < (L.length : Int)) (k : Nat) (hk : 100 ≤ k) :
    tailwaterref34_lower.f k (rd_L7 L j) (rd_L7 L i) = some (!leI L i j) := by
  have h1 : (rd_L7 L j).length = m := by
    obtain ⟨n, rfl⟩ := Int.eq_ofNat_of_zero_le hj.1
    rw [rdL7_at L n (by omega)]
    exact hL.2.2 _ (List.getElem_mem _)
  have h2 : (rd_L7 L i).length = m := by
    obtain ⟨n, rfl⟩ := Int.eq_ofNat_of_zero_le hi.1
    rw [rdL7_at L n (by omega)]
    exact hL.2.2 _ (List.getElem_mem _)
  rw [lower_f _ _ (by rw [h1, h2]) k (by rw [h1]; exact hL.2.1) hk]
  simp [leI, rd_L7]
theorem merge_nil_right' (le : Int → Int → Bool) (a : List Int) : List.merge a [] le = a := by simp
theorem merge_nil_left' (le : Int → Int → Bool) (a : List Int) : List.merge [] a le = a := by simp

theorem order_merge {L : List (List Int)} {m : Nat} (hL : Ok L m) (a b : List Int) (ha : Idx L a) (hb : Idx L b) (hab : a.length + b.length < 1000000) : ∀ (k i j : Nat) (out : List Int), i ≤ a.length → j ≤ b.length → 2 * (a.length - i + (b.length - j)) + 102 ≤ k → out.length = i + j →
    tailwaterref34_order.l0 k L a b out (i : Int) (j : Int) = some (out ++ List.merge (a.drop i) (b.drop j) (leI L)) := by
  intro k
  induction k using Nat.strongRecOn with
  | _ k ih =>
  intro i j out hi hj hk ho
  obtain ⟨k, rfl⟩ : ∃ k', k = k' + 2 := ⟨k - 2, by omega⟩
  have stepA : ∀ (hlt : i < a.length), tailwaterref34_order.l0 k L a b (out ++ [rd a (i : Int)]) (wrap64 ((i : Int) + 1)) (j : Int) = some (out ++ a[i] :: List.merge (a.drop (i + 1)) (b.drop j) (leI L)) := by
    intro hlt
    rw [rd_at a i hlt, wrap_succ i (by omega), ih k (by omega) (i + 1) j _ (by omega) hj (by omega) (by simp; omega)]
    simp
  have stepB : ∀ (hlt : j < b.length), tailwaterref34_order.l0 k L a b (out ++ [rd b (j : Int)]) (i : Int) (wrap64 ((j : Int) + 1)) = some (out ++ b[j] :: List.merge (a.drop i) (b.drop (j + 1)) (leI L)) := by
    intro hlt
    rw [rd_at b j hlt, wrap_succ j (by omega), ih k (by omega) i (j + 1) _ hi (by omega) (by omega) (by simp; omega)]
    simp
  unfold tailwaterref34_order.l0
  by_cases h1 : i < a.length
  · rw [if_pos (by omega)]
    unfold tailwaterref34_order.j1
    rw [if_pos rfl]
    have ea : a.drop i = a[i] :: a.drop (i + 1) := List.drop_eq_getElem_cons h1
    by_cases h2 : j = b.length
    · rw [if_pos (by omega), if_pos (by omega), if_pos (by omega), if_pos (by omega), stepA h1, ea]
      rw [List.drop_eq_nil_of_le (by omega : b.length ≤ j), merge_nil_right', merge_nil_right']
    · rw [if_neg (by omega), if_pos (by omega), if_pos (by omega), if_pos (by omega)]
      have hbj := hb b[j] (List.getElem_mem (by omega))
      have hai := ha a[i] (List.getElem_mem (by omega))
      have eb : b.drop j = b[j] :: b.drop (j + 1) := List.drop_eq_getElem_cons (by omega)
      rw [if_pos (by rw [rd_at b j (by omega)]; exact hbj.1), if_pos (by rw [rd_at b j (by omega)]; exact hbj.2), if_pos (by omega), if_pos (by rw [rd_at a i (by omega)]; exact hai.1), if_pos (by rw [rd_at a i (by omega)]; exact hai.2)]
      rw [rd_at b j (by omega), rd_at a i (by omega), low_idx hL hai hbj k (by omega)]
      rw [rd_at b j (by omega)] at stepB
      rw [rd_at a i (by omega)] at stepA
      simp only [Option.bind_some]
      rw [ea, eb]
      cases hle : leI L a[i] b[j] with
      | true =>
        rw [if_neg (by simp), if_pos (by omega), stepA h1, List.cons_merge_cons, if_pos hle, eb]
      | false =>
        rw [if_pos (by simp), if_pos (by omega), stepB (by omega), List.cons_merge_cons, if_neg (by simp [hle]), ea]
  · rw [if_neg (by omega)]
    have hia : i = a.length := by omega
    by_cases h2 : j < b.length
    · rw [show decide ((j : Int) < (b.length : Int)) = true from decide_eq_true (by omega)]
      unfold tailwaterref34_order.j1
      rw [if_pos rfl, if_neg (by omega), if_neg (by omega), if_pos (by omega), if_pos (by omega), if_pos (by omega), stepB h2]
      have eb : b.drop j = b[j] :: b.drop (j + 1) := List.drop_eq_getElem_cons (by omega)
      rw [List.drop_eq_nil_of_le (by omega : a.length ≤ i), merge_nil_left', merge_nil_left', eb]
    · rw [show decide ((j : Int) < (b.length : Int)) = false from decide_eq_false (by omega)]
      unfold tailwaterref34_order.j1
      rw [if_neg (by simp), List.drop_eq_nil_of_le (by omega : a.length ≤ i), List.drop_eq_nil_of_le (by omega : b.length ≤ j), merge_nil_left']
      simp

theorem leI_trans (L : List (List Int)) {m : Nat} (hL : Ok L m) (i j k : Int) (hi : 0 ≤ i ∧ i < (L.length : Int)) (hj : 0 ≤ j ∧ j < (L.length : Int)) (hk : 0 ≤ k ∧ k < (L.length : Int)) (h1 : leI L i j = true) (h2 : leI L j k = true) : leI L i k = true := by
  have hlen : ∀ x : Int, 0 ≤ x ∧ x < (L.length : Int) → (L.getD x.toNat []).length = m := by
    intro x hx
    have hx' : x.toNat < L.length := by omega
    simp only [List.getD_eq_getElem?_getD, List.getElem?_eq_getElem hx', Option.getD_some]
    exact hL.2.2 _ (List.getElem_mem _)
  simp only [leI, Bool.not_eq_true'] at *
  have a := hlen i hi
  have b := hlen j hj
  have c := hlen k hk
  cases d : lowL (L.getD k.toNat []) (L.getD i.toNat []) with
  | false => rfl
  | true =>
    cases e : lowL (L.getD i.toNat []) (L.getD j.toNat []) with
    | true => have := lowL_trans _ _ _ d e; rw [h2] at this; exact absurd this (by simp)
    | false => rw [lowL_total _ _ (by rw [a, b]) e h1] at d; rw [h2] at d; exact absurd d (by simp)
/-- Two merged lists in order are in order. -/
theorem merge_sorted {L : List (List Int)} {m : Nat} (hL : Ok L m) : ∀ (a b : List Int), Idx L a → Idx L b → a.Pairwise (fun i j => leI L i j = true) → b.Pairwise (fun i j => leI L i j = true) → (List.merge a b (leI L)).Pairwise (fun i j => leI L i j = true)
  | [], b, _, _, _, hb => by simpa using hb
  | a :: r, [], _, _, ha, _ => by simpa using ha
  | a :: r, b :: s, ia, ib, ha, hb => by
    rw [List.cons_merge_cons]
    have ia' : Idx L r := fun x hx => ia x (List.mem_cons_of_mem _ hx)
    have ib' : Idx L s := fun x hx => ib x (List.mem_cons_of_mem _ hx)
    have hA := ia a (List.mem_cons_self ..)
    have hB := ib b (List.mem_cons_self ..)
    rw [List.pairwise_cons] at ha hb
    by_cases h : leI L a b = true
    · rw [if_pos h, List.pairwise_cons]
      refine ⟨fun x hx => ?_, merge_sorted hL r (b :: s) ia' ib ha.2 (List.pairwise_cons.2 hb)⟩
      rcases List.mem_append.1 ((List.merge_perm_append (leI L)).mem_iff.1 hx) with hx | hx
      · exact ha.1 x hx
      · rcases List.mem_cons.1 hx with rfl | hx
        · exact h
        · exact leI_trans L hL a b x hA hB (ib x (List.mem_cons_of_mem _ hx)) h (hb.1 x hx)
    · rw [if_neg h, List.pairwise_cons]
      have h' : leI L b a = true := by
        simp only [leI, Bool.not_eq_true', Bool.not_eq_false'] at h ⊢
        have h2 : lowL (L.getD b.toNat []) (L.getD a.toNat []) = true := by
          cases c : lowL (L.getD b.toNat []) (L.getD a.toNat []) with
          | true => rfl
          | false => exact absurd c h
        cases c : lowL (L.getD a.toNat []) (L.getD b.toNat []) with
        | false => rfl
        | true => have := lowL_trans _ _ _ c h2; rw [lowL_irrefl] at this; exact absurd this (by simp)
      refine ⟨fun x hx => ?_, merge_sorted hL (a :: r) s ia ib' (List.pairwise_cons.2 ha) hb.2⟩
      rcases List.mem_append.1 ((List.merge_perm_append (leI L)).mem_iff.1 hx) with hx | hx
      · rcases List.mem_cons.1 hx with rfl | hx
        · exact h'
        · exact leI_trans L hL b a x hB hA (ia x (List.mem_cons_of_mem _ hx)) h' (ha.1 x hx)
      · exact hb.1 x hx
  termination_by a b => a.length + b.length

def ints (a n : Nat) : List Int := (List.range' a n).map (fun i : Nat => (i : Int))
theorem ints_append (a n k : Nat) : ints a n ++ ints (a + n) k = ints a (n + k) := by
  unfold ints
  rw [← List.map_append]
  congr 1
  have := List.range'_append (s := a) (m := n) (n := k) (step := 1)
  simpa [Nat.add_comm] using this
/-- The indices, in order: by merging. -/
theorem order_f {L : List (List Int)} {m : Nat} (hL : Ok L m) : ∀ (n a : Nat), a + n ≤ L.length → ∀ k, 4 * n + 200 ≤ k → ∃ r, tailwaterref34_order.f k L (a : Int) ((a + n : Nat) : Int) = some r ∧ r.Perm (ints a n) ∧ r.Pairwise (fun i j => leI L i j = true) := by
  intro n
  induction n using Nat.strongRecOn with
  | _ n ih =>
  intro a ha k hk
  obtain ⟨k, rfl⟩ : ∃ k', k = k' + 1 := ⟨k - 1, by omega⟩
  have hlen := hL.1
  unfold tailwaterref34_order.f
  have e0 : wrap64 (((a + n : Nat) : Int) - (a : Int)) = (n : Int) := by unfold wrap64; omega
  rw [e0]
  rcases Nat.lt_or_ge n 2 with h | h
  · rw [if_pos (by omega)]
    rcases (show n = 0 ∨ n = 1 by omega) with rfl | rfl
    · rw [if_neg (by omega)]
      exact ⟨[], rfl, by simp [ints], List.Pairwise.nil⟩
    · rw [if_pos (by omega)]
      exact ⟨[(a : Int)], rfl, by simp [ints], by simp⟩
  · rw [if_neg (by omega)]
    obtain ⟨h2, e1⟩ : ∃ h2 : Nat, wrap64 (Int.tdiv (wrap64 ((a : Int) + ((a + n : Nat) : Int))) 2) = ((a + h2 : Nat) : Int) ∧ 0 < h2 ∧ h2 < n := by
      refine ⟨(a + (a + n)) / 2 - a, ?_, by omega, by omega⟩
      have e2 : wrap64 ((a : Int) + ((a + n : Nat) : Int)) = ((a + (a + n) : Nat) : Int) := by unfold wrap64; omega
      rw [e2]
      have e3 : Int.tdiv ((a + (a + n) : Nat) : Int) 2 = (((a + (a + n)) / 2 : Nat) : Int) := by
        rw [Int.tdiv_eq_ediv_of_nonneg (by omega)]
        omega
      rw [e3]
      unfold wrap64
      omega
    obtain ⟨e1, hp, hq⟩ := e1
    rw [e1]
    obtain ⟨r, hr, rp, rs⟩ := ih h2 hq a (by omega) k (by omega)
    obtain ⟨s, hs, sp, ss⟩ := ih (n - h2) (by omega) (a + h2) (by omega) k (by omega)
    rw [show a + h2 + (n - h2) = a + n by omega] at hs
    rw [hr]
    simp only [Option.bind_some]
    rw [hs]
    simp only [Option.bind_some]
    have ir : Idx L r := fun x hx => by
      have := rp.mem_iff.1 hx
      simp [ints] at this
      obtain ⟨y, hy, rfl⟩ := this
      omega
    have is : Idx L s := fun x hx => by
      have := sp.mem_iff.1 hx
      simp [ints] at this
      obtain ⟨y, hy, rfl⟩ := this
      omega
    have lr : r.length = h2 := by rw [rp.length_eq]; simp [ints]
    have ls : s.length = n - h2 := by rw [sp.length_eq]; simp [ints]
    have hm := order_merge hL r s ir is (by omega) k 0 0 [] (by omega) (by omega) (by omega) rfl
    refine ⟨_, hm, ?_, ?_⟩
    · simp only [List.drop_zero, List.nil_append]
      refine (List.merge_perm_append (leI L)).trans ?_
      have := rp.append sp
      rw [ints_append, show h2 + (n - h2) = n by omega] at this
      exact this
    · simp only [List.drop_zero, List.nil_append]
      exact merge_sorted hL r s ir is rs ss
end Go.Proofs.Ytbeldjhpbomonaa.Si
