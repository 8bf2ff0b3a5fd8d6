/- The accumulator of a list of values: how many, the sum, the least, the greatest; no condition. A map with two whole numbers as its key and an accumulator at each, as a plain list: look-ups, stores, ranges; no condition but that of a key. The steps of a walk at a map that is told as a plain list: a store, a range, the range's next; conditions: as each says. The entries by panes in plain words: whatever order the panes come in, the windows' accumulators are those of all records; no program in sight; no condition. The windows of a time, the panes of a time: what stands in which, in plain whole numbers; condition: sizes that are positive. -/
import Derived.RowKit
import Derived.Maps.Range
import Derived.Maps.RangeWalk
import Derived.Maps.OwnOps
import Derived.DeepKeys4
namespace Go.Proofs.YtepgpbbeeiebkaaAcc
open Go.RowKit
/-- The accumulator of a list of values: how many, the sum, the least, the greatest. -/
def cnt (l : List Int) : Int := (l.length : Int)
def sm : List Int → Int
  | [] => 0
  | [v] => v
  | l => wrap64 l.sum
def lo : List Int → Int
  | [] => 0
  | v :: l => l.foldl min v
def hi : List Int → Int
  | [] => 0
  | v :: l => l.foldl max v
theorem wrap_eq {a b : Int} (h : (a - b) % 18446744073709551616 = 0) : wrap64 a = wrap64 b := by unfold wrap64; omega
theorem wrap_self (a : Int) : (wrap64 a - a) % 18446744073709551616 = 0 := by unfold wrap64; omega
theorem sm_mod (l : List Int) : (sm l - l.sum) % 18446744073709551616 = 0 := by
  match l with
  | [] => simp [sm]
  | [v] => simp [sm]
  | a :: b :: l => exact wrap_self _
theorem sm_two {l : List Int} (h : 2 ≤ l.length) : sm l = wrap64 l.sum := by
  match l with
  | [] => simp at h
  | [v] => simp at h
  | a :: b :: l => rfl
theorem sm_append {a b : List Int} (ha : a ≠ []) (hb : b ≠ []) : sm (a ++ b) = wrap64 (sm a + sm b) := by
  have h1 := List.length_pos_iff.2 ha
  have h2 := List.length_pos_iff.2 hb
  rw [sm_two (by rw [List.length_append]; omega), List.sum_append]
  have := sm_mod a
  have := sm_mod b
  exact wrap_eq (by omega)
theorem foldl_min (l : List Int) (a b : Int) : l.foldl min (min a b) = min a (l.foldl min b) := by
  induction l generalizing a b with
  | nil => rfl
  | cons x l ih => rw [List.foldl_cons, List.foldl_cons, Int.min_assoc, ih]
theorem foldl_max (l : List Int) (a b : Int) : l.foldl max (max a b) = max a (l.foldl max b) := by
  induction l generalizing a b with
  | nil => rfl
  | cons x l ih => rw [List.foldl_cons, List.foldl_cons, Int.max_assoc, ih]
theorem lo_append {a b : List Int} (ha : a ≠ []) (hb : b ≠ []) : lo (a ++ b) = min (lo a) (lo b) := by
  obtain ⟨x, a, rfl⟩ := List.exists_cons_of_ne_nil ha
  obtain ⟨y, b, rfl⟩ := List.exists_cons_of_ne_nil hb
  simp only [lo, List.cons_append, List.foldl_append, List.foldl_cons]
  rw [foldl_min]
theorem hi_append {a b : List Int} (ha : a ≠ []) (hb : b ≠ []) : hi (a ++ b) = max (hi a) (hi b) := by
  obtain ⟨x, a, rfl⟩ := List.exists_cons_of_ne_nil ha
  obtain ⟨y, b, rfl⟩ := List.exists_cons_of_ne_nil hb
  simp only [hi, List.cons_append, List.foldl_append, List.foldl_cons]
  rw [foldl_max]
theorem lo_le_hi (l : List Int) : lo l ≤ hi l := by
  cases l with
  | nil => simp [lo, hi]
  | cons x l =>
    simp only [lo, hi]
    have : ∀ (l : List Int) (a b : Int), a ≤ b → l.foldl min a ≤ l.foldl max b := by
      intro l
      induction l with
      | nil => intro a b h; exact h
      | cons x l ih => intro a b h; exact ih _ _ (by omega)
    exact this l x x (Int.le_refl _)
theorem sm_perm {a b : List Int} (h : a.Perm b) : sm a = sm b := by
  have hl := h.length_eq
  have hs : a.sum = b.sum := by
    induction h with
    | nil => rfl
    | cons x _ ih => simp only [List.sum_cons]; rw [ih (by simpa using hl)]
    | swap x y l => simp only [List.sum_cons]; omega
    | trans h1 h2 ih1 ih2 => exact (ih1 h1.length_eq).trans (ih2 h2.length_eq)
  rcases Nat.lt_or_ge a.length 2 with h2 | h2
  · match a, b, h with
    | [], b, h => rw [List.nil_perm.1 h]
    | [v], b, h => rw [List.singleton_perm.1 h]
    | _ :: _ :: _, _, _ => exact absurd h2 (by simp)
  · rw [sm_two h2, sm_two (by omega), hs]
theorem lo_perm {a b : List Int} (h : a.Perm b) : lo a = lo b := by
  induction h with
  | nil => rfl
  | @cons x l1 l2 h ih =>
    rcases Decidable.em (l1 = []) with rfl | hn
    · rw [List.nil_perm.1 h]
    · have hn2 : l2 ≠ [] := fun e => hn (by rw [e] at h; exact List.perm_nil.1 h)
      have e1 := lo_append (a := [x]) (b := l1) (by simp) hn
      have e2 := lo_append (a := [x]) (b := l2) (by simp) hn2
      rw [List.singleton_append] at e1 e2
      rw [e1, e2, ih]
  | swap x y l => simp only [lo, List.foldl_cons]; rw [Int.min_comm]
  | trans _ _ ih1 ih2 => exact ih1.trans ih2
theorem hi_perm {a b : List Int} (h : a.Perm b) : hi a = hi b := by
  induction h with
  | nil => rfl
  | @cons x l1 l2 h ih =>
    rcases Decidable.em (l1 = []) with rfl | hn
    · rw [List.nil_perm.1 h]
    · have hn2 : l2 ≠ [] := fun e => hn (by rw [e] at h; exact List.perm_nil.1 h)
      have e1 := hi_append (a := [x]) (b := l1) (by simp) hn
      have e2 := hi_append (a := [x]) (b := l2) (by simp) hn2
      rw [List.singleton_append] at e1 e2
      rw [e1, e2, ih]
  | swap x y l => simp only [hi, List.foldl_cons]; rw [Int.max_comm]
  | trans _ _ ih1 ih2 => exact ih1.trans ih2
theorem cnt_perm {a b : List Int} (h : a.Perm b) : cnt a = cnt b := by unfold cnt; rw [h.length_eq]
theorem cnt_append (a b : List Int) : cnt (a ++ b) = cnt a + cnt b := by unfold cnt; rw [List.length_append]; omega
theorem cnt_zero {l : List Int} : cnt l = 0 ↔ l = [] := by unfold cnt; rw [← List.length_eq_zero_iff]; omega
theorem cnt_one {l : List Int} (h : cnt l = 1) : ∃ v, l = [v] := List.length_eq_one_iff.1 (by unfold cnt at h; omega)
end Go.Proofs.YtepgpbbeeiebkaaAcc
namespace Go.Proofs.YtepgpbbeeiebkaaMp
open Go Go.Maps Go.WideShapes Go.RowKit
set_option linter.unusedVariables false

abbrev K2 := Int × Int
abbrev A4 := Int × Int × Int × Int
def keyV (κ : K2) : Value := .agg #[.int .i64 κ.1, .int .i64 κ.2]
def accV (a : A4) : Value := .agg #[.int .i64 a.1, .int .i64 a.2.1, .int .i64 a.2.2.1, .int .i64 a.2.2.2]
def accD (a : A4) : DataW Unit := .agg [.lit (.int .i64 a.1), .lit (.int .i64 a.2.1), .lit (.int .i64 a.2.2.1), .lit (.int .i64 a.2.2.2)]
theorem accV_inj {a b : A4} (h : accV a = accV b) : a = b := by
  obtain ⟨a1, a2, a3, a4⟩ := a
  obtain ⟨b1, b2, b3, b4⟩ := b
  simp [accV] at h
  obtain ⟨h1, h2, h3, h4⟩ := h
  subst h1; subst h2; subst h3; subst h4
  rfl
open Classical in
noncomputable def accR (v : Value) : Option (DataW Unit × List MemPlace) := if h : ∃ a, v = accV a then some (accD h.choose, []) else none
theorem accR_mk (a : A4) : accR (accV a) = some (accD a, []) := by
  have h : ∃ b, accV a = accV b := ⟨a, rfl⟩
  unfold accR
  rw [dif_pos h, ← accV_inj h.choose_spec]
theorem accR_inv {v : Value} {y : DataW Unit × List MemPlace} (h : accR v = some y) : ∃ a, v = accV a ∧ y = (accD a, []) := by
  unfold accR at h
  split at h
  · rename_i hx
    cases h
    exact ⟨_, hx.choose_spec, rfl⟩
  · cases h
theorem accD_inj {a b : A4} (h : accD a = accD b) : a = b := by
  obtain ⟨a1, a2, a3, a4⟩ := a
  obtain ⟨b1, b2, b3, b4⟩ := b
  simp [accD] at h
  obtain ⟨h1, h2, h3, h4⟩ := h
  subst h1; subst h2; subst h3; subst h4
  rfl

abbrev M2 := List (K2 × A4)
def lookM : M2 → K2 → Option A4
  | [], _ => none
  | (k, a) :: m, κ => if k = κ then some a else lookM m κ
def putM : M2 → K2 → A4 → M2
  | [], κ, a => [(κ, a)]
  | (k, b) :: m, κ, a => if k = κ then (κ, a) :: m else (k, b) :: putM m κ a
theorem look_put_same (m : M2) (κ : K2) (a : A4) : lookM (putM m κ a) κ = some a := by
  induction m with
  | nil => simp [putM, lookM]
  | cons p m ih =>
    obtain ⟨k, b⟩ := p
    simp only [putM]
    split
    · simp [lookM]
    · rename_i h
      simp only [lookM, if_neg h, ih]
theorem look_put_other (m : M2) {κ κ' : K2} (a : A4) (h : κ' ≠ κ) : lookM (putM m κ a) κ' = lookM m κ' := by
  induction m with
  | nil => simp [putM, lookM, Ne.symm h]
  | cons p m ih =>
    obtain ⟨k, b⟩ := p
    simp only [putM]
    split
    · rename_i e
      subst e
      simp only [lookM, if_neg (Ne.symm h)]
    · simp only [lookM, ih]
theorem put_length (m : M2) (κ : K2) (a : A4) : (putM m κ a).length ≤ m.length + 1 := by
  induction m with
  | nil => simp [putM]
  | cons p m ih =>
    obtain ⟨k, b⟩ := p
    simp only [putM]
    split
    · simp
    · simp; exact ih
def keysM (m : M2) : List K2 := m.map (·.1)
theorem look_mem {m : M2} {κ : K2} {a : A4} (h : lookM m κ = some a) : (κ, a) ∈ m := by
  induction m with
  | nil => cases h
  | cons p m ih =>
    obtain ⟨k, b⟩ := p
    simp only [lookM] at h
    split at h
    · rename_i e
      cases h
      subst e
      simp
    · exact List.mem_cons_of_mem _ (ih h)
theorem look_of_mem {m : M2} (hn : (keysM m).Nodup) {κ : K2} {a : A4} (h : (κ, a) ∈ m) : lookM m κ = some a := by
  induction m with
  | nil => cases h
  | cons p m ih =>
    obtain ⟨k, b⟩ := p
    simp only [keysM, List.map_cons, List.nodup_cons] at hn
    rcases List.mem_cons.1 h with e | h'
    · cases e
      simp [lookM]
    · have : k ≠ κ := fun e => hn.1 (e ▸ List.mem_map.2 ⟨(κ, a), h', rfl⟩)
      simp only [lookM, if_neg this]
      exact ih hn.2 h'
theorem keys_put (m : M2) (κ : K2) (a : A4) : ∀ x, x ∈ keysM (putM m κ a) ↔ x = κ ∨ x ∈ keysM m := by
  intro x
  induction m with
  | nil => simp [putM, keysM]
  | cons p m ih =>
    obtain ⟨k, b⟩ := p
    simp only [putM]
    split
    · rename_i e
      subst e
      simp [keysM]
    · simp only [keysM, List.map_cons, List.mem_cons] at ih ⊢
      rw [ih]
      constructor
      · rintro (h | h | h) <;> simp [h]
      · rintro (h | h | h) <;> simp [h]
theorem nodup_put (m : M2) (κ : K2) (a : A4) (h : (keysM m).Nodup) : (keysM (putM m κ a)).Nodup := by
  induction m with
  | nil => simp [putM, keysM]
  | cons p m ih =>
    obtain ⟨k, b⟩ := p
    simp only [keysM, List.map_cons, List.nodup_cons] at h
    simp only [putM]
    split
    · rename_i e
      subst e
      simpa [keysM] using h
    · rename_i e
      simp only [keysM, List.map_cons, List.nodup_cons]
      refine ⟨fun hx => ?_, ih h.2⟩
      rcases (keys_put m κ a k).1 hx with e' | e'
      · exact e e'
      · exact h.1 e'

section
variable {P : Program} {kt : TypeId}
def okK (P : Program) (kt : TypeId) (κ : K2) : Prop := ∃ l, keyOf P kt (keyV κ) = some l
def litOf (P : Program) (kt : TypeId) (κ : K2) : Lit := (keyOf P kt (keyV κ)).getD (.bool false)
theorem litOf_eq {κ : K2} (h : okK P kt κ) : keyOf P kt (keyV κ) = some (litOf P kt κ) := by
  obtain ⟨l, hl⟩ := h
  unfold litOf
  rw [hl]
  rfl
theorem litOf_inj (K : Keyed P kt) {κ κ' : K2} (h : okK P kt κ) (h' : okK P kt κ') (e : litOf P kt κ = litOf P kt κ') : κ = κ' := by
  have h1 := litOf_eq h
  have h2 := litOf_eq h'
  rw [← e] at h2
  have h3 := K.inj h1 h2
  obtain ⟨a, b⟩ := κ
  obtain ⟨c, d⟩ := κ'
  simp [keyV] at h3
  rw [h3.1, h3.2]

/-- The datum D holds just what the list m says. -/
structure Rep (P : Program) (kt : TypeId) (D : DataW Unit) (m : M2) : Prop where
  isMap : IsMap D
  at_ : ∀ κ, okK P kt κ → ∀ z, D.atKey (litOf P kt κ) z = match lookM m κ with | some a => accD a | none => z
  keys_ : ∀ l, has D l = true → ∃ κ a, okK P kt κ ∧ l = litOf P kt κ ∧ lookM m κ = some a
theorem rep_nil : Rep P kt (.map []) [] where
  isMap := isMap_empty
  at_ κ _ z := atKey_of_not_has (by simp [has]) z
  keys_ l h := by simp [has] at h
theorem rep_put (K : Keyed P kt) {D : DataW Unit} {m : M2} (h : Rep P kt D m) {κ : K2} (hk : okK P kt κ) (a : A4) : Rep P kt (D.put (litOf P kt κ) (accD a)) (putM m κ a) where
  isMap := h.isMap.put _ _
  at_ κ' hk' z := by
    by_cases e : κ' = κ
    · subst e
      rw [atKey_put_same h.isMap (K.key (litOf_eq hk)), look_put_same]
    · rw [atKey_put_other (fun e' => e (litOf_inj K hk' hk e')), look_put_other m a e]
      exact h.at_ κ' hk' z
  keys_ l hl := by
    by_cases e : l = litOf P kt κ
    · exact ⟨κ, a, hk, e, look_put_same m κ a⟩
    · rw [has_put_other e] at hl
      obtain ⟨κ', a', h1, h2, h3⟩ := h.keys_ l hl
      refine ⟨κ', a', h1, h2, ?_⟩
      rw [look_put_other m a (fun e' => e (by rw [h2, e']))]
      exact h3
theorem rep_has (K : Keyed P kt) {D : DataW Unit} {m : M2} (h : Rep P kt D m) {κ : K2} (hk : okK P kt κ) {a : A4} (hl : lookM m κ = some a) : has D (litOf P kt κ) = true :=
  has_true_of_atKey (y := accD a) (fun z => by rw [h.at_ κ hk z, hl])

/-- Block b is a map of at most n entries, those of m. -/
def MapIs (P : Program) (kt : TypeId) (W : World) (b n : Nat) (m : M2) : Prop := ∃ D, W.ownsMap P kt accR b n D ∧ Rep P kt D m
theorem MapIs.made (w : World) : MapIs P kt (w.alloc (.map #[] 0)) w.heap.size 0 [] := ⟨_, World.ownsMap_made w P kt accR, rep_nil⟩
theorem MapIs.kept {W W' : World} {b n : Nat} {m : M2} {row : Option Nat} (h : MapIs P kt W b n m) (hg : W.grownBy W' row) (hne : some b ≠ row) : MapIs P kt W' b n m := by
  obtain ⟨D, h1, h2⟩ := h
  exact ⟨D, h1.kept hg hne, h2⟩
theorem MapIs.lt {W : World} {b n : Nat} {m : M2} (h : MapIs P kt W b n m) : b < W.heap.size := by
  obtain ⟨D, h1, _⟩ := h
  exact h1.lt
theorem MapIs.get {t e : TypeId} {w : World} {b n : Nat} {m : M2} (h : MapIs P kt w b n m) (K : Keyed P kt) (ht : P.underlying t = some (.map kt e)) (hz : (zeroValue e).run P w = .ok (accV (0, 0, 0, 0)) w) {κ : K2} (hk : okK P kt κ) :
    (Instr.lookup t (.map (some b)) (keyV κ) false).run P w = .ok (accV ((lookM m κ).getD (0, 0, 0, 0))) w := by
  obtain ⟨D, h1, h2⟩ := h
  obtain ⟨v, ps, hrun, hv⟩ := h1.lookup K ht hz (accR_mk _) (litOf_eq hk)
  obtain ⟨a, rfl, hy⟩ := accR_inv hv
  simp only [Prod.mk.injEq] at hy
  rw [h2.at_ κ hk] at hy
  rw [hrun]
  cases hl : lookM m κ with
  | none =>
    rw [hl] at hy
    rw [← accD_inj hy.1]
    rfl
  | some c =>
    rw [hl] at hy
    rw [← accD_inj hy.1]
    rfl
theorem MapIs.update {t e : TypeId} {w : World} {b n : Nat} {m : M2} (h : MapIs P kt w b n m) (K : Keyed P kt) (ht : P.underlying t = some (.map kt e)) (hn : n < maxLen) {κ : K2} (hk : okK P kt κ) (a : A4) :
    ∃ w', (Instr.mapUpdate t (.map (some b)) (keyV κ) (accV a)).run P w = .ok () w' ∧ MapIs P kt w' b (n + 1) (putM m κ a) ∧ w.grownBy w' (some b) := by
  obtain ⟨D, h1, h2⟩ := h
  obtain ⟨w', r1, r2, r3⟩ := h1.update K ht hn (litOf_eq hk) (accR_mk a)
  exact ⟨w', r1, ⟨_, r2, rep_put K h2 hk a⟩, r3⟩

/-- A range over the map m in block b, by the iterator in block r: seen has come, in this order. -/
def Ranging (P : Program) (kt : TypeId) (W : World) (b r n : Nat) (m seen : M2) (cnt : Nat) : Prop :=
  ∃ D left, W.ranges P kt accR b r n D left cnt ∧ Rep P kt D m ∧ (keysM seen).Nodup ∧ (∀ p ∈ seen, lookM m p.1 = some p.2) ∧ ∀ κ, okK P kt κ → (left (litOf P kt κ) = true ↔ (∃ a, lookM m κ = some a) ∧ κ ∉ keysM seen)
theorem MapIs.range {t e : TypeId} {w : World} {b n : Nat} {m : M2} (h : MapIs P kt w b n m) (K : Keyed P kt) (ht : P.underlying t = some (.map kt e)) :
    ∃ w' cnt, (Instr.range t (.map (some b))).run P w = .ok (.pointer (some ⟨w.heap.size, 0, none⟩)) w' ∧ Ranging P kt w' b w.heap.size n m [] cnt ∧ w.grownBy w' none ∧ w'.heap.size = w.heap.size + 1 ∧ cnt ≤ n := by
  obtain ⟨D, h1, h2⟩ := h
  obtain ⟨w', r1, r2, r3, r4⟩ := h1.range K ht
  refine ⟨w', _, r1, ⟨D, _, r2, h2, List.nodup_nil, fun p hp => absurd hp (by simp), fun κ hk => ⟨fun hl => ⟨?_, by simp [keysM]⟩, fun hl => ?_⟩⟩, r3, r4, h1.size_le⟩
  · obtain ⟨κ', a, k1, k2, k3⟩ := h2.keys_ _ hl
    rw [litOf_inj K hk k1 k2]
    exact ⟨a, k3⟩
  · obtain ⟨⟨a, ha⟩, _⟩ := hl
    exact rep_has K h2 hk ha
theorem Ranging.kept {W W' : World} {b r n cnt : Nat} {m seen : M2} {row : Option Nat} (h : Ranging P kt W b r n m seen cnt) (hg : W.grownBy W' row) (h1 : some b ≠ row) (h2 : some r ≠ row) : Ranging P kt W' b r n m seen cnt := by
  obtain ⟨D, left, a1, a2⟩ := h
  exact ⟨D, left, a1.kept hg h1 h2, a2⟩
theorem Ranging.lt {W : World} {b r n cnt : Nat} {m seen : M2} (h : Ranging P kt W b r n m seen cnt) : b < W.heap.size ∧ r < W.heap.size ∧ r ≠ b := by
  obtain ⟨D, left, a1, _⟩ := h
  exact ⟨a1.owns.lt, a1.lt, a1.ne⟩
theorem Ranging.left_eq {W : World} {b r n cnt : Nat} {m seen : M2} (h : Ranging P kt W b r n m seen cnt) : W.rangeLeft b r = cnt := by
  obtain ⟨D, left, a1, _⟩ := h
  exact a1.left_eq
theorem Ranging.next {w : World} {b r n cnt : Nat} {m seen : M2} (h : Ranging P kt w b r n m seen cnt) (K : Keyed P kt) (hm : ∀ κ a, lookM m κ = some a → okK P kt κ) (ty : TypeId) :
    ((∀ κ a, lookM m κ = some a → κ ∈ keysM seen) ∧ (Instr.next (.pointer (some ⟨r, 0, none⟩)) false ty).run P w = .ok (.tuple #[.bool false]) w) ∨
    ∃ κ a w' cnt', okK P kt κ ∧ lookM m κ = some a ∧ κ ∉ keysM seen ∧ (Instr.next (.pointer (some ⟨r, 0, none⟩)) false ty).run P w = .ok (.tuple #[.bool true, keyV κ, accV a]) w' ∧
      Ranging P kt w' b r n m (seen ++ [(κ, a)]) cnt' ∧ cnt' < cnt ∧ w.grownBy w' (some r) ∧ w'.heap.size = w.heap.size ∧ (Instr.entry (.pointer (some ⟨r, 0, none⟩))).run P w' = .ok (.tuple #[keyV κ, accV a]) w' := by
  obtain ⟨D, left, h1, h2, h3, h4, h5⟩ := h
  rcases h1.next K ty with ⟨h0, hl, hrun⟩ | ⟨key, v, kl, y, w', cnt', hkey, hlk, hv, hat, hrun, hrg, hlt, hgr, hsz, hen⟩
  · refine .inl ⟨fun κ a ha => ?_, hrun⟩
    have hk := hm κ a ha
    by_cases hs : κ ∈ keysM seen
    · exact hs
    · have := (h5 κ hk).2 ⟨⟨a, ha⟩, hs⟩
      rw [hl] at this
      cases this
  · obtain ⟨a, rfl, rfl⟩ := accR_inv hv
    have hhas : has D kl = true := has_true_of_atKey hat
    obtain ⟨κ, a', k1, rfl, k3⟩ := h2.keys_ kl hhas
    have e1 := h2.at_ κ k1 .nil
    rw [hat, k3] at e1
    obtain rfl := accD_inj e1
    obtain rfl := K.inj hkey (litOf_eq k1)
    obtain ⟨_, hns⟩ := (h5 κ k1).1 hlk
    refine .inr ⟨κ, a, w', cnt', k1, k3, hns, hrun, ⟨D, _, hrg, h2, ?_, ?_, ?_⟩, hlt, hgr, hsz, hen⟩
    · simp only [keysM, List.map_append, List.map_cons, List.map_nil]
      rw [List.nodup_append]
      refine ⟨h3, by simp, fun x hx y hy => ?_⟩
      simp only [List.mem_singleton] at hy
      subst hy
      exact fun e => hns (e ▸ hx)
    · intro p hp
      rcases List.mem_append.1 hp with hp | hp
      · exact h4 p hp
      · simp only [List.mem_singleton] at hp
        subst hp
        exact k3
    · intro κ' hk'
      simp only [Bool.and_eq_true, Bool.not_eq_true', keysM, List.map_append, List.map_cons, List.map_nil, List.mem_append, List.mem_singleton, not_or]
      rw [h5 κ' hk']
      constructor
      · rintro ⟨⟨x1, x2⟩, x3⟩
        refine ⟨x1, x2, fun e => ?_⟩
        subst e
        rw [WideAt.sameKey_self (K.key (litOf_eq hk'))] at x3
        cases x3
      · rintro ⟨x1, x2, x3⟩
        exact ⟨⟨x1, x2⟩, Maps.sameKey_ne fun e => x3 (litOf_inj K hk' k1 e)⟩
end
end Go.Proofs.YtepgpbbeeiebkaaMp
namespace Go.Proofs.YtepgpbbeeiebkaaMp
open Go Go.Maps Go.WideShapes Go.RowKit
set_option linter.unusedVariables false
section
variable {P : Program} {k e : TypeId} (w : World) {ops : Array Oper} {rest : List Oper} {o : Oper} {a : Act} {Q : Exit → Act → World → Prop}
theorem wpList_mapUpdate_is (hg : o.guard = none) (m x v : Operand) (t : TypeId) (hop : o.op = Op.mapUpdate t m x v) (K : Keyed P k) (ht : P.underlying t = some (.map k e)) (b n : Nat) (mm : M2)
    (hm : a.eval m = .map (some b)) (h : MapIs P k w b n mm) (hn : n < maxLen) (k1 k2 a1 a2 a3 a4 : Int) (hx : a.eval x = .agg #[.int .i64 k1, .int .i64 k2]) (hv : a.eval v = .agg #[.int .i64 a1, .int .i64 a2, .int .i64 a3, .int .i64 a4]) (hk : okK P k (k1, k2))
    (hK : ∀ w', MapIs P k w' b (n + 1) (putM mm (k1, k2) (a1, a2, a3, a4)) → w.grownBy w' (some b) → wpList P ops Q rest (a.put o.dst undef) w') : wpList P ops Q (o :: rest) a w := by
  refine wpList_plain hg fun K' hK' => ?_
  obtain ⟨w', hrun, r1, r2⟩ := h.update K ht hn hk (a1, a2, a3, a4)
  have hrun' : (Instr.mapUpdate t (.map (some b)) (.agg #[.int .i64 k1, .int .i64 k2]) (.agg #[.int .i64 a1, .int .i64 a2, .int .i64 a3, .int .i64 a4])).run P w = .ok () w' := hrun
  unfold Oper.wp
  simp [execOp, hop, hm, hx, hv, hrun', Result.andThen]
  exact hK' _ _ (hK w' r1 r2)
theorem wpList_range_is (hg : o.guard = none) (m : Operand) (t : TypeId) (hop : o.op = Op.range t m) (K : Keyed P k) (ht : P.underlying t = some (.map k e)) (b n : Nat) (mm : M2) (hm : a.eval m = .map (some b)) (h : MapIs P k w b n mm)
    (hK : ∀ w' cnt, Ranging P k w' b w.heap.size n mm [] cnt → w.grownBy w' none → w'.heap.size = w.heap.size + 1 → cnt ≤ n → wpList P ops Q rest (a.put o.dst (.pointer (some ⟨w.heap.size, 0, none⟩))) w') : wpList P ops Q (o :: rest) a w := by
  refine wpList_plain hg fun K' hK' => ?_
  obtain ⟨w', cnt, hrun, r1, r2, r3, r4⟩ := h.range K ht
  unfold Oper.wp
  simp [execOp, hop, hm, hrun, Result.andThen]
  exact hK' _ _ (hK w' cnt r1 r2 r3 r4)
theorem wpList_next_is (hg : o.guard = none) (it : Operand) (hop : o.op = Op.next it false) (K : Keyed P k) (b r n cnt : Nat) (mm seen : M2) (hit : a.eval it = .pointer (some ⟨r, 0, none⟩)) (h : Ranging P k w b r n mm seen cnt) (hm : ∀ κ α, lookM mm κ = some α → okK P k κ)
    (hDone : (∀ κ α, lookM mm κ = some α → κ ∈ keysM seen) → wpList P ops Q rest (a.put o.dst (.tuple #[.bool false])) w)
    (hMore : ∀ (k1 k2 a1 a2 a3 a4 : Int) (w' : World) (cnt' : Nat), okK P k (k1, k2) → lookM mm (k1, k2) = some (a1, a2, a3, a4) → (k1, k2) ∉ keysM seen → Ranging P k w' b r n mm (seen ++ [((k1, k2), (a1, a2, a3, a4))]) cnt' → cnt' < cnt → w.grownBy w' (some r) → w'.heap.size = w.heap.size →
      (Instr.entry (.pointer (some ⟨r, 0, none⟩))).run P w' = .ok (.tuple #[.agg #[.int .i64 k1, .int .i64 k2], .agg #[.int .i64 a1, .int .i64 a2, .int .i64 a3, .int .i64 a4]]) w' → wpList P ops Q rest (a.put o.dst (.tuple #[.bool true, .agg #[.int .i64 k1, .int .i64 k2], .agg #[.int .i64 a1, .int .i64 a2, .int .i64 a3, .int .i64 a4]])) w') :
    wpList P ops Q (o :: rest) a w := by
  refine wpList_plain hg fun K' hK' => ?_
  unfold Oper.wp
  rcases h.next K hm o.type with ⟨h0, hrun⟩ | ⟨κ, α, w', cnt', h1, h2, h3, hrun, h5, h6, h7, h8, h9⟩
  · simp [execOp, hop, hit, hrun, Result.andThen]
    exact hK' _ _ (hDone h0)
  · obtain ⟨k1, k2⟩ := κ
    obtain ⟨a1, a2, a3, a4⟩ := α
    simp [execOp, hop, hit, hrun, Result.andThen]
    exact hK' _ _ (hMore k1 k2 a1 a2 a3 a4 w' cnt' h1 h2 h3 h5 h6 h7 h8 h9)
end
end Go.Proofs.YtepgpbbeeiebkaaMp
namespace Go.Proofs.YtepgpbbeeiebkaaPv
open Go.RowKit Go.Proofs.YtepgpbbeeiebkaaAcc Go.Proofs.YtepgpbbeeiebkaaMp
set_option linter.unusedVariables false

@[elab_as_elim] theorem snocRec {α : Type} {p : List α → Prop} (nil : p []) (snoc : ∀ l x, p l → p (l ++ [x])) (l : List α) : p l := by
  have h : ∀ r : List α, p r.reverse := by
    intro r
    induction r with
    | nil => exact nil
    | cons x r ih => rw [List.reverse_cons]; exact snoc _ _ ih
  have := h l.reverse
  rwa [List.reverse_reverse] at this
/-- The accumulator of some values. -/
def acc (xs : List Int) : A4 := (cnt xs, sm xs, lo xs, hi xs)
def joinA (a b : A4) : A4 := if a.1 = 0 then b else if b.1 = 0 then a else (a.1 + b.1, wrap64 (a.2.1 + b.2.1), min a.2.2.1 b.2.2.1, max a.2.2.2 b.2.2.2)
theorem acc_nil : acc [] = (0, 0, 0, 0) := rfl
theorem joinA_acc (xs ys : List Int) : joinA (acc xs) (acc ys) = acc (xs ++ ys) := by
  unfold joinA
  split
  · rename_i h
    have : xs = [] := cnt_zero.1 h
    subst this
    rfl
  · rename_i h
    have hx : xs ≠ [] := fun e => h (cnt_zero.2 e)
    split
    · rename_i h2
      have : ys = [] := cnt_zero.1 h2
      subst this
      rw [List.append_nil]
    · rename_i h2
      have hy : ys ≠ [] := fun e => h2 (cnt_zero.2 e)
      show _ = (cnt (xs ++ ys), sm (xs ++ ys), lo (xs ++ ys), hi (xs ++ ys))
      rw [cnt_append, sm_append hx hy, lo_append hx hy, hi_append hx hy]
      rfl
theorem acc_perm {xs ys : List Int} (h : xs.Perm ys) : acc xs = acc ys := by
  unfold acc
  rw [cnt_perm h, sm_perm h, lo_perm h, hi_perm h]

/-- What stands at a key; the empty accumulator where nothing does. -/
def getA (m : M2) (κ : K2) : A4 := (lookM m κ).getD (0, 0, 0, 0)
/-- The map m tells of each key the values f of it. -/
def Tells (m : M2) (f : K2 → List Int) : Prop := (keysM m).Nodup ∧ ∀ κ, lookM m κ = if f κ = [] then none else some (acc (f κ))
theorem Tells.get {m : M2} {f : K2 → List Int} (h : Tells m f) (κ : K2) : getA m κ = acc (f κ) := by
  unfold getA
  rw [h.2 κ]
  split
  · rename_i e
    rw [e]
    rfl
  · rfl
theorem Tells.put {m : M2} {f g : K2 → List Int} (h : Tells m f) {κ : K2} {ys : List Int} (hy : ys ≠ []) (h1 : g κ = f κ ++ ys) (h2 : ∀ κ', κ' ≠ κ → g κ' = f κ') : Tells (putM m κ (joinA (getA m κ) (acc ys))) g := by
  refine ⟨nodup_put _ _ _ h.1, fun κ' => ?_⟩
  by_cases e : κ' = κ
  · subst e
    rw [look_put_same, h.get, joinA_acc, h1, if_neg (by simp [hy])]
  · rw [look_put_other m _ e, h.2, h2 κ' e]
theorem Tells.nil : Tells [] (fun _ => []) := ⟨by simp [keysM], fun κ => by simp [lookM]⟩
theorem Tells.mem {m : M2} {f : K2 → List Int} (h : Tells m f) {κ : K2} {a : A4} : (κ, a) ∈ m ↔ f κ ≠ [] ∧ a = acc (f κ) := by
  constructor
  · intro hm
    have := look_of_mem h.1 hm
    rw [h.2] at this
    split at this
    · cases this
    · rename_i hn
      cases this
      exact ⟨hn, rfl⟩
  · rintro ⟨hn, rfl⟩
    exact look_mem (by rw [h.2, if_neg hn])

abbrev Rec := Int × Int × Int
/-- The panes' map behind some records: st: where a time's pane begins. -/
def pansF (st : Int → Int) (l : List Rec) : M2 := l.foldl (fun m r => putM m (r.1, st r.2.1) (joinA (getA m (r.1, st r.2.1)) (acc [r.2.2]))) []
def vP (st : Int → Int) (l : List Rec) (κ : K2) : List Int := (l.filter fun r => decide ((r.1, st r.2.1) = κ)).map fun r => r.2.2
theorem pansF_snoc (st : Int → Int) (l : List Rec) (r : Rec) : pansF st (l ++ [r]) = putM (pansF st l) (r.1, st r.2.1) (joinA (getA (pansF st l) (r.1, st r.2.1)) (acc [r.2.2])) := by
  simp [pansF, List.foldl_append]
theorem pansF_tells (st : Int → Int) (l : List Rec) : Tells (pansF st l) (vP st l) := by
  suffices h : ∀ l', l' <+: l → Tells (pansF st l') (vP st l') from h l (List.prefix_refl l)
  intro l'
  induction l' using snocRec with
  | nil => exact fun _ => Tells.nil
  | snoc l' r ih =>
    intro hp
    have := ih ((List.prefix_append _ _).trans hp)
    rw [pansF_snoc]
    refine this.put (by simp) ?_ ?_
    · simp [vP, List.filter_append]
    · intro κ' hne
      simp [vP, List.filter_append, Ne.symm hne]

/-- One pane's round over its windows. -/
def winStep (m : M2) (k : Int) (a : A4) (ss : List Int) : M2 := ss.foldl (fun m s => putM m (k, s) (joinA (getA m (k, s)) a)) m
def winsF (ws : Int → List Int) (seen : M2) : M2 := seen.foldl (fun m p => winStep m p.1.1 p.2 (ws p.1.2)) []
theorem winStep_snoc (m : M2) (k : Int) (a : A4) (ss : List Int) (s : Int) : winStep m k a (ss ++ [s]) = putM (winStep m k a ss) (k, s) (joinA (getA (winStep m k a ss) (k, s)) a) := by
  simp [winStep, List.foldl_append]
theorem winsF_snoc (ws : Int → List Int) (seen : M2) (p : K2 × A4) : winsF ws (seen ++ [p]) = winStep (winsF ws seen) p.1.1 p.2 (ws p.1.2) := by
  simp [winsF, List.foldl_append]
/-- The values of a window out of some panes, each of which has the values g of it. -/
def vW (ws : Int → List Int) (g : K2 → List Int) (ks : List K2) (κ : K2) : List Int := (ks.filter fun p => decide (p.1 = κ.1 ∧ κ.2 ∈ ws p.2)).flatMap g
theorem winStep_tells {m : M2} {f : K2 → List Int} (h : Tells m f) (k : Int) {ys : List Int} (hy : ys ≠ []) (ss : List Int) (hn : ss.Nodup) : Tells (winStep m k (acc ys) ss) (fun κ => if κ.1 = k ∧ κ.2 ∈ ss then f κ ++ ys else f κ) := by
  suffices hh : ∀ s', s' <+: ss → Tells (winStep m k (acc ys) s') (fun κ => if κ.1 = k ∧ κ.2 ∈ s' then f κ ++ ys else f κ) from hh ss (List.prefix_refl ss)
  intro s'
  induction s' using snocRec with
  | nil => intro _; simpa [winStep] using h
  | snoc s' s ih =>
    intro hp
    have h1 := ih ((List.prefix_append _ _).trans hp)
    have hns : s ∉ s' := by
      have := hp.sublist.nodup hn
      rw [List.nodup_append] at this
      exact fun hs => this.2.2 s hs s (by simp) rfl
    rw [winStep_snoc]
    refine h1.put hy ?_ ?_
    · simp [hns]
    · intro κ' hne
      have : ¬ (κ'.1 = k ∧ κ'.2 = s) := fun e => hne (by obtain ⟨a, b⟩ := κ'; simp at e; simp [e])
      by_cases c : κ'.1 = k ∧ κ'.2 ∈ s'
      · rw [if_pos c, if_pos ⟨c.1, by simp [c.2]⟩]
      · rw [if_neg c, if_neg]
        rintro ⟨c1, c2⟩
        simp only [List.mem_append, List.mem_singleton] at c2
        rcases c2 with c2 | c2
        · exact c ⟨c1, c2⟩
        · exact this ⟨c1, c2⟩
theorem winsF_tells (ws : Int → List Int) (hws : ∀ t, (ws t).Nodup) {pm : M2} {g : K2 → List Int} (hp : Tells pm g) (seen : M2) (hs : ∀ p ∈ seen, lookM pm p.1 = some p.2) : Tells (winsF ws seen) (vW ws g (keysM seen)) := by
  induction seen using snocRec with
  | nil => exact Tells.nil
  | snoc seen p ih =>
    have h1 := ih (fun q hq => hs q (by simp [hq]))
    obtain ⟨κ, a⟩ := p
    have hk := hs (κ, a) (by simp)
    obtain ⟨hne, ha⟩ := (hp.mem).1 (look_mem hk)
    dsimp only at hne ha
    subst ha
    rw [winsF_snoc]
    have h2 := winStep_tells h1 κ.1 hne (ws κ.2) (hws κ.2)
    refine ⟨h2.1, fun κ' => ?_⟩
    rw [h2.2 κ']
    have e : vW ws g (keysM (seen ++ [(κ, acc (g κ))])) κ' = if κ'.1 = κ.1 ∧ κ'.2 ∈ ws κ.2 then vW ws g (keysM seen) κ' ++ g κ else vW ws g (keysM seen) κ' := by
      simp only [vW, keysM, List.map_append, List.map_cons, List.map_nil, List.filter_append, List.flatMap_append]
      by_cases c : κ'.1 = κ.1 ∧ κ'.2 ∈ ws κ.2
      · rw [if_pos c]
        simp [c.1, c.2]
      · rw [if_neg c]
        have : ¬ (κ.1 = κ'.1 ∧ κ'.2 ∈ ws κ.2) := fun e => c ⟨e.1.symm, e.2⟩
        simp [this]
    rw [e]

/-- The values of a key's window, out of all records. -/
def vals (wt : Int → List Int) (l : List Rec) (κ : K2) : List Int := (l.filter fun r => decide (r.1 = κ.1 ∧ κ.2 ∈ wt r.2.1)).map fun r => r.2.2
theorem perm_of_keys (ks : List K2) (hn : ks.Nodup) (st : Int → Int) (l : List Rec) (hk : ∀ r ∈ l, (r.1, st r.2.1) ∈ ks) : (ks.flatMap (vP st l)).Perm (l.map fun r => r.2.2) := by
  induction l with
  | nil => simp [vP]
  | cons r l ih =>
    have h1 := ih (fun x hx => hk x (by simp [hx]))
    have h2 : (ks.flatMap (vP st (r :: l))).Perm (r.2.2 :: ks.flatMap (vP st l)) := by
      have hm := hk r (by simp)
      obtain ⟨a, b, rfl⟩ := List.append_of_mem hm
      have hna : (r.1, st r.2.1) ∉ a := by
        rw [List.nodup_append] at hn
        exact fun hx => hn.2.2 _ hx _ (by simp) rfl
      have hnb : (r.1, st r.2.1) ∉ b := by
        rw [List.nodup_append, List.nodup_cons] at hn
        exact hn.2.1.1
      have other : ∀ c : List K2, (r.1, st r.2.1) ∉ c → c.flatMap (vP st (r :: l)) = c.flatMap (vP st l) := by
        intro c hc
        rw [List.flatMap_def, List.flatMap_def]
        congr 1
        refine List.map_congr_left fun κ hκ => ?_
        have : ¬ (r.1, st r.2.1) = κ := fun e => hc (e ▸ hκ)
        simp [vP, this]
      simp only [List.flatMap_append, List.flatMap_cons]
      rw [other a hna, other b hnb]
      have e : vP st (r :: l) (r.1, st r.2.1) = r.2.2 :: vP st l (r.1, st r.2.1) := by simp [vP]
      rw [e]
      exact List.perm_middle
    exact h2.trans (h1.cons _)
theorem vW_perm (st : Int → Int) (ws wt : Int → List Int) (l : List Rec) (hst : ∀ r ∈ l, ∀ s, s ∈ ws (st r.2.1) ↔ s ∈ wt r.2.1) (ks : List K2) (hn : ks.Nodup) (hk : ∀ r ∈ l, (r.1, st r.2.1) ∈ ks) (κ : K2) : (vW ws (vP st l) ks κ).Perm (vals wt l κ) := by
  unfold vW
  have e1 : (ks.filter fun p => decide (p.1 = κ.1 ∧ κ.2 ∈ ws p.2)).flatMap (vP st l) = (ks.filter fun p => decide (p.1 = κ.1 ∧ κ.2 ∈ ws p.2)).flatMap (vP st (l.filter fun r => decide (r.1 = κ.1 ∧ κ.2 ∈ wt r.2.1))) := by
    rw [List.flatMap_def, List.flatMap_def]
    congr 1
    refine List.map_congr_left fun p hp => ?_
    have hp2 := (List.mem_filter.1 hp).2
    simp only [decide_eq_true_eq] at hp2
    unfold vP
    rw [List.filter_filter]
    congr 1
    refine List.filter_congr fun r hr => ?_
    by_cases c : (r.1, st r.2.1) = p
    · have : r.1 = κ.1 ∧ κ.2 ∈ wt r.2.1 := by
        rw [← c] at hp2
        exact ⟨hp2.1, (hst r hr κ.2).1 hp2.2⟩
      simp [this]
    · simp [c]
  rw [e1]
  refine perm_of_keys _ (hn.filter _) st _ fun r hr => ?_
  have hr2 := List.mem_filter.1 hr
  simp only [decide_eq_true_eq] at hr2
  exact List.mem_filter.2 ⟨hk r hr2.1, by simp only [decide_eq_true_eq]; exact ⟨hr2.2.1, (hst r hr2.1 κ.2).2 hr2.2.2⟩⟩
/-- Whatever order the panes came in, the windows' map tells of each key the values of its window. -/
theorem wins_all (st : Int → Int) (ws wt : Int → List Int) (hws : ∀ t, (ws t).Nodup) (l : List Rec) (hst : ∀ r ∈ l, ∀ s, s ∈ ws (st r.2.1) ↔ s ∈ wt r.2.1) (seen : M2) (hn : (keysM seen).Nodup) (h1 : ∀ p ∈ seen, lookM (pansF st l) p.1 = some p.2) (h2 : ∀ κ a, lookM (pansF st l) κ = some a → κ ∈ keysM seen) : Tells (winsF ws seen) (vals wt l) := by
  have ht := winsF_tells ws hws (pansF_tells st l) seen h1
  refine ⟨ht.1, fun κ => ?_⟩
  have hp := vW_perm st ws wt l hst (keysM seen) hn (fun r hr => ?_) κ
  · rw [ht.2 κ, acc_perm hp]
    by_cases c : vals wt l κ = []
    · rw [if_pos c, if_pos (by rw [c] at hp; exact List.perm_nil.1 hp)]
    · rw [if_neg c, if_neg (fun e => c (by rw [e] at hp; exact List.nil_perm.1 hp))]
  · have hf : vP st l (r.1, st r.2.1) ≠ [] := by
      unfold vP
      intro e
      have : r ∈ l.filter fun x => decide ((x.1, st x.2.1) = (r.1, st r.2.1)) := List.mem_filter.2 ⟨hr, by simp⟩
      rw [List.map_eq_nil_iff.1 e] at this
      cases this
    refine h2 _ _ (?_ : _ = some (acc (vP st l (r.1, st r.2.1))))
    rw [(pansF_tells st l).2, if_neg hf]

/-- Places in order, each once: by the start, then by the key. -/
def before (a b : K2) : Bool := decide (a.2 < b.2) || (decide (a.2 = b.2) && decide (a.1 < b.1))
def insK (x : K2) : List K2 → List K2
  | [] => [x]
  | y :: l => if x = y then y :: l else if before x y = true then x :: y :: l else y :: insK x l
theorem mem_insK (x y : K2) (l : List K2) : y ∈ insK x l ↔ y = x ∨ y ∈ l := by
  induction l with
  | nil => simp [insK]
  | cons z l ih =>
    simp only [insK]
    split
    · rename_i e
      subst e
      simp
    · split
      · simp
      · simp only [List.mem_cons, ih]
        constructor
        · rintro (h | h | h) <;> simp [h]
        · rintro (h | h | h) <;> simp [h]
theorem before_trans {a b c : K2} (h : before a b = true) (k : before b c = true) : before a c = true := by
  simp only [before, Bool.or_eq_true, Bool.and_eq_true, decide_eq_true_eq] at *
  omega
theorem before_total {a b : K2} (h : a ≠ b) (k : ¬ before a b = true) : before b a = true := by
  simp only [before, Bool.or_eq_true, Bool.and_eq_true, decide_eq_true_eq] at *
  have : ¬ (a.1 = b.1 ∧ a.2 = b.2) := fun e => h (Prod.ext e.1 e.2)
  omega
theorem before_irrefl (a : K2) : ¬ before a a = true := by
  simp only [before, Bool.or_eq_true, Bool.and_eq_true, decide_eq_true_eq]
  omega
def Up (l : List K2) : Prop := l.Pairwise fun a b => before a b = true
theorem up_insK (x : K2) (l : List K2) (h : Up l) : Up (insK x l) := by
  induction l with
  | nil => simp [insK, Up]
  | cons y l ih =>
    obtain ⟨h1, h2⟩ := List.pairwise_cons.1 h
    simp only [insK]
    split
    · exact h
    · rename_i hne
      split
      · rename_i hb
        refine List.pairwise_cons.2 ⟨fun z hz => ?_, h⟩
        rcases List.mem_cons.1 hz with rfl | hz
        · exact hb
        · exact before_trans hb (h1 z hz)
      · rename_i hb
        refine List.pairwise_cons.2 ⟨fun z hz => ?_, ih h2⟩
        rcases (mem_insK x z l).1 hz with rfl | hz
        · exact before_total hne hb
        · exact h1 z hz
theorem up_unique : ∀ {a b : List K2}, Up a → Up b → (∀ x, x ∈ a ↔ x ∈ b) → a = b
  | [], [], _, _, _ => rfl
  | [], y :: b, _, _, h => absurd ((h y).2 (by simp)) (by simp)
  | x :: a, [], _, _, h => absurd ((h x).1 (by simp)) (by simp)
  | x :: a, y :: b, ha, hb, h => by
    obtain ⟨a1, a2⟩ := List.pairwise_cons.1 ha
    obtain ⟨b1, b2⟩ := List.pairwise_cons.1 hb
    have e : x = y := by
      rcases List.mem_cons.1 ((h x).1 (by simp)) with e | hx
      · exact e
      · rcases List.mem_cons.1 ((h y).2 (by simp)) with e | hy
        · exact e.symm
        · exact absurd (before_trans (b1 x hx) (a1 y hy)) (before_irrefl y)
    subst e
    rw [up_unique a2 b2 fun z => ?_]
    constructor
    · intro hz
      rcases List.mem_cons.1 ((h z).1 (by simp [hz])) with e | hz'
      · subst e
        exact absurd (a1 z hz) (before_irrefl z)
      · exact hz'
    · intro hz
      rcases List.mem_cons.1 ((h z).2 (by simp [hz])) with e | hz'
      · subst e
        exact absurd (b1 z hz) (before_irrefl z)
      · exact hz'
/-- All windows of the records, in order. -/
def winKeys (wt : Int → List Int) (l : List Rec) : List K2 := (l.flatMap fun r => (wt r.2.1).map fun s => (r.1, s)).foldr insK []
theorem up_winKeys (wt : Int → List Int) (l : List Rec) : Up (winKeys wt l) := by
  unfold winKeys
  generalize (l.flatMap fun r => (wt r.2.1).map fun s => (r.1, s)) = xs
  induction xs with
  | nil => simp [Up]
  | cons x xs ih => exact up_insK x _ ih
theorem mem_winKeys (wt : Int → List Int) (l : List Rec) (κ : K2) : κ ∈ winKeys wt l ↔ vals wt l κ ≠ [] := by
  have e1 : ∀ xs : List K2, κ ∈ xs.foldr insK [] ↔ κ ∈ xs := by
    intro xs
    induction xs with
    | nil => simp
    | cons x xs ih => rw [List.foldr_cons, mem_insK, ih, List.mem_cons]
  unfold winKeys
  rw [e1]
  constructor
  · intro h e
    obtain ⟨r, hr, hx⟩ := List.mem_flatMap.1 h
    obtain ⟨s, hs, rfl⟩ := List.mem_map.1 hx
    have : r ∈ l.filter fun x => decide (x.1 = r.1 ∧ s ∈ wt x.2.1) := List.mem_filter.2 ⟨hr, by simp [hs]⟩
    rw [List.map_eq_nil_iff.1 e] at this
    cases this
  · intro h
    obtain ⟨v, hv⟩ := List.exists_mem_of_ne_nil _ h
    obtain ⟨r, hr, _⟩ := List.mem_map.1 hv
    obtain ⟨h1, h2⟩ := List.mem_filter.1 hr
    simp only [decide_eq_true_eq] at h2
    exact List.mem_flatMap.2 ⟨r, h1, List.mem_map.2 ⟨κ.2, h2.2, by rw [h2.1]⟩⟩
/-- The entries by panes: key, start, accumulator. -/
def valuesC (wt : Int → List Int) (l : List Rec) : M2 := (winKeys wt l).map fun κ => (κ, acc (vals wt l κ))
theorem valuesC_unique (wt : Int → List Int) (l : List Rec) {wm : M2} (h : Tells wm (vals wt l)) {out : M2} (hp : out.Perm wm) (hs : Up (keysM out)) : out = valuesC wt l := by
  have hk : keysM out = winKeys wt l := by
    refine up_unique hs (up_winKeys wt l) fun κ => ?_
    rw [mem_winKeys]
    simp only [keysM, List.mem_map]
    constructor
    · rintro ⟨p, hp1, rfl⟩
      obtain ⟨κ, a⟩ := p
      exact ((h.mem).1 (hp.mem_iff.1 hp1)).1
    · intro hn
      exact ⟨(κ, acc (vals wt l κ)), hp.mem_iff.2 ((h.mem).2 ⟨hn, rfl⟩), rfl⟩
  unfold valuesC
  rw [← hk]
  unfold keysM
  rw [List.map_map]
  conv => lhs; rw [← List.map_id out]
  refine List.map_congr_left fun p hp1 => ?_
  obtain ⟨κ, a⟩ := p
  have := ((h.mem).1 (hp.mem_iff.1 hp1)).2
  simp [this]
end Go.Proofs.YtepgpbbeeiebkaaPv
namespace Go.Proofs.YtepgpbbeeiebkaaPv
set_option linter.unusedVariables false
/-- How many sliding windows a time has. -/
def winN (size every t : Int) : Nat := ((size - t % every + every - 1) / every).toNat
/-- Where they begin, in order. -/
def winsAt (size every t : Int) : List Int := (List.range (winN size every t)).reverse.map fun j : Nat => t - t % every - (j : Int) * every
theorem winN_spec {size every : Int} (h1 : 1 ≤ every) (h2 : every ≤ size) (t : Int) (j : Nat) : j < winN size every t ↔ t < t - t % every - (j : Int) * every + size := by
  have m1 := Int.emod_nonneg t (show every ≠ 0 by omega)
  have m2 := Int.emod_lt_of_pos t (show 0 < every by omega)
  unfold winN
  have hpos : 0 ≤ (size - t % every + every - 1) / every := Int.ediv_nonneg (by omega) (by omega)
  rw [Int.lt_toNat]
  constructor
  · intro h
    have h3 : (j : Int) + 1 ≤ (size - t % every + every - 1) / every := by omega
    have h4 := (Int.le_ediv_iff_mul_le (show 0 < every by omega)).1 h3
    rw [Int.add_mul] at h4
    omega
  · intro h
    have h4 : ((j : Int) + 1) * every ≤ size - t % every + every - 1 := by
      rw [Int.add_mul]
      omega
    have h3 := (Int.le_ediv_iff_mul_le (show 0 < every by omega)).2 h4
    omega
theorem winN_pos {size every : Int} (h1 : 1 ≤ every) (h2 : every ≤ size) (t : Int) : 1 ≤ winN size every t := by
  have m2 := Int.emod_lt_of_pos t (show 0 < every by omega)
  have := (winN_spec h1 h2 t 0).2 (by simp; omega)
  omega
theorem winN_le {size every : Int} (h1 : 1 ≤ every) (h2 : every ≤ size) (h3 : size ≤ 16 * every) (t : Int) : winN size every t ≤ 16 := by
  have m1 := Int.emod_nonneg t (show every ≠ 0 by omega)
  rcases Nat.lt_or_ge 16 (winN size every t) with h | h
  · have := (winN_spec h1 h2 t 16).1 h
    omega
  · exact h
theorem mem_winsAt {size every : Int} (h1 : 1 ≤ every) (h2 : every ≤ size) (t s : Int) : s ∈ winsAt size every t ↔ s % every = 0 ∧ s ≤ t ∧ t < s + size := by
  have m1 := Int.emod_nonneg t (show every ≠ 0 by omega)
  have m2 := Int.emod_lt_of_pos t (show 0 < every by omega)
  have m3 := Int.mul_ediv_add_emod t every
  simp only [winsAt, List.mem_map, List.mem_reverse, List.mem_range]
  constructor
  · rintro ⟨j, hj, rfl⟩
    have := (winN_spec h1 h2 t j).1 hj
    have e : t - t % every - (j : Int) * every = every * (t / every - j) := by rw [Int.mul_sub, Int.mul_comm every (j : Int)]; omega
    refine ⟨by rw [e]; exact Int.mul_emod_right _ _, ?_, by omega⟩
    have : 0 ≤ (j : Int) * every := Int.mul_nonneg (by omega) (by omega)
    omega
  · rintro ⟨h3, h4, h5⟩
    obtain ⟨q, rfl⟩ := Int.dvd_of_emod_eq_zero h3
    have h6 : q ≤ t / every := (Int.le_ediv_iff_mul_le (show 0 < every by omega)).2 (by rw [Int.mul_comm]; exact h4)
    have e : t - t % every - ((t / every - q).toNat : Int) * every = every * q := by
      rw [Int.toNat_of_nonneg (by omega), Int.sub_mul, Int.mul_comm _ every, Int.mul_comm q every]
      omega
    refine ⟨(t / every - q).toNat, (winN_spec h1 h2 t _).2 (by rw [e]; exact h5), e⟩
theorem nodup_winsAt {size every : Int} (h1 : 1 ≤ every) (t : Int) : (winsAt size every t).Nodup := by
  unfold winsAt
  rw [List.map_reverse, (List.reverse_perm _).nodup_iff]
  refine List.Pairwise.map _ ?_ (List.nodup_range (n := winN size every t))
  intro a b hab e
  have e2 : (a : Int) * every = (b : Int) * every := by omega
  have := Int.eq_of_mul_eq_mul_right (by omega) e2
  omega
theorem winsAt_length (size every t : Int) : (winsAt size every t).length = winN size every t := by simp [winsAt]
/-- A pane's windows are those of each of its times. -/
theorem wins_pane {size every d : Int} (h1 : 1 ≤ every) (h2 : every ≤ size) (hd : 1 ≤ d) (d1 : size % d = 0) (d2 : every % d = 0) (t t' : Int) (hp : t - t % d ≤ t') (ht : t' ≤ t) (s : Int) : s ∈ winsAt size every t' ↔ s ∈ winsAt size every t := by
  rw [mem_winsAt h1 h2, mem_winsAt h1 h2]
  have m1 := Int.emod_nonneg t (show d ≠ 0 by omega)
  have m2 := Int.emod_lt_of_pos t (show 0 < d by omega)
  have m3 := Int.mul_ediv_add_emod t d
  constructor
  · rintro ⟨a, b, c⟩
    refine ⟨a, by omega, ?_⟩
    obtain ⟨q, rfl⟩ := Int.dvd_of_emod_eq_zero a
    obtain ⟨x, rfl⟩ := Int.dvd_of_emod_eq_zero d1
    obtain ⟨y, rfl⟩ := Int.dvd_of_emod_eq_zero d2
    have e : d * y * q + d * x = d * (y * q + x) := by rw [Int.mul_add, Int.mul_assoc]
    rw [e] at c ⊢
    have h3 : d * (t / d) < d * (y * q + x) := by omega
    have h4 : t / d < y * q + x := Int.lt_of_mul_lt_mul_left h3 (by omega)
    have h5 : d * (t / d + 1) ≤ d * (y * q + x) := Int.mul_le_mul_of_nonneg_left (by omega) (by omega)
    rw [Int.mul_add] at h5
    omega
  · rintro ⟨a, b, c⟩
    refine ⟨a, ?_, by omega⟩
    obtain ⟨q, rfl⟩ := Int.dvd_of_emod_eq_zero a
    obtain ⟨y, rfl⟩ := Int.dvd_of_emod_eq_zero d2
    have e : d * y * q = d * (y * q) := Int.mul_assoc _ _ _
    rw [e] at b ⊢
    have h6 : y * q ≤ t / d := (Int.le_ediv_iff_mul_le (show 0 < d by omega)).2 (by rw [Int.mul_comm]; exact b)
    have h7 : d * (y * q) ≤ d * (t / d) := Int.mul_le_mul_of_nonneg_left h6 (by omega)
    omega
end Go.Proofs.YtepgpbbeeiebkaaPv
