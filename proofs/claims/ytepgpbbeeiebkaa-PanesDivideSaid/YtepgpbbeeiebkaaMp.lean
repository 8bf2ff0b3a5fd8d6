/- A map with two whole numbers as its key and an accumulator at each, as a plain list: look-ups, stores, ranges; no condition but that of a key. -/
import Derived.Maps.Range
import Derived.Maps.RangeWalk
import Derived.Maps.OwnOps
import Derived.DeepKeys4
namespace Go.Proofs.YtepgpbbeeiebkaaMp
open Go Go.Maps Go.WideShapes Go.RowKit
set_option linter.unusedVariables false

abbrev K2 := Int × Int
abbrev A4 := Int × Int × Int × Int
def keyV (κ : K2) : Value := .agg #[.int .i64 κ.1, .int .i64 κ.2]
def accV (a : A4) : Value := .agg #[.int .i64 a.1, .int .i64 a.2.1, .int .i64 a.2.2.1, .int .i64 a.2.2.2]
def accD (a : A4) : DataW Unit := .agg [.lit (.int .i64 a.1), .lit (.int .i64 a.2.1), .lit (.int .i64 a.2.2.1), .lit (.int .i64 a.2.2.2)]
theorem accV_inj {a b : A4} (h : accV a = accV b) : a = b := by
  obtain ⟨a1, a2, a3, a4⟩ := a
  obtain ⟨b1, b2, b3, b4⟩ := b
  simp [accV] at h
  obtain ⟨h1, h2, h3, h4⟩ := h
  subst h1; subst h2; subst h3; subst h4
  rfl
open Classical in
noncomputable def accR (v : Value) : Option (DataW Unit × List MemPlace) := if h : ∃ a, v = accV a then some (accD h.choose, []) else none
theorem accR_mk (a : A4) : accR (accV a) = some (accD a, []) := by
  have h : ∃ b, accV a = accV b := ⟨a, rfl⟩
  unfold accR
  rw [dif_pos h, ← accV_inj h.choose_spec]
theorem accR_inv {v : Value} {y : DataW Unit × List MemPlace} (h : accR v = some y) : ∃ a, v = accV a ∧ y = (accD a, []) := by
  unfold accR at h
  split at h
  · rename_i hx
    cases h
    exact ⟨_, hx.choose_spec, rfl⟩
  · cases h
theorem accD_inj {a b : A4} (h : accD a = accD b) : a = b := by
  obtain ⟨a1, a2, a3, a4⟩ := a
  obtain ⟨b1, b2, b3, b4⟩ := b
  simp [accD] at h
  obtain ⟨h1, h2, h3, h4⟩ := h
  subst h1; subst h2; subst h3; subst h4
  rfl

abbrev M2 := List (K2 × A4)
def lookM : M2 → K2 → Option A4
  | [], _ => none
  | (k, a) :: m, κ => if k = κ then some a else lookM m κ
def putM : M2 → K2 → A4 → M2
  | [], κ, a => [(κ, a)]
  | (k, b) :: m, κ, a => if k = κ then (κ, a) :: m else (k, b) :: putM m κ a
theorem look_put_same (m : M2) (κ : K2) (a : A4) : lookM (putM m κ a) κ = some a := by
  induction m with
  | nil => simp [putM, lookM]
  | cons p m ih =>
    obtain ⟨k, b⟩ := p
    simp only [putM]
    split
    · simp [lookM]
    · rename_i h
      simp only [lookM, if_neg h, ih]
theorem look_put_other (m : M2) {κ κ' : K2} (a : A4) (h : κ' ≠ κ) : lookM (putM m κ a) κ' = lookM m κ' := by
  induction m with
  | nil => simp [putM, lookM, Ne.symm h]
  | cons p m ih =>
    obtain ⟨k, b⟩ := p
    simp only [putM]
    split
    · rename_i e
      subst e
      simp only [lookM, if_neg (Ne.symm h)]
    · simp only [lookM, ih]
theorem put_length (m : M2) (κ : K2) (a : A4) : (putM m κ a).length ≤ m.length + 1 := by
  induction m with
  | nil => simp [putM]
  | cons p m ih =>
    obtain ⟨k, b⟩ := p
    simp only [putM]
    split
    · simp
    · simp; exact ih
def keysM (m : M2) : List K2 := m.map (·.1)
theorem look_mem {m : M2} {κ : K2} {a : A4} (h : lookM m κ = some a) : (κ, a) ∈ m := by
  induction m with
  | nil => cases h
  | cons p m ih =>
    obtain ⟨k, b⟩ := p
    simp only [lookM] at h
    split at h
    · rename_i e
      cases h
      subst e
      simp
    · exact List.mem_cons_of_mem _ (ih h)
theorem look_of_mem {m : M2} (hn : (keysM m).Nodup) {κ : K2} {a : A4} (h : (κ, a) ∈ m) : lookM m κ = some a := by
  induction m with
  | nil => cases h
  | cons p m ih =>
    obtain ⟨k, b⟩ := p
    simp only [keysM, List.map_cons, List.nodup_cons] at hn
    rcases List.mem_cons.1 h with e | h'
    · cases e
      simp [lookM]
    · have : k ≠ κ := fun e => hn.1 (e ▸ List.mem_map.2 ⟨(κ, a), h', rfl⟩)
      simp only [lookM, if_neg this]
      exact ih hn.2 h'
theorem keys_put (m : M2) (κ : K2) (a : A4) : ∀ x, x ∈ keysM (putM m κ a) ↔ x = κ ∨ x ∈ keysM m := by
  intro x
  induction m with
  | nil => simp [putM, keysM]
  | cons p m ih =>
    obtain ⟨k, b⟩ := p
    simp only [putM]
    split
    · rename_i e
      subst e
      simp [keysM]
    · simp only [keysM, List.map_cons, List.mem_cons] at ih ⊢
      rw [ih]
      constructor
      · rintro (h | h | h) <;> simp [h]
      · rintro (h | h | h) <;> simp [h]
theorem nodup_put (m : M2) (κ : K2) (a : A4) (h : (keysM m).Nodup) : (keysM (putM m κ a)).Nodup := by
  induction m with
  | nil => simp [putM, keysM]
  | cons p m ih =>
    obtain ⟨k, b⟩ := p
    simp only [keysM, List.map_cons, List.nodup_cons] at h
    simp only [putM]
    split
    · rename_i e
      subst e
      simpa [keysM] using h
    · rename_i e
      simp only [keysM, List.map_cons, List.nodup_cons]
      refine ⟨fun hx => ?_, ih h.2⟩
      rcases (keys_put m κ a k).1 hx with e' | e'
      · exact e e'
      · exact h.1 e'

section
variable {P : Program} {kt : TypeId}
def okK (P : Program) (kt : TypeId) (κ : K2) : Prop := ∃ l, keyOf P kt (keyV κ) = some l
def litOf (P : Program) (kt : TypeId) (κ : K2) : Lit := (keyOf P kt (keyV κ)).getD (.bool false)
theorem litOf_eq {κ : K2} (h : okK P kt κ) : keyOf P kt (keyV κ) = some (litOf P kt κ) := by
  obtain ⟨l, hl⟩ := h
  unfold litOf
  rw [hl]
  rfl
theorem litOf_inj (K : Keyed P kt) {κ κ' : K2} (h : okK P kt κ) (h' : okK P kt κ') (e : litOf P kt κ = litOf P kt κ') : κ = κ' := by
  have h1 := litOf_eq h
  have h2 := litOf_eq h'
  rw [← e] at h2
  have h3 := K.inj h1 h2
  obtain ⟨a, b⟩ := κ
  obtain ⟨c, d⟩ := κ'
  simp [keyV] at h3
  rw [h3.1, h3.2]

/-- The datum D holds just what the list m says. -/
structure Rep (P : Program) (kt : TypeId) (D : DataW Unit) (m : M2) : Prop where
  isMap : IsMap D
  at_ : ∀ κ, okK P kt κ → ∀ z, D.atKey (litOf P kt κ) z = match lookM m κ with | some a => accD a | none => z
  keys_ : ∀ l, has D l = true → ∃ κ a, okK P kt κ ∧ l = litOf P kt κ ∧ lookM m κ = some a
theorem rep_nil : Rep P kt (.map []) [] where
  isMap := isMap_empty
  at_ κ _ z := atKey_of_not_has (by simp [has]) z
  keys_ l h := by simp [has] at h
theorem rep_put (K : Keyed P kt) {D : DataW Unit} {m : M2} (h : Rep P kt D m) {κ : K2} (hk : okK P kt κ) (a : A4) : Rep P kt (D.put (litOf P kt κ) (accD a)) (putM m κ a) where
  isMap := h.isMap.put _ _
  at_ κ' hk' z := by
    by_cases e : κ' = κ
    · subst e
      rw [atKey_put_same h.isMap (K.key (litOf_eq hk)), look_put_same]
    · rw [atKey_put_other (fun e' => e (litOf_inj K hk' hk e')), look_put_other m a e]
      exact h.at_ κ' hk' z
  keys_ l hl := by
    by_cases e : l = litOf P kt κ
    · exact ⟨κ, a, hk, e, look_put_same m κ a⟩
    · rw [has_put_other e] at hl
      obtain ⟨κ', a', h1, h2, h3⟩ := h.keys_ l hl
      refine ⟨κ', a', h1, h2, ?_⟩
      rw [look_put_other m a (fun e' => e (by rw [h2, e']))]
      exact h3
theorem rep_has (K : Keyed P kt) {D : DataW Unit} {m : M2} (h : Rep P kt D m) {κ : K2} (hk : okK P kt κ) {a : A4} (hl : lookM m κ = some a) : has D (litOf P kt κ) = true :=
  has_true_of_atKey (y := accD a) (fun z => by rw [h.at_ κ hk z, hl])

/-- Block b is a map of at most n entries, those of m. -/
def MapIs (P : Program) (kt : TypeId) (W : World) (b n : Nat) (m : M2) : Prop := ∃ D, W.ownsMap P kt accR b n D ∧ Rep P kt D m
theorem MapIs.made (w : World) : MapIs P kt (w.alloc (.map #[] 0)) w.heap.size 0 [] := ⟨_, World.ownsMap_made w P kt accR, rep_nil⟩
theorem MapIs.kept {W W' : World} {b n : Nat} {m : M2} {row : Option Nat} (h : MapIs P kt W b n m) (hg : W.grownBy W' row) (hne : some b ≠ row) : MapIs P kt W' b n m := by
  obtain ⟨D, h1, h2⟩ := h
  exact ⟨D, h1.kept hg hne, h2⟩
theorem MapIs.lt {W : World} {b n : Nat} {m : M2} (h : MapIs P kt W b n m) : b < W.heap.size := by
  obtain ⟨D, h1, _⟩ := h
  exact h1.lt
theorem MapIs.get {t e : TypeId} {w : World} {b n : Nat} {m : M2} (h : MapIs P kt w b n m) (K : Keyed P kt) (ht : P.underlying t = some (.map kt e)) (hz : (zeroValue e).run P w = .ok (accV (0, 0, 0, 0)) w) {κ : K2} (hk : okK P kt κ) :
    (Instr.lookup t (.map (some b)) (keyV κ) false).run P w = .ok (accV ((lookM m κ).getD (0, 0, 0, 0))) w := by
  obtain ⟨D, h1, h2⟩ := h
  obtain ⟨v, ps, hrun, hv⟩ := h1.lookup K ht hz (accR_mk _) (litOf_eq hk)
  obtain ⟨a, rfl, hy⟩ := accR_inv hv
  simp only [Prod.mk.injEq] at hy
  rw [h2.at_ κ hk] at hy
  rw [hrun]
  cases hl : lookM m κ with
  | none =>
    rw [hl] at hy
    rw [← accD_inj hy.1]
    rfl
  | some c =>
    rw [hl] at hy
    rw [← accD_inj hy.1]
    rfl
theorem MapIs.update {t e : TypeId} {w : World} {b n : Nat} {m : M2} (h : MapIs P kt w b n m) (K : Keyed P kt) (ht : P.underlying t = some (.map kt e)) (hn : n < maxLen) {κ : K2} (hk : okK P kt κ) (a : A4) :
    ∃ w', (Instr.mapUpdate t (.map (some b)) (keyV κ) (accV a)).run P w = .ok () w' ∧ MapIs P kt w' b (n + 1) (putM m κ a) ∧ w.grownBy w' (some b) := by
  obtain ⟨D, h1, h2⟩ := h
  obtain ⟨w', r1, r2, r3⟩ := h1.update K ht hn (litOf_eq hk) (accR_mk a)
  exact ⟨w', r1, ⟨_, r2, rep_put K h2 hk a⟩, r3⟩

/-- A range over the map m in block b, by the iterator in block r: seen has come, in this order. -/
def Ranging (P : Program) (kt : TypeId) (W : World) (b r n : Nat) (m seen : M2) (cnt : Nat) : Prop :=
  ∃ D left, W.ranges P kt accR b r n D left cnt ∧ Rep P kt D m ∧ (keysM seen).Nodup ∧ (∀ p ∈ seen, lookM m p.1 = some p.2) ∧ ∀ κ, okK P kt κ → (left (litOf P kt κ) = true ↔ (∃ a, lookM m κ = some a) ∧ κ ∉ keysM seen)
theorem MapIs.range {t e : TypeId} {w : World} {b n : Nat} {m : M2} (h : MapIs P kt w b n m) (K : Keyed P kt) (ht : P.underlying t = some (.map kt e)) :
    ∃ w' cnt, (Instr.range t (.map (some b))).run P w = .ok (.pointer (some ⟨w.heap.size, 0, none⟩)) w' ∧ Ranging P kt w' b w.heap.size n m [] cnt ∧ w.grownBy w' none ∧ w'.heap.size = w.heap.size + 1 ∧ cnt ≤ n := by
  obtain ⟨D, h1, h2⟩ := h
  obtain ⟨w', r1, r2, r3, r4⟩ := h1.range K ht
  refine ⟨w', _, r1, ⟨D, _, r2, h2, List.nodup_nil, fun p hp => absurd hp (by simp), fun κ hk => ⟨fun hl => ⟨?_, by simp [keysM]⟩, fun hl => ?_⟩⟩, r3, r4, h1.size_le⟩
  · obtain ⟨κ', a, k1, k2, k3⟩ := h2.keys_ _ hl
    rw [litOf_inj K hk k1 k2]
    exact ⟨a, k3⟩
  · obtain ⟨⟨a, ha⟩, _⟩ := hl
    exact rep_has K h2 hk ha
theorem Ranging.kept {W W' : World} {b r n cnt : Nat} {m seen : M2} {row : Option Nat} (h : Ranging P kt W b r n m seen cnt) (hg : W.grownBy W' row) (h1 : some b ≠ row) (h2 : some r ≠ row) : Ranging P kt W' b r n m seen cnt := by
  obtain ⟨D, left, a1, a2⟩ := h
  exact ⟨D, left, a1.kept hg h1 h2, a2⟩
theorem Ranging.lt {W : World} {b r n cnt : Nat} {m seen : M2} (h : Ranging P kt W b r n m seen cnt) : b < W.heap.size ∧ r < W.heap.size ∧ r ≠ b := by
  obtain ⟨D, left, a1, _⟩ := h
  exact ⟨a1.owns.lt, a1.lt, a1.ne⟩
theorem Ranging.left_eq {W : World} {b r n cnt : Nat} {m seen : M2} (h : Ranging P kt W b r n m seen cnt) : W.rangeLeft b r = cnt := by
  obtain ⟨D, left, a1, _⟩ := h
  exact a1.left_eq
theorem Ranging.next {w : World} {b r n cnt : Nat} {m seen : M2} (h : Ranging P kt w b r n m seen cnt) (K : Keyed P kt) (hm : ∀ κ a, lookM m κ = some a → okK P kt κ) (ty : TypeId) :
    ((∀ κ a, lookM m κ = some a → κ ∈ keysM seen) ∧ (Instr.next (.pointer (some ⟨r, 0, none⟩)) false ty).run P w = .ok (.tuple #[.bool false]) w) ∨
    ∃ κ a w' cnt', okK P kt κ ∧ lookM m κ = some a ∧ κ ∉ keysM seen ∧ (Instr.next (.pointer (some ⟨r, 0, none⟩)) false ty).run P w = .ok (.tuple #[.bool true, keyV κ, accV a]) w' ∧
      Ranging P kt w' b r n m (seen ++ [(κ, a)]) cnt' ∧ cnt' < cnt ∧ w.grownBy w' (some r) ∧ w'.heap.size = w.heap.size ∧ (Instr.entry (.pointer (some ⟨r, 0, none⟩))).run P w' = .ok (.tuple #[keyV κ, accV a]) w' := by
  obtain ⟨D, left, h1, h2, h3, h4, h5⟩ := h
  rcases h1.next K ty with ⟨h0, hl, hrun⟩ | ⟨key, v, kl, y, w', cnt', hkey, hlk, hv, hat, hrun, hrg, hlt, hgr, hsz, hen⟩
  · refine .inl ⟨fun κ a ha => ?_, hrun⟩
    have hk := hm κ a ha
    by_cases hs : κ ∈ keysM seen
    · exact hs
    · have := (h5 κ hk).2 ⟨⟨a, ha⟩, hs⟩
      rw [hl] at this
      cases this
  · obtain ⟨a, rfl, rfl⟩ := accR_inv hv
    have hhas : has D kl = true := has_true_of_atKey hat
    obtain ⟨κ, a', k1, rfl, k3⟩ := h2.keys_ kl hhas
    have e1 := h2.at_ κ k1 .nil
    rw [hat, k3] at e1
    obtain rfl := accD_inj e1
    obtain rfl := K.inj hkey (litOf_eq k1)
    obtain ⟨_, hns⟩ := (h5 κ k1).1 hlk
    refine .inr ⟨κ, a, w', cnt', k1, k3, hns, hrun, ⟨D, _, hrg, h2, ?_, ?_, ?_⟩, hlt, hgr, hsz, hen⟩
    · simp only [keysM, List.map_append, List.map_cons, List.map_nil]
      rw [List.nodup_append]
      refine ⟨h3, by simp, fun x hx y hy => ?_⟩
      simp only [List.mem_singleton] at hy
      subst hy
      exact fun e => hns (e ▸ hx)
    · intro p hp
      rcases List.mem_append.1 hp with hp | hp
      · exact h4 p hp
      · simp only [List.mem_singleton] at hp
        subst hp
        exact k3
    · intro κ' hk'
      simp only [Bool.and_eq_true, Bool.not_eq_true', keysM, List.map_append, List.map_cons, List.map_nil, List.mem_append, List.mem_singleton, not_or]
      rw [h5 κ' hk']
      constructor
      · rintro ⟨⟨x1, x2⟩, x3⟩
        refine ⟨x1, x2, fun e => ?_⟩
        subst e
        rw [WideAt.sameKey_self (K.key (litOf_eq hk'))] at x3
        cases x3
      · rintro ⟨x1, x2, x3⟩
        exact ⟨⟨x1, x2⟩, Maps.sameKey_ne fun e => x3 (litOf_inj K hk' k1 e)⟩
end
end Go.Proofs.YtepgpbbeeiebkaaMp
