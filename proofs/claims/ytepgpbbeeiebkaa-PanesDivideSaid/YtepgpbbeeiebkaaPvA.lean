/- The entries by panes in plain words: whatever order the panes come in, the windows' accumulators are those of all records; no program in sight; no condition. -/
import Derived.Test.YtepgpbbeeiebkaaAcc
import Derived.Test.YtepgpbbeeiebkaaMp
namespace Go.Proofs.YtepgpbbeeiebkaaPv
open Go.RowKit Go.Proofs.YtepgpbbeeiebkaaAcc Go.Proofs.YtepgpbbeeiebkaaMp
set_option linter.unusedVariables false

@[elab_as_elim] theorem snocRec {α : Type} {p : List α → Prop} (nil : p []) (snoc : ∀ l x, p l → p (l ++ [x])) (l : List α) : p l := by
  have h : ∀ r : List α, p r.reverse := by
    intro r
    induction r with
    | nil => exact nil
    | cons x r ih => rw [List.reverse_cons]; exact snoc _ _ ih
  have := h l.reverse
  rwa [List.reverse_reverse] at this
/-- The accumulator of some values. -/
def acc (xs : List Int) : A4 := (cnt xs, sm xs, lo xs, hi xs)
def joinA (a b : A4) : A4 := if a.1 = 0 then b else if b.1 = 0 then a else (a.1 + b.1, wrap64 (a.2.1 + b.2.1), min a.2.2.1 b.2.2.1, max a.2.2.2 b.2.2.2)
theorem acc_nil : acc [] = (0, 0, 0, 0) := rfl
theorem joinA_acc (xs ys : List Int) : joinA (acc xs) (acc ys) = acc (xs ++ ys) := by
  unfold joinA
  split
  · rename_i h
    have : xs = [] := cnt_zero.1 h
    subst this
    rfl
  · rename_i h
    have hx : xs ≠ [] := fun e => h (cnt_zero.2 e)
    split
    · rename_i h2
      have : ys = [] := cnt_zero.1 h2
      subst this
      rw [List.append_nil]
    · rename_i h2
      have hy : ys ≠ [] := fun e => h2 (cnt_zero.2 e)
      show _ = (cnt (xs ++ ys), sm (xs ++ ys), lo (xs ++ ys), hi (xs ++ ys))
      rw [cnt_append, sm_append hx hy, lo_append hx hy, hi_append hx hy]
      rfl
theorem acc_perm {xs ys : List Int} (h : xs.Perm ys) : acc xs = acc ys := by
  unfold acc
  rw [cnt_perm h, sm_perm h, lo_perm h, hi_perm h]

/-- What stands at a key; the empty accumulator where nothing does. -/
def getA (m : M2) (κ : K2) : A4 := (lookM m κ).getD (0, 0, 0, 0)
/-- The map m tells of each key the values f of it. -/
def Tells (m : M2) (f : K2 → List Int) : Prop := (keysM m).Nodup ∧ ∀ κ, lookM m κ = if f κ = [] then none else some (acc (f κ))
theorem Tells.get {m : M2} {f : K2 → List Int} (h : Tells m f) (κ : K2) : getA m κ = acc (f κ) := by
  unfold getA
  rw [h.2 κ]
  split
  · rename_i e
    rw [e]
    rfl
  · rfl
theorem Tells.put {m : M2} {f g : K2 → List Int} (h : Tells m f) {κ : K2} {ys : List Int} (hy : ys ≠ []) (h1 : g κ = f κ ++ ys) (h2 : ∀ κ', κ' ≠ κ → g κ' = f κ') : Tells (putM m κ (joinA (getA m κ) (acc ys))) g := by
  refine ⟨nodup_put _ _ _ h.1, fun κ' => ?_⟩
  by_cases e : κ' = κ
  · subst e
    rw [look_put_same, h.get, joinA_acc, h1, if_neg (by simp [hy])]
  · rw [look_put_other m _ e, h.2, h2 κ' e]
theorem Tells.nil : Tells [] (fun _ => []) := ⟨by simp [keysM], fun κ => by simp [lookM]⟩
theorem Tells.mem {m : M2} {f : K2 → List Int} (h : Tells m f) {κ : K2} {a : A4} : (κ, a) ∈ m ↔ f κ ≠ [] ∧ a = acc (f κ) := by
  constructor
  · intro hm
    have := look_of_mem h.1 hm
    rw [h.2] at this
    split at this
    · cases this
    · rename_i hn
      cases this
      exact ⟨hn, rfl⟩
  · rintro ⟨hn, rfl⟩
    exact look_mem (by rw [h.2, if_neg hn])

abbrev Rec := Int × Int × Int
/-- The panes' map behind some records: st: where a time's pane begins. -/
def pansF (st : Int → Int) (l : List Rec) : M2 := l.foldl (fun m r => putM m (r.1, st r.2.1) (joinA (getA m (r.1, st r.2.1)) (acc [r.2.2]))) []
def vP (st : Int → Int) (l : List Rec) (κ : K2) : List Int := (l.filter fun r => decide ((r.1, st r.2.1) = κ)).map fun r => r.2.2
theorem pansF_snoc (st : Int → Int) (l : List Rec) (r : Rec) : pansF st (l ++ [r]) = putM (pansF st l) (r.1, st r.2.1) (joinA (getA (pansF st l) (r.1, st r.2.1)) (acc [r.2.2])) := by
  simp [pansF, List.foldl_append]
theorem pansF_tells (st : Int → Int) (l : List Rec) : Tells (pansF st l) (vP st l) := by
  suffices h : ∀ l', l' <+: l → Tells (pansF st l') (vP st l') from h l (List.prefix_refl l)
  intro l'
  induction l' using snocRec with
  | nil => exact fun _ => Tells.nil
  | snoc l' r ih =>
    intro hp
    have := ih ((List.prefix_append _ _).trans hp)
    rw [pansF_snoc]
    refine this.put (by simp) ?_ ?_
    · simp [vP, List.filter_append]
    · intro κ' hne
      simp [vP, List.filter_append, Ne.symm hne]

/-- One pane's round over its windows. -/
def winStep (m : M2) (k : Int) (a : A4) (ss : List Int) : M2 := ss.foldl (fun m s => putM m (k, s) (joinA (getA m (k, s)) a)) m
def winsF (ws : Int → List Int) (seen : M2) : M2 := seen.foldl (fun m p => winStep m p.1.1 p.2 (ws p.1.2)) []
theorem winStep_snoc (m : M2) (k : Int) (a : A4) (ss : List Int) (s : Int) : winStep m k a (ss ++ [s]) = putM (winStep m k a ss) (k, s) (joinA (getA (winStep m k a ss) (k, s)) a) := by
  simp [winStep, List.foldl_append]
theorem winsF_snoc (ws : Int → List Int) (seen : M2) (p : K2 × A4) : winsF ws (seen ++ [p]) = winStep (winsF ws seen) p.1.1 p.2 (ws p.1.2) := by
  simp [winsF, List.foldl_append]
/-- The values of a window out of some panes, each of which has the values g of it. -/
def vW (ws : Int → List Int) (g : K2 → List Int) (ks : List K2) (κ : K2) : List Int := (ks.filter fun p => decide (p.1 = κ.1 ∧ κ.2 ∈ ws p.2)).flatMap g
theorem winStep_tells {m : M2} {f : K2 → List Int} (h : Tells m f) (k : Int) {ys : List Int} (hy : ys ≠ []) (ss : List Int) (hn : ss.Nodup) : Tells (winStep m k (acc ys) ss) (fun κ => if κ.1 = k ∧ κ.2 ∈ ss then f κ ++ ys else f κ) := by
  suffices hh : ∀ s', s' <+: ss → Tells (winStep m k (acc ys) s') (fun κ => if κ.1 = k ∧ κ.2 ∈ s' then f κ ++ ys else f κ) from hh ss (List.prefix_refl ss)
  intro s'
  induction s' using snocRec with
  | nil => intro _; simpa [winStep] using h
  | snoc s' s ih =>
    intro hp
    have h1 := ih ((List.prefix_append _ _).trans hp)
    have hns : s ∉ s' := by
      have := hp.sublist.nodup hn
      rw [List.nodup_append] at this
      exact fun hs => this.2.2 s hs s (by simp) rfl
    rw [winStep_snoc]
    refine h1.put hy ?_ ?_
    · simp [hns]
    · intro κ' hne
      have : ¬ (κ'.1 = k ∧ κ'.2 = s) := fun e => hne (by obtain ⟨a, b⟩ := κ'; simp at e; simp [e])
      by_cases c : κ'.1 = k ∧ κ'.2 ∈ s'
      · rw [if_pos c, if_pos ⟨c.1, by simp [c.2]⟩]
      · rw [if_neg c, if_neg]
        rintro ⟨c1, c2⟩
        simp only [List.mem_append, List.mem_singleton] at c2
        rcases c2 with c2 | c2
        · exact c ⟨c1, c2⟩
        · exact this ⟨c1, c2⟩
theorem winsF_tells (ws : Int → List Int) (hws : ∀ t, (ws t).Nodup) {pm : M2} {g : K2 → List Int} (hp : Tells pm g) (seen : M2) (hs : ∀ p ∈ seen, lookM pm p.1 = some p.2) : Tells (winsF ws seen) (vW ws g (keysM seen)) := by
  induction seen using snocRec with
  | nil => exact Tells.nil
  | snoc seen p ih =>
    have h1 := ih (fun q hq => hs q (by simp [hq]))
    obtain ⟨κ, a⟩ := p
    have hk := hs (κ, a) (by simp)
    obtain ⟨hne, ha⟩ := (hp.mem).1 (look_mem hk)
    dsimp only at hne ha
    subst ha
    rw [winsF_snoc]
    have h2 := winStep_tells h1 κ.1 hne (ws κ.2) (hws κ.2)
    refine ⟨h2.1, fun κ' => ?_⟩
    rw [h2.2 κ']
    have e : vW ws g (keysM (seen ++ [(κ, acc (g κ))])) κ' = if κ'.1 = κ.1 ∧ κ'.2 ∈ ws κ.2 then vW ws g (keysM seen) κ' ++ g κ else vW ws g (keysM seen) κ' := by
      simp only [vW, keysM, List.map_append, List.map_cons, List.map_nil, List.filter_append, List.flatMap_append]
      by_cases c : κ'.1 = κ.1 ∧ κ'.2 ∈ ws κ.2
      · rw [if_pos c]
        simp [c.1, c.2]
      · rw [if_neg c]
        have : ¬ (κ.1 = κ'.1 ∧ κ'.2 ∈ ws κ.2) := fun e => c ⟨e.1.symm, e.2⟩
        simp [this]
    rw [e]

/-- The values of a key's window, out of all records. -/
def vals (wt : Int → List Int) (l : List Rec) (κ : K2) : List Int := (l.filter fun r => decide (r.1 = κ.1 ∧ κ.2 ∈ wt r.2.1)).map fun r => r.2.2
theorem perm_of_keys (ks : List K2) (hn : ks.Nodup) (st : Int → Int) (l : List Rec) (hk : ∀ r ∈ l, (r.1, st r.2.1) ∈ ks) : (ks.flatMap (vP st l)).Perm (l.map fun r => r.2.2) := by
  induction l with
  | nil => simp [vP]
  | cons r l ih =>
    have h1 := ih (fun x hx => hk x (by simp [hx]))
    have h2 : (ks.flatMap (vP st (r :: l))).Perm (r.2.2 :: ks.flatMap (vP st l)) := by
      have hm := hk r (by simp)
      obtain ⟨a, b, rfl⟩ := List.append_of_mem hm
      have hna : (r.1, st r.2.1) ∉ a := by
        rw [List.nodup_append] at hn
        exact fun hx => hn.2.2 _ hx _ (by simp) rfl
      have hnb : (r.1, st r.2.1) ∉ b := by
        rw [List.nodup_append, List.nodup_cons] at hn
        exact hn.2.1.1
      have other : ∀ c : List K2, (r.1, st r.2.1) ∉ c → c.flatMap (vP st (r :: l)) = c.flatMap (vP st l) := by
        intro c hc
        rw [List.flatMap_def, List.flatMap_def]
        congr 1
        refine List.map_congr_left fun κ hκ => ?_
        have : ¬ (r.1, st r.2.1) = κ := fun e => hc (e ▸ hκ)
        simp [vP, this]
      simp only [List.flatMap_append, List.flatMap_cons]
      rw [other a hna, other b hnb]
      have e : vP st (r :: l) (r.1, st r.2.1) = r.2.2 :: vP st l (r.1, st r.2.1) := by simp [vP]
      rw [e]
      exact List.perm_middle
    exact h2.trans (h1.cons _)
theorem vW_perm (st : Int → Int) (ws wt : Int → List Int) (l : List Rec) (hst : ∀ r ∈ l, ∀ s, s ∈ ws (st r.2.1) ↔ s ∈ wt r.2.1) (ks : List K2) (hn : ks.Nodup) (hk : ∀ r ∈ l, (r.1, st r.2.1) ∈ ks) (κ : K2) : (vW ws (vP st l) ks κ).Perm (vals wt l κ) := by
  unfold vW
  have e1 : (ks.filter fun p => decide (p.1 = κ.1 ∧ κ.2 ∈ ws p.2)).flatMap (vP st l) = (ks.filter fun p => decide (p.1 = κ.1 ∧ κ.2 ∈ ws p.2)).flatMap (vP st (l.filter fun r => decide (r.1 = κ.1 ∧ κ.2 ∈ wt r.2.1))) := by
    rw [List.flatMap_def, List.flatMap_def]
    congr 1
    refine List.map_congr_left fun p hp => ?_
    have hp2 := (List.mem_filter.1 hp).2
    simp only [decide_eq_true_eq] at hp2
    unfold vP
    rw [List.filter_filter]
    congr 1
    refine List.filter_congr fun r hr => ?_
    by_cases c : (r.1, st r.2.1) = p
    · have : r.1 = κ.1 ∧ κ.2 ∈ wt r.2.1 := by
        rw [← c] at hp2
        exact ⟨hp2.1, (hst r hr κ.2).1 hp2.2⟩
      simp [this]
    · simp [c]
  rw [e1]
  refine perm_of_keys _ (hn.filter _) st _ fun r hr => ?_
  have hr2 := List.mem_filter.1 hr
  simp only [decide_eq_true_eq] at hr2
  exact List.mem_filter.2 ⟨hk r hr2.1, by simp only [decide_eq_true_eq]; exact ⟨hr2.2.1, (hst r hr2.1 κ.2).2 hr2.2.2⟩⟩
/-- Whatever order the panes came in, the windows' map tells of each key the values of its window. -/
theorem wins_all (st : Int → Int) (ws wt : Int → List Int) (hws : ∀ t, (ws t).Nodup) (l : List Rec) (hst : ∀ r ∈ l, ∀ s, s ∈ ws (st r.2.1) ↔ s ∈ wt r.2.1) (seen : M2) (hn : (keysM seen).Nodup) (h1 : ∀ p ∈ seen, lookM (pansF st l) p.1 = some p.2) (h2 : ∀ κ a, lookM (pansF st l) κ = some a → κ ∈ keysM seen) : Tells (winsF ws seen) (vals wt l) := by
  have ht := winsF_tells ws hws (pansF_tells st l) seen h1
  refine ⟨ht.1, fun κ => ?_⟩
  have hp := vW_perm st ws wt l hst (keysM seen) hn (fun r hr => ?_) κ
  · rw [ht.2 κ, acc_perm hp]
    by_cases c : vals wt l κ = []
    · rw [if_pos c, if_pos (by rw [c] at hp; exact List.perm_nil.1 hp)]
    · rw [if_neg c, if_neg (fun e => c (by rw [e] at hp; exact List.nil_perm.1 hp))]
  · have hf : vP st l (r.1, st r.2.1) ≠ [] := by
      unfold vP
      intro e
      have : r ∈ l.filter fun x => decide ((x.1, st x.2.1) = (r.1, st r.2.1)) := List.mem_filter.2 ⟨hr, by simp⟩
      rw [List.map_eq_nil_iff.1 e] at this
      cases this
    refine h2 _ _ (?_ : _ = some (acc (vP st l (r.1, st r.2.1))))
    rw [(pansF_tells st l).2, if_neg hf]

/-- Places in order, each once: by the start, then by the key. -/
def before (a b : K2) : Bool := decide (a.2 < b.2) || (decide (a.2 = b.2) && decide (a.1 < b.1))
def insK (x : K2) : List K2 → List K2
  | [] => [x]
  | y :: l => if x = y then y :: l else if before x y = true then x :: y :: l else y :: insK x l
theorem mem_insK (x y : K2) (l : List K2) : y ∈ insK x l ↔ y = x ∨ y ∈ l := by
  induction l with
  | nil => simp [insK]
  | cons z l ih =>
    simp only [insK]
    split
    · rename_i e
      subst e
      simp
    · split
      · simp
      · simp only [List.mem_cons, ih]
        constructor
        · rintro (h | h | h) <;> simp [h]
        · rintro (h | h | h) <;> simp [h]
theorem before_trans {a b c : K2} (h : before a b = true) (k : before b c = true) : before a c = true := by
  simp only [before, Bool.or_eq_true, Bool.and_eq_true, decide_eq_true_eq] at *
  omega
theorem before_total {a b : K2} (h : a ≠ b) (k : ¬ before a b = true) : before b a = true := by
  simp only [before, Bool.or_eq_true, Bool.and_eq_true, decide_eq_true_eq] at *
  have : ¬ (a.1 = b.1 ∧ a.2 = b.2) := fun e => h (Prod.ext e.1 e.2)
  omega
theorem before_irrefl (a : K2) : ¬ before a a = true := by
  simp only [before, Bool.or_eq_true, Bool.and_eq_true, decide_eq_true_eq]
  omega
def Up (l : List K2) : Prop := l.Pairwise fun a b => before a b = true
theorem up_insK (x : K2) (l : List K2) (h : Up l) : Up (insK x l) := by
  induction l with
  | nil => simp [insK, Up]
  | cons y l ih =>
    obtain ⟨h1, h2⟩ := List.pairwise_cons.1 h
    simp only [insK]
    split
    · exact h
    · rename_i hne
      split
      · rename_i hb
        refine List.pairwise_cons.2 ⟨fun z hz => ?_, h⟩
        rcases List.mem_cons.1 hz with rfl | hz
        · exact hb
        · exact before_trans hb (h1 z hz)
      · rename_i hb
        refine List.pairwise_cons.2 ⟨fun z hz => ?_, ih h2⟩
        rcases (mem_insK x z l).1 hz with rfl | hz
        · exact before_total hne hb
        · exact h1 z hz
theorem up_unique : ∀ {a b : List K2}, Up a → Up b → (∀ x, x ∈ a ↔ x ∈ b) → a = b
  | [], [], _, _, _ => rfl
  | [], y :: b, _, _, h => absurd ((h y).2 (by simp)) (by simp)
  | x :: a, [], _, _, h => absurd ((h x).1 (by simp)) (by simp)
  | x :: a, y :: b, ha, hb, h => by
    obtain ⟨a1, a2⟩ := List.pairwise_cons.1 ha
    obtain ⟨b1, b2⟩ := List.pairwise_cons.1 hb
    have e : x = y := by
      rcases List.mem_cons.1 ((h x).1 (by simp)) with e | hx
      · exact e
      · rcases List.mem_cons.1 ((h y).2 (by simp)) with e | hy
        · exact e.symm
        · exact absurd (before_trans (b1 x hx) (a1 y hy)) (before_irrefl y)
    subst e
    rw [up_unique a2 b2 fun z => ?_]
    constructor
    · intro hz
      rcases List.mem_cons.1 ((h z).1 (by simp [hz])) with e | hz'
      · subst e
        exact absurd (a1 z hz) (before_irrefl z)
      · exact hz'
    · intro hz
      rcases List.mem_cons.1 ((h z).2 (by simp [hz])) with e | hz'
      · subst e
        exact absurd (b1 z hz) (before_irrefl z)
      · exact hz'
/-- All windows of the records, in order. -/
def winKeys (wt : Int → List Int) (l : List Rec) : List K2 := (l.flatMap fun r => (wt r.2.1).map fun s => (r.1, s)).foldr insK []
theorem up_winKeys (wt : Int → List Int) (l : List Rec) : Up (winKeys wt l) := by
  unfold winKeys
  generalize (l.flatMap fun r => (wt r.2.1).map fun s => (r.1, s)) = xs
  induction xs with
  | nil => simp [Up]
  | cons x xs ih => exact up_insK x _ ih
theorem mem_winKeys (wt : Int → List Int) (l : List Rec) (κ : K2) : κ ∈ winKeys wt l ↔ vals wt l κ ≠ [] := by
  have e1 : ∀ xs : List K2, κ ∈ xs.foldr insK [] ↔ κ ∈ xs := by
    intro xs
    induction xs with
    | nil => simp
    | cons x xs ih => rw [List.foldr_cons, mem_insK, ih, List.mem_cons]
  unfold winKeys
  rw [e1]
  constructor
  · intro h e
    obtain ⟨r, hr, hx⟩ := List.mem_flatMap.1 h
    obtain ⟨s, hs, rfl⟩ := List.mem_map.1 hx
    have : r ∈ l.filter fun x => decide (x.1 = r.1 ∧ s ∈ wt x.2.1) := List.mem_filter.2 ⟨hr, by simp [hs]⟩
    rw [List.map_eq_nil_iff.1 e] at this
    cases this
  · intro h
    obtain ⟨v, hv⟩ := List.exists_mem_of_ne_nil _ h
    obtain ⟨r, hr, _⟩ := List.mem_map.1 hv
    obtain ⟨h1, h2⟩ := List.mem_filter.1 hr
    simp only [decide_eq_true_eq] at h2
    exact List.mem_flatMap.2 ⟨r, h1, List.mem_map.2 ⟨κ.2, h2.2, by rw [h2.1]⟩⟩
/-- The entries by panes: key, start, accumulator. -/
def valuesC (wt : Int → List Int) (l : List Rec) : M2 := (winKeys wt l).map fun κ => (κ, acc (vals wt l κ))
theorem valuesC_unique (wt : Int → List Int) (l : List Rec) {wm : M2} (h : Tells wm (vals wt l)) {out : M2} (hp : out.Perm wm) (hs : Up (keysM out)) : out = valuesC wt l := by
  have hk : keysM out = winKeys wt l := by
    refine up_unique hs (up_winKeys wt l) fun κ => ?_
    rw [mem_winKeys]
    simp only [keysM, List.mem_map]
    constructor
    · rintro ⟨p, hp1, rfl⟩
      obtain ⟨κ, a⟩ := p
      exact ((h.mem).1 (hp.mem_iff.1 hp1)).1
    · intro hn
      exact ⟨(κ, acc (vals wt l κ)), hp.mem_iff.2 ((h.mem).2 ⟨hn, rfl⟩), rfl⟩
  unfold valuesC
  rw [← hk]
  unfold keysM
  rw [List.map_map]
  conv => lhs; rw [← List.map_id out]
  refine List.map_congr_left fun p hp1 => ?_
  obtain ⟨κ, a⟩ := p
  have := ((h.mem).1 (hp.mem_iff.1 hp1)).2
  simp [this]
end Go.Proofs.YtepgpbbeeiebkaaPv
