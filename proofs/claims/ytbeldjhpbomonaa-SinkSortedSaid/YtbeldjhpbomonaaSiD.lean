/- How late records and rows are compared, as plain functions: total orders; and slices.SortFunc of a row of structs under such an order. Condition: fewer than 2^62 elements. -/
import Derived.Test.YtbeldjhpbomonaaSiC
import Derived.Test.YtbeldjhpbomonaaSB
import Derived.Test.YtbeldjhpbomonaaSortL
namespace Go.Proofs.Ytbeldjhpbomonaa.Si
open Go.RowKit Go.Sort Go.Proofs.YtbeldjhpbomonaaW.PrintWords Go.Proofs.YtbeldjhpbomonaaW.PrintLast Go.Proofs.YtbeldjhpbomonaaW.PrintMore Go.Proofs.YtbeldjhpbomonaaSB
set_option linter.unusedVariables false
set_option linter.unnecessarySimpa false

def cmpI (x y : Int) : Int := if x < y then -1 else if y < x then 1 else 0
/-- The first that is not zero. -/
def orL : List Int → Int
  | [] => 0
  | x :: r => if x = 0 then orL r else x
theorem cmp_f (x y : Int) : cmp_Compare_int64.f x y = some (cmpI x y) := by
  unfold cmp_Compare_int64.f cmp_isNaN_int64.f cmpI
  by_cases h1 : x < y
  · simp [h1]
  · by_cases h2 : y < x <;> simp [h1, h2]
theorem or_l0 (l : List Int) (hl : l.length < 1000) : ∀ (k n : Nat), n ≤ l.length → l.length - n < k → cmp_Or_int.l0 k 0 l (l.length : Int) (n : Int) = some (orL (l.drop n)) := by
  intro k
  induction k with
  | zero => intro n _ h; omega
  | succ k ih =>
    intro n hn hk
    unfold cmp_Or_int.l0
    by_cases hlt : n < l.length
    · rw [if_pos (by omega), if_pos (by omega), if_pos (by omega)]
      have e1 : rd l (n : Int) = l[n] := by show l.getD (n : Int).toNat 0 = _; simp [hlt]
      have e2 : l.drop n = l[n] :: l.drop (n + 1) := List.drop_eq_getElem_cons hlt
      have e3 : wrap64 ((n : Int) + 1) = ((n + 1 : Nat) : Int) := by unfold wrap64; omega
      rw [e1, e2]
      unfold orL
      by_cases h0 : l[n] = 0
      · rw [if_pos h0, if_pos h0, e3]
        exact ih (n + 1) (by omega) (by omega)
      · rw [if_neg h0, if_neg h0]
    · rw [if_neg (by omega), List.drop_eq_nil_of_le (by omega)]
      rfl
theorem or_f (l : List Int) (hl : l.length < 1000) : cmp_Or_int.f 1000 l = some (orL l) := by
  have := or_l0 l hl 1000 0 (by omega) (by omega)
  simpa [cmp_Or_int.f] using this

def byRecordI (x y : S33) : Int := orL [cmpI x.f1 y.f1, cmpI x.f0 y.f0, cmpI x.f2 y.f2]
def byRowI (x y : S38) : Int := orL [cmpI x.f1.f1 y.f1.f1, cmpI x.f1.f0 y.f1.f0, cmpI x.f0 y.f0, cmpI x.f2.f0 y.f2.f0, cmpI x.f2.f1 y.f2.f1]
/-- Lists of as many numbers: lower. -/
def lowL : List Int → List Int → Bool
  | x :: r, y :: s => if x = y then lowL r s else decide (x < y)
  | _, _ => false
theorem orL_low : ∀ (l m : List Int), l.length = m.length → decide (orL (List.zipWith cmpI l m) < 0) = lowL l m
  | [], [], _ => rfl
  | x :: r, y :: s, h => by
    have ih := orL_low r s (by simpa using h)
    simp only [List.zipWith_cons_cons, orL, lowL]
    by_cases h1 : x = y
    · subst h1
      simp only [cmpI, Int.lt_irrefl, if_false, if_true]
      exact ih
    · by_cases h2 : x < y
      · simp [cmpI, h1, h2]
      · have h3 : y < x := by omega
        simp [cmpI, h1, h2, h3]
theorem lowL_irrefl : ∀ l, lowL l l = false
  | [] => rfl
  | x :: r => by simp [lowL, lowL_irrefl r]
theorem lowL_trans : ∀ l m n : List Int, lowL l m = true → lowL m n = true → lowL l n = true
  | x :: r, y :: s, z :: t, h1, h2 => by
    have ih := lowL_trans r s t
    simp only [lowL] at *
    by_cases a : x = y
    · subst a
      by_cases b : x = z
      · subst b; simp_all
      · simp_all
    · by_cases b : y = z
      · subst b; simp_all
      · simp only [if_neg a, if_neg b, decide_eq_true_eq] at h1 h2
        rw [if_neg (by omega)]
        simp; omega
  | [], _, _, h1, _ => by simp [lowL] at h1
  | _ :: _, [], _, h1, _ => by simp [lowL] at h1
  | _ :: _, _ :: _, [], _, h2 => by simp [lowL] at h2
theorem lowL_total : ∀ l m : List Int, l.length = m.length → lowL l m = false → lowL m l = false → l = m
  | [], [], _, _, _ => rfl
  | x :: r, y :: s, h, h1, h2 => by
    simp only [lowL] at h1 h2
    by_cases a : x = y
    · subst a
      simp only [if_true] at h1 h2
      rw [lowL_total r s (by simpa using h) h1 h2]
    · rw [if_neg a] at h1
      rw [if_neg (Ne.symm a)] at h2
      simp at h1 h2
      omega
def recL (x : S33) : List Int := [x.f1, x.f0, x.f2]
def rowL (x : S38) : List Int := [x.f1.f1, x.f1.f0, x.f0, x.f2.f0, x.f2.f1]
theorem lt_rec (x y : S33) : ltOf byRecordI x y = lowL (recL x) (recL y) := orL_low (recL x) (recL y) rfl
theorem lt_row (x y : S38) : ltOf byRowI x y = lowL (rowL x) (rowL y) := orL_low (rowL x) (rowL y) rfl
theorem recL_inj {x y : S33} (h : recL x = recL y) : x = y := by
  cases x; cases y
  simp [recL] at h
  simp [h]
theorem rowL_inj {x y : S38} (h : rowL x = rowL y) : x = y := by
  obtain ⟨a, ⟨b, c⟩, ⟨d, e⟩⟩ := x
  obtain ⟨a', ⟨b', c'⟩, ⟨d', e'⟩⟩ := y
  simp [rowL] at h
  simp [h]
theorem swo_of {α : Type} {lt : α → α → Bool} {f : α → List Int} {n : Nat} (hf : ∀ x, (f x).length = n) (h : ∀ x y, lt x y = lowL (f x) (f y)) : SWO lt where
  irrefl x := by rw [h]; exact lowL_irrefl _
  trans x y z a b := by rw [h] at *; exact lowL_trans _ _ _ a b
  ntrans x y z a b := by
    rw [h] at *
    cases c : lowL (f x) (f z) with
    | false => rfl
    | true =>
      cases d : lowL (f y) (f x) with
      | true => have := lowL_trans _ _ _ d c; rw [b] at this; exact absurd this (by simp)
      | false => rw [lowL_total _ _ (by rw [hf, hf]) a d] at c; rw [b] at c; exact absurd c (by simp)
theorem swoRec : SWO (ltOf byRecordI) := swo_of (n := 3) (fun _ => rfl) lt_rec
theorem swoRow : SWO (ltOf byRowI) := swo_of (n := 5) (fun _ => rfl) lt_row
theorem totRec (x y : S33) (h1 : ltOf byRecordI x y = false) (h2 : ltOf byRecordI y x = false) : x = y := by
  rw [lt_rec] at *
  exact recL_inj (lowL_total _ _ rfl h1 h2)
theorem totRow (x y : S38) (h1 : ltOf byRowI x y = false) (h2 : ltOf byRowI y x = false) : x = y := by
  rw [lt_row] at *
  exact rowL_inj (lowL_total _ _ rfl h1 h2)

def encRec (x : S33) : List Value := [.int .i64 x.f0, .int .i64 x.f1, .int .i64 x.f2]
def encRow (x : S38) : List Value := [.int .i64 x.f0, .int .i64 x.f1.f0, .int .i64 x.f1.f1, .int .i64 x.f2.f0, .int .i64 x.f2.f1]
instance : Inhabited S33 := ⟨z33⟩
instance : Inhabited S38 := ⟨z38⟩
theorem flatRec : Flat k33 encRec where
  M h := k33_openM h
  made w base ok x := k33_mkM w base ok x
  len _ := rfl
  one x v hv := by
    simp [encRec] at hv
    rcases hv with rfl | rfl | rfl <;> rfl
  pos := by decide
theorem flatRow : Flat k38 encRow where
  M h := k38_openM h
  made w base ok x := k38_mkM w base ok x
  len _ := rfl
  one x v hv := by
    simp [encRow] at hv
    rcases hv with rfl | rfl | rfl | rfl | rfl <;> rfl
  pos := by decide

theorem byRecord_calls (x y : S33) (W : World) : Calls Try.prog 82 #[.agg (encRec x).toArray, .agg (encRec y).toArray] W fun e w' => e = .returned (.int .i64 (byRecordI x y)) ∧ ∃ q os', w' = grow (W.drewN q) os' := by
  refine (byRecordG.calls 1000 x.f0 x.f1 x.f2 y.f0 y.f1 y.f2 (byRecordI x y) W ?_).mono ?_
  · unfold byRecord.f
    rw [cmp_f, cmp_f, cmp_f]
    simp only [Option.bind_some]
    rw [or_f _ (by simp)]
    rfl
  · rintro e w' ⟨rfl, hb, hd⟩
    exact ⟨rfl, grew_of hb hd⟩
theorem byRow85_calls (x y : S38) (W : World) : Calls Try.prog 85 #[.agg (encRow x).toArray, .agg (encRow y).toArray] W fun e w' => e = .returned (.int .i64 (byRowI x y)) ∧ Below W.heap.size W w' ∧ W.drawn ≤ w'.drawn := by
  refine byRowG.calls 1000 x.f0 x.f1.f0 x.f1.f1 x.f2.f0 x.f2.f1 y.f0 y.f1.f0 y.f1.f1 y.f2.f0 y.f2.f1 (byRowI x y) W ?_
  unfold byRow.f
  rw [cmp_f, cmp_f, cmp_f, cmp_f, cmp_f]
  simp only [Option.bind_some]
  rw [or_f _ (by simp)]
  rfl

/-- slices.SortFunc of a row of structs of the call's own, under a total order. -/
theorem sortGen {α : Type} [Inhabited α] {d : Kd α} {enc : α → List Value} (H : Flat d enc) {ρ : Go.Shelf.Ren} (L : SlLaysF0.n6 Try.prog ρ) (aE : ∀ w, (isAgg (ρ.t 24)).run Try.prog w = .ok true w) (zE : ∀ w, (Go.sizeOf (ρ.t 24)).run Try.prog w = .ok d.sz w)
    (cf : α → α → Int) (hO : SWO (ltOf cf)) (hT : ∀ x y, ltOf cf x y = false → ltOf cf y x = false → x = y) (f : FuncId) (cb : Array Value) (eg : ∀ args w, (callFunc f args).run Try.prog w = .ok (.enter f args) w)
    (e : Nat) (P0_ : Nat → Prop) (u9000_ : Value) (l0 : List α) (w0 w : World) (hcmp : ∀ g, P0_ g → g < w.heap.size → CmpLays Try.prog f cb enc d.sz cf g 0 l0.length w) (hB : Below w0.heap.size w0 w) (ho0 : Kd.R d e w w0.heap.size P0_ u9000_ l0) (hlen : l0.length < 4611686018427387904) :
    Calls Try.prog (ρ.f 6) #[u9000_, .func (.func f) #[] cb] w fun e_ w' => e_ = .returned (.tuple #[]) ∧ Kd.R d e w' w0.heap.size (fun k_ => (P0_ k_ ∨ w.heap.size ≤ k_)) u9000_ (l0.mergeSort fun x y => !(ltOf cf) y x) ∧ Below w0.heap.size w0 w' ∧ Kept w w' (fun k_ => P0_ k_) := by
  obtain ⟨A, c, rfl⟩ := Kd.R_slice ho0
  rcases Nat.eq_zero_or_pos l0.length with h0 | h0
  · have hnil : l0 = [] := List.length_eq_zero_iff.1 h0
    subst hnil
    refine (AnyF.slices_SortFunc_none L A c (.func (.func f) #[] cb) w).mono ?_
    rintro e w' ⟨rfl, rfl⟩
    exact ⟨rfl, by simpa using Kd.R_mono ho0 (fun _ hk => .inl hk), hB, Kept.refl _ _⟩
  · obtain ⟨g, cap, he, hbase, hlt, _⟩ := Kd.R_form ho0 h0
    injection he with ha _ hcap
    subst ha
    subst hcap
    obtain ⟨_, hH, _⟩ := holds_of_R H ho0
    have hP : P0_ g := ho0.1 g (by simp [Value.ownBlock])
    have hc := AnyQ.slices_SortFunc_total L d.sz aE zE enc H.len H.one cf hO f cb g 0 c l0.toArray w eg (by simpa using hcmp g hP hlt) hH hlt (by simpa using hlen) hT
    rw [List.size_toArray] at hc
    refine hc.mono ?_
    rintro e w' ⟨rfl, n, os, rfl⟩
    have hR := R_of_sort H ho0 (l0.mergeSort fun x y => !(ltOf cf) y x).toArray (by simp) n os (ok' := fun k_ => (P0_ k_ ∨ w.heap.size ≤ k_)) (fun _ hk => .inl hk)
    exact ⟨rfl, hR, below_sort hB g n _ d.sz os hbase, kept_sort g n _ d.sz os hP⟩
end Go.Proofs.Ytbeldjhpbomonaa.Si
