/- slices.SortFunc of spans by their starts: the row holds a permutation, in order; condition: fewer than 2^62 spans. -/
import Derived.Test.YtbeldjhpbomonaaSeC
import Derived.Test.YtbeldjhpbomonaaSB
import Derived.Test.YtbeldjhpbomonaaSortL
namespace Go.Proofs.Ytbeldjhpbomonaa.Se
open Go.RowKit Go.Sort Go.Proofs.YtbeldjhpbomonaaW.PrintWords Go.Proofs.YtbeldjhpbomonaaW.PrintLast Go.Proofs.YtbeldjhpbomonaaW.PrintMore Go.Proofs.YtbeldjhpbomonaaSB
set_option linter.unusedVariables false

instance : Inhabited S35 := ⟨z35⟩
def bySpan (x y : S35) : Int := cmpI x.f0 y.f0
def encSpan (x : S35) : List Value := [.int .i64 x.f0, .int .i64 x.f1]
theorem flatSpan : Flat k35 encSpan where
  M h := k35_openM h
  made w base ok x := k35_mkM w base ok x
  len _ := rfl
  one x v hv := by
    simp [encSpan] at hv
    rcases hv with rfl | rfl <;> rfl
  pos := by decide
theorem ltSpan (x y : S35) : ltOf bySpan x y = decide (x.f0 < y.f0) := by
  unfold ltOf bySpan cmpI
  by_cases h1 : x.f0 < y.f0
  · simp [h1]
  · by_cases h2 : y.f0 < x.f0 <;> simp [h1, h2]
theorem swoSpan : SWO (ltOf bySpan) where
  irrefl x := by rw [ltSpan]; simp
  trans x y z h1 h2 := by rw [ltSpan] at *; simp at *; omega
  ntrans x y z h1 h2 := by rw [ltSpan] at *; simp at *; omega

/-- What the sort makes of the spans: pdqsort, to the element. -/
def sortS (l : List S35) : List S35 := (pdq (ltOf bySpan) l.toArray 0 l.toArray.size (Lib.bitLen l.toArray.size) true true).toList
theorem sortS_spec (l : List S35) : PermIn 0 l.toArray.size l.toArray (sortS l).toArray ∧ SortedIn (ltOf bySpan) 0 l.toArray.size (sortS l).toArray := by
  have h := pdq_sorts (ltOf bySpan) swoSpan l.toArray 0 l.toArray.size (Lib.bitLen l.toArray.size) true true (Nat.zero_le _) (Nat.le_refl _) (Or.inl rfl)
  unfold sortS
  simpa using h
theorem sortS_length (l : List S35) : (sortS l).length = l.length := by
  have := (sortS_spec l).1.1
  simpa using this
theorem sortS_perm (l : List S35) : (sortS l).Perm l := by
  have h := (sortS_spec l).1.2.2
  have e1 : ((sortS l).toArray.extract 0 l.toArray.size).toList = sortS l := by
    simp [← sortS_length l]
  have e2 : (l.toArray.extract 0 l.toArray.size).toList = l := by simp
  rw [e1, e2] at h
  exact h
theorem sortS_sorted (l : List S35) : (sortS l).Pairwise fun a b => a.f0 ≤ b.f0 := by
  rw [List.pairwise_iff_getElem]
  intro i j hi hj hij
  have hl := sortS_length l
  have h := (sortS_spec l).2 i j (Nat.zero_le _) hij (by simp; omega)
  rw [ltSpan] at h
  have e1 : (sortS l).toArray[i]! = (sortS l)[i] := by simp [hi]
  have e2 : (sortS l).toArray[j]! = (sortS l)[j] := by simp [hj]
  rw [e1, e2] at h
  simpa using h

def sortSpan.f (l0 : List S35) : Option (List S35) := if l0.length < 4611686018427387904 then some (sortS l0) else none

theorem isAgg35 : ∀ w, (isAgg (Try.sortSpanL_ren.t 24)).run Try.prog w = .ok true w := fun w => by kernel_rfl
theorem sizeOf35 : ∀ w, (Go.sizeOf (Try.sortSpanL_ren.t 24)).run Try.prog w = .ok 2 w := fun w => by kernel_rfl

theorem cmpSpan (blk off size : Nat) (w : World) : CmpLays Try.prog 92 #[] encSpan 2 bySpan blk off size w :=
  fun _ _ _ _ x y => bySpan_calls x y _

theorem sortSpan.calls (P0_ : Nat → Prop) (u9000_ : Value) (l0 : List S35) (r : List S35) (w0 w : World) (hB : Below w0.heap.size w0 w) (ho0 : Kd.R k35 35 w w0.heap.size P0_ u9000_ l0) (h : sortSpan.f l0 = some r) :
    Calls Try.prog 91 #[u9000_, .func (.func 92) #[] #[]] w fun e w' => e = .returned (.tuple #[]) ∧ Kd.R k35 35 w' w0.heap.size (fun k_ => (P0_ k_ ∨ w.heap.size ≤ k_)) u9000_ r ∧ Below w0.heap.size w0 w' ∧ Kept w w' (fun k_ => P0_ k_) := by
  unfold sortSpan.f at h
  by_cases hlen : l0.length < 4611686018427387904
  · rw [if_pos hlen] at h
    obtain rfl := Option.some.inj h
    clear h
    obtain ⟨A, c, rfl⟩ := Kd.R_slice ho0
    rcases Nat.eq_zero_or_pos l0.length with h0 | h0
    · -- no element
      have hnil : l0 = [] := List.length_eq_zero_iff.1 h0
      subst hnil
      have hs : sortS [] = [] := List.length_eq_zero_iff.1 (by rw [sortS_length]; rfl)
      rw [hs]
      have hc := AnyF.slices_SortFunc_none Try.sortSpanL A c (.func (.func 92) #[] #[]) w
      change Calls Try.prog 91 _ _ _ at hc
      refine hc.mono ?_
      rintro e w' ⟨rfl, rfl⟩
      exact ⟨rfl, Kd.R_mono ho0 (fun _ hk => .inl hk), hB, Kept.refl _ _⟩
    · obtain ⟨g, cap, he, hbase, hlt, _⟩ := Kd.R_form ho0 h0
      injection he with ha _ hcap
      subst ha
      subst hcap
      obtain ⟨_, hH, _⟩ := holds_of_R flatSpan ho0
      have eg : ∀ args w, (callFunc 92 args).run Try.prog w = .ok (.enter 92 args) w := enters_of Try.func92 (by kernel_rfl) rfl
      have hc := AnyQ.slices_SortFunc_eq Try.sortSpanL 2 isAgg35 sizeOf35 encSpan (fun _ => rfl) flatSpan.one bySpan swoSpan 92 #[] g 0 c l0.toArray w eg (cmpSpan g 0 l0.toArray.size w) hH hlt (by simpa using hlen)
      change Calls Try.prog 91 _ _ _ at hc
      rw [List.size_toArray] at hc
      refine hc.mono ?_
      rintro e w' ⟨rfl, n, os, rfl⟩
      have hP : P0_ g := ho0.1 g (by simp [Value.ownBlock])
      have hsz : (sortS l0).toArray.size = l0.length := by simpa using sortS_length l0
      have hsort : pdq (ltOf bySpan) l0.toArray 0 l0.length (Lib.bitLen l0.length) true true = (sortS l0).toArray := by
        unfold sortS
        simp
      rw [hsort]
      have hR := R_of_sort flatSpan ho0 (sortS l0).toArray hsz n os (ok' := fun k_ => (P0_ k_ ∨ w.heap.size ≤ k_)) (fun _ hk => .inl hk)
      exact ⟨rfl, hR, below_sort hB g n _ 2 os hbase, kept_sort g n _ 2 os hP⟩
  · rw [if_neg hlen] at h
    exact absurd h (by simp)
end Go.Proofs.Ytbeldjhpbomonaa.Se
