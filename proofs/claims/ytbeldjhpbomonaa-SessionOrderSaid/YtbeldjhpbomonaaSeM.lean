/- SessionOrder over lists: times added one by one in the opposite order, and parts merged, give the sessions of all; the law's own guard: at most 60 times, a gap, where they are cut. -/
import Derived.Test.YtbeldjhpbomonaaSeF
import Derived.Test.YtbeldjhpbomonaaSeH
import Derived.Test.YtbeldjhpbomonaaSex13
namespace Go.Proofs.Ytbeldjhpbomonaa.Se
open Go.RowKit Go.Proofs.YtbeldjhpbomonaaW.PrintWords Go.Proofs.YtbeldjhpbomonaaW.PrintLast Go.Proofs.YtbeldjhpbomonaaW.PrintMore
set_option linter.unusedVariables false

theorem ord_merge {xs ys : List Int} {g : Int} (hg : okGap g) (zs : List Int) (hz : ∀ t, t ∈ zs ↔ t ∈ xs ∨ t ∈ ys) : mergeL (ofL xs g) (ofL ys g) = ofL zs g := by
  obtain ⟨h1, h2, h3, _⟩ := mergeL_fold (ofL ys g) (ofL xs g) (of_pos hg) (of_pos hg) (of_ord hg)
  refine sess_unique _ _ h1 h2 (of_pos hg) (of_ord hg) (fun q => ?_)
  rw [h3 q, cov_append, of_cov' hg, of_cov' hg, of_cov' hg]
  constructor
  · rintro (⟨t, ht, h⟩ | ⟨t, ht, h⟩)
    · exact ⟨t, (hz t).2 (.inl ht), h⟩
    · exact ⟨t, (hz t).2 (.inr ht), h⟩
  · rintro ⟨t, ht, h⟩
    rcases (hz t).1 ht with ht | ht
    · exact .inl ⟨t, ht, h⟩
    · exact .inr ⟨t, ht, h⟩
theorem ord_mergeR {xs ys : List Int} {g : Int} (hg : okGap g) (hx : ∀ t ∈ xs, okTime t) (hy : ∀ t ∈ ys, okTime t) (hxl : xs.length ≤ 60) (hyl : ys.length ≤ 60) (zs : List Int) (hz : ∀ t, t ∈ zs ↔ t ∈ xs ∨ t ∈ ys) : mergeR (ofL xs g) (ofL ys g) = (ofL zs g, 0) := by
  have h1 := of_right hg hx (by omega)
  have h2 := of_right hg hy (by omega)
  have hl1 := of_len (times := xs) hg
  have hl2 := of_len (times := ys) hg
  have h4 := (mergeL_fold (ofL ys g) (ofL xs g) (of_pos hg) (of_pos hg) (of_ord hg)).2.2.2
  unfold mergeR
  rw [if_pos ⟨h1, h2⟩, if_pos (by omega), ord_merge hg zs hz]

/-- What is there when the last times have been added. -/
structure OInv (xs : List Int) (g : Int) (i : Nat) (l : List S35) : Prop where
  right : RightP l
  cov : ∀ q, Cov l q ↔ ∃ t ∈ xs.drop i, 2 * t < q ∧ q < 2 * (t + g)
  len : l.length + i ≤ xs.length
theorem oinv_step {xs : List Int} {g : Int} (hg : okGap g) (ht : ∀ t ∈ xs, okTime t) (hl : xs.length ≤ 60) {i : Nat} (hi : i < xs.length) {l : List S35} (h : OInv xs g (i + 1) l) : addR l xs[i] g = (withL l xs[i] (xs[i] + g), 0) ∧ OInv xs g i (withL l xs[i] (xs[i] + g)) := by
  have hg' := hg
  unfold okGap at hg'
  have hpos : xs[i] < xs[i] + g := by omega
  have hp := right_pos h.right
  have ho := right_ord h.right
  have hti := ht xs[i] (List.getElem_mem _)
  have hlen := with_len hpos hp ho
  have hll := h.len
  have e : addR l xs[i] g = (withL l xs[i] (xs[i] + g), 0) := by
    unfold addR
    rw [if_pos h.right, if_pos ((checkC_zero _ _).2 ⟨hti, hg⟩), if_pos (by omega)]
  have hcov : ∀ q, Cov (withL l xs[i] (xs[i] + g)) q ↔ ∃ t ∈ xs.drop i, 2 * t < q ∧ q < 2 * (t + g) := fun q => by
    rw [with_cov hpos hp ho, h.cov q, List.drop_eq_getElem_cons hi]
    simp only [List.mem_cons, exists_eq_or_imp]
    exact or_comm
  -- the same sessions as Of gives
  have hof : withL l xs[i] (xs[i] + g) = ofL (xs.drop i) g := sess_unique _ _ (with_pos hpos hp ho) (with_ord hpos hp ho) (of_pos hg) (of_ord hg) (fun q => by rw [hcov q, of_cov' hg])
  refine ⟨e, ?_, hcov, by omega⟩
  rw [hof]
  exact of_right hg (fun t h => ht t (List.mem_of_mem_drop h)) (by simp; omega)

theorem order_l0 (xs : List Int) (g : Int) (hg : okGap g) (ht : ∀ t ∈ xs, okTime t) (hl : xs.length ≤ 60) (cut : Nat) (hc : cut ≤ xs.length) : ∀ (i : Nat) (l : List S35), i ≤ xs.length → OInv xs g i l →
    Ev (fun k => tailwaterlaw15_SessionOrder.l0 k xs g (cut : Int) true (ofL xs g) l ((i : Int) - 1)) true := by
  intro i
  induction i with
  | zero =>
    intro l hi h
    have el : l = ofL xs g := sess_unique _ _ (right_pos h.right) (right_ord h.right) (of_pos hg) (of_ord hg) (fun q => by rw [h.cov q, of_cov' hg, List.drop_zero])
    have hta : ∀ t ∈ xs.take cut, okTime t := fun t h => ht t (List.mem_of_mem_take h)
    have htd : ∀ t ∈ xs.drop cut, okTime t := fun t h => ht t (List.mem_of_mem_drop h)
    have hla : (xs.take cut).length ≤ 60 := by simp; omega
    have hld : (xs.drop cut).length ≤ 60 := by simp; omega
    have hmem : ∀ t, t ∈ xs ↔ t ∈ xs.take cut ∨ t ∈ xs.drop cut := fun t => by
      conv => lhs; rw [← List.take_append_drop cut xs]
      exact List.mem_append
    have hm1 := ord_mergeR hg hta htd hla hld xs hmem
    have hm2 := ord_mergeR hg htd hta hld hla xs (fun t => (hmem t).trans or_comm)
    have l1 := of_len (times := xs.take cut) hg
    have l2 := of_len (times := xs.drop cut) hg
    have l3 := of_len (times := xs) hg
    have same : ∀ a : List S35, a.length ≤ 60 → Ev (fun k => tailwaterref14_Same.f k a a) true := fun a ha => ⟨100, fun k hk => by
      show tailwaterref14_Same.f k a a = _
      rw [same_f _ _ (by omega) k (by omega)]
      simp⟩
    have hs := same (ofL xs g) (by omega)
    refine Ev.step (f := fun k => (session_Of.f k (xs.take cut) g).bind fun bt467 => ((session_Of.f k (xs.drop cut) g).bind fun bt472 => ((session_Merge.f k bt467.1 bt472.1).bind fun bt476 => ((session_Merge.f k bt472.1 bt467.1).bind fun bt480 => ((tailwaterref14_Same.f k l (ofL xs g)).bind fun t484 => (if t484 = true then (if bt467.2 = 0 then (if bt472.2 = 0 then (if bt476.2 = 0 then (if bt480.2 = 0 then ((tailwaterref14_Same.f k bt476.1 (ofL xs g)).bind fun t485 => (if t485 = true then ((tailwaterref14_Same.f k bt480.1 (ofL xs g)).bind fun t486 => (some t486)) else (some false))) else (some false)) else (some false)) else (some false)) else (some false)) else (some false))))))) (fun k => ?_) ?_
    · simp only [tailwaterlaw15_SessionOrder.l0]
      rw [if_neg (by omega), if_pos (by omega), if_pos (by omega), Int.toNat_natCast]
      rfl
    · refine Ev.bind (of_ev hg hta hla) ?_
      refine Ev.bind (of_ev hg htd hld) ?_
      refine Ev.bind (a := (ofL xs g, 0)) ⟨1000, fun k hk => ?_⟩ ?_
      · show session_Merge.f k (ofL (xs.take cut) g) (ofL (xs.drop cut) g) = _
        rw [merge_f _ _ (by omega) (by omega) k (by omega), hm1]
      refine Ev.bind (a := (ofL xs g, 0)) ⟨1000, fun k hk => ?_⟩ ?_
      · show session_Merge.f k (ofL (xs.drop cut) g) (ofL (xs.take cut) g) = _
        rw [merge_f _ _ (by omega) (by omega) k (by omega), hm2]
      rw [el]
      refine Ev.bind hs ?_
      refine Ev.congr (f := fun k => (tailwaterref14_Same.f k (ofL xs g) (ofL xs g)).bind fun t485 => (if t485 = true then ((tailwaterref14_Same.f k (ofL xs g) (ofL xs g)).bind fun t486 => (some t486)) else (some false))) (fun k => by simp) ?_
      refine Ev.bind hs ?_
      refine Ev.congr (f := fun k => (tailwaterref14_Same.f k (ofL xs g) (ofL xs g)).bind fun t486 => (some t486)) (fun k => by simp) ?_
      exact Ev.bind hs (Ev.now true)
  | succ i ih =>
    intro l hi h
    have hlt : i < xs.length := by omega
    obtain ⟨e, h'⟩ := oinv_step hg ht hl hlt h
    have hw : wrap64 ((i : Int) - 1) = (i : Int) - 1 := wrap_small _ (by omega) (by omega)
    have hll := h.len
    refine Ev.step (f := fun k => (session_Add.f k l xs[i] g).bind fun bt462 => (if bt462.2 = 0 then (tailwaterlaw15_SessionOrder.l0 k xs g (cut : Int) true (ofL xs g) bt462.1 (wrap64 ((i : Int) - 1))) else (some false))) (fun k => ?_) ?_
    · have ei : (((i + 1 : Nat) : Int) - 1) = (i : Int) := by omega
      simp only [tailwaterlaw15_SessionOrder.l0]
      rw [ei, if_pos (by omega), if_pos (by omega), if_pos (by omega), rdI_at xs i hlt]
    · refine Ev.bind (a := (withL l xs[i] (xs[i] + g), 0)) ⟨1000, fun k hk => ?_⟩ ?_
      · show session_Add.f k l xs[i] g = _
        rw [add_f _ _ _ (by omega) k (by omega), e]
      · rw [hw]
        exact Ev.congr (fun k => if_pos rfl) (ih _ (by omega) h')

theorem SessionOrder_pure : tailwaterlaw15_SessionOrder.Pure := by
  intro xs g cut _ _ _ _ _
  refine Ev.rounds ?_
  unfold tailwaterlaw15_SessionOrder.f
  refine Ev.bind alive_ev ?_
  obtain ⟨r, h1, h2⟩ := few_ev xs g
  refine Ev.bind h1 ?_
  have stop : Ev (fun k => tailwaterlaw15_SessionOrder.j0 k xs g cut true true) true := by
    refine Ev.step (f := fun _ => some true) (fun k => ?_) (Ev.now true)
    simp [tailwaterlaw15_SessionOrder.j0]
  cases r with
  | false => exact Ev.congr (fun k => by simp) stop
  | true =>
    obtain ⟨hl, hg, ht⟩ := h2 rfl
    by_cases c1 : cut < 0
    · exact Ev.congr (fun k => by rw [if_pos rfl, if_pos c1]) stop
    by_cases c2 : cut > (xs.length : Int)
    · exact Ev.congr (fun k => by rw [if_pos rfl, if_neg c1, if_pos c2]) stop
    obtain ⟨n, rfl⟩ := Int.eq_ofNat_of_zero_le (show 0 ≤ cut by omega)
    have h0 : OInv xs g xs.length [] := ⟨⟨by simp, fun s hs => by simp at hs, List.Pairwise.nil⟩, fun q => by simp [Cov], by simp⟩
    have hfin := order_l0 xs g hg ht hl n (by omega) xs.length [] (Nat.le_refl _) h0
    refine Ev.step (f := fun k => (session_Of.f k xs g).bind fun bt457 => (if bt457.2 = 0 then (tailwaterlaw15_SessionOrder.l0 k xs g (n : Int) true bt457.1 ([] : List (S35)) (wrap64 ((xs.length : Int) - 1))) else (some false))) (fun k => ?_) ?_
    · rw [if_pos rfl, if_neg c1, if_neg c2]
      simp only [tailwaterlaw15_SessionOrder.j0]
      rw [if_neg (by simp)]
    · refine Ev.bind (of_ev hg ht hl) ?_
      rw [show wrap64 ((xs.length : Int) - 1) = (xs.length : Int) - 1 from wrap_small _ (by omega) (by omega)]
      exact Ev.congr (fun k => if_pos rfl) hfin
end Go.Proofs.Ytbeldjhpbomonaa.Se
