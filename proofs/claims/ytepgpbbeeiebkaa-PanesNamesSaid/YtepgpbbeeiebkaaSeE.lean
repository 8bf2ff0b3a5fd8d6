/- The closure by which panes.Values sorts entries: by the end, then by the key; and the sort by it; no condition but the row's length. -/
import Derived.Test.YtepgpbbeeiebkaaSeC
import Derived.Test.YtepgpbbeeiebkaaSB
import Derived.Test.YtepgpbbeeiebkaaSortL
import Derived.Test.YtepgpbbeeiebkaaStx6
import Derived.StillTailTactics
namespace Go.Proofs.Ytepgpbbeeiebkaa.St
open Go.RowKit Go.Sort Go.Proofs.YtepgpbbeeiebkaaW.PrintWords Go.Proofs.YtepgpbbeeiebkaaW.PrintLast Go.Proofs.YtepgpbbeeiebkaaW.PrintMore Go.Proofs.YtepgpbbeeiebkaaSB
set_option linter.unusedVariables false
set_option linter.unusedSimpArgs false

def byE (x y : S39) : Int := if cmpI x.f1.f1 y.f1.f1 ≠ 0 then cmpI x.f1.f1 y.f1.f1 else cmpI x.f0 y.f0
theorem or_two (a b : Int) : cmp_Or_int.f 4 [a, b] = some (if a ≠ 0 then a else b) := by
  have e0 : Go.Proofs.YtepgpbbeeiebkaaW.PrintWords.rd [a, b] 0 = a := rfl
  have e1 : Go.Proofs.YtepgpbbeeiebkaaW.PrintWords.rd [a, b] 1 = b := rfl
  have w1 : wrap64 (0 + 1) = 1 := by unfold wrap64; omega
  have w2 : wrap64 (1 + 1) = 2 := by unfold wrap64; omega
  show cmp_Or_int.l0 4 0 [a, b] 2 0 = _
  simp only [cmp_Or_int.l0, List.length_cons, List.length_nil, e0, e1, w1, w2]
  by_cases ha : a = 0
  · by_cases hb : b = 0
    · simp [ha, hb]
    · simp [ha, hb]
  · simp [ha]
theorem two_C {W : World} {g : Nat} {r1 r2 : Int} (h : W.heap[g]? = some (.cells #[.int .i64 r1, .int .i64 r2] 3 (0, 0))) : Kd.C (Kd.int .i64) W (some ⟨g, 0, none⟩) 2 [r1, r2] := by
  refine ⟨rfl, by omega, fun _ => ⟨_, rfl, fun j p hj => ?_⟩⟩
  have hb := fun j => blk_cell h j
  match j, hj with
  | 0, hj =>
    cases hj
    refine ⟨[.int .i64 r1], rfl, rfl, fun q u hq => ?_⟩
    match q, hq with
    | 0, hq => cases hq; exact (hb 0).trans rfl
  | 1, hj =>
    cases hj
    refine ⟨[.int .i64 r2], rfl, rfl, fun q u hq => ?_⟩
    match q, hq with
    | 0, hq => cases hq; exact (hb 1).trans rfl
set_option maxHeartbeats 4000000 in
set_option maxRecDepth 100000 in
theorem byE_calls (x0 x1 x2 x3 x4 x5 x6 x7 x8 x9 x10 y0 y1 y2 y3 y4 y5 y6 y7 y8 y9 y10 : Int) (W : World) :
    Calls Try.prog 64 #[.agg #[.int .i64 x0, .int .i64 x1, .int .i64 x2, .int .i64 x3, .int .i64 x4, .int .i64 x5, .int .i64 x6, .int .i64 x7, .int .i64 x8, .int .i64 x9, .int .i64 x10], .agg #[.int .i64 y0, .int .i64 y1, .int .i64 y2, .int .i64 y3, .int .i64 y4, .int .i64 y5, .int .i64 y6, .int .i64 y7, .int .i64 y8, .int .i64 y9, .int .i64 y10]] W fun e w' => e = .returned (.int .i64 (if cmpI x2 y2 ≠ 0 then cmpI x2 y2 else cmpI x0 y0)) ∧ ∃ q os', w' = grow (W.drewN q) os' := by
  have hc1 := fun W' => compare_calls x2 y2 W'
  have hc2 := fun W' => compare_calls x0 y0 W'
  generalize cmpI x2 y2 = r1 at hc1 ⊢
  generalize cmpI x0 y0 = r2 at hc2 ⊢
  have HC1 := Aside0.mk hc1
  have HC2 := Aside0.mk hc2
  have ho := or_two r1 r2
  obtain ⟨r, hr⟩ : ∃ r, r = (if r1 ≠ 0 then r1 else r2) := ⟨_, rfl⟩
  rw [← hr] at ho ⊢
  have HO := Aside0.mk ho
  clear hc1 hc2 ho hr
  go_enter Try.func64, Try.ntmps64
  go_wp2_with fail
  obtain ⟨W1, hW1⟩ : ∃ W1, (W.alloc (.cells #[.int .i64 x0, .int .i64 x1, .int .i64 x2, .int .i64 x3, .int .i64 x4, .int .i64 x5, .int .i64 x6, .int .i64 x7, .int .i64 x8, .int .i64 x9, .int .i64 x10] 39)).alloc (.cells #[.int .i64 y0, .int .i64 y1, .int .i64 y2, .int .i64 y3, .int .i64 y4, .int .i64 y5, .int .i64 y6, .int .i64 y7, .int .i64 y8, .int .i64 y9, .int .i64 y10] 39) = W1 := ⟨_, rfl⟩
  have hsz : W1.heap.size = W.heap.size + 2 := by rw [← hW1]; simp
  have hgr : W1 = grow W #[.cells #[.int .i64 x0, .int .i64 x1, .int .i64 x2, .int .i64 x3, .int .i64 x4, .int .i64 x5, .int .i64 x6, .int .i64 x7, .int .i64 x8, .int .i64 x9, .int .i64 x10] 39 (0, 0), .cells #[.int .i64 y0, .int .i64 y1, .int .i64 y2, .int .i64 y3, .int .i64 y4, .int .i64 y5, .int .i64 y6, .int .i64 y7, .int .i64 y8, .int .i64 y9, .int .i64 y10] 39 (0, 0)] := by
    rw [← hW1, alloc_eq_grow, alloc_eq_grow, grow_grow]; rfl
  have hbx : W1.heap[W.heap.size]? = some (.cells #[.int .i64 x0, .int .i64 x1, .int .i64 x2, .int .i64 x3, .int .i64 x4, .int .i64 x5, .int .i64 x6, .int .i64 x7, .int .i64 x8, .int .i64 x9, .int .i64 x10] 39 (0, 0)) := by
    rw [← hW1]; exact blk_alloc (blk_new W _) _
  have hby : W1.heap[W.heap.size + 1]? = some (.cells #[.int .i64 y0, .int .i64 y1, .int .i64 y2, .int .i64 y3, .int .i64 y4, .int .i64 y5, .int .i64 y6, .int .i64 y7, .int .i64 y8, .int .i64 y9, .int .i64 y10] 39 (0, 0)) := by
    have := blk_new (W.alloc (.cells #[.int .i64 x0, .int .i64 x1, .int .i64 x2, .int .i64 x3, .int .i64 x4, .int .i64 x5, .int .i64 x6, .int .i64 x7, .int .i64 x8, .int .i64 x9, .int .i64 x10] 39)) (.cells #[.int .i64 y0, .int .i64 y1, .int .i64 y2, .int .i64 y3, .int .i64 y4, .int .i64 y5, .int .i64 y6, .int .i64 y7, .int .i64 y8, .int .i64 y9, .int .i64 y10] 39 (0, 0))
    rw [World.size_alloc, hW1] at this
    exact this
  rw [hW1]
  have hx2 : W1.cell? ⟨W.heap.size, 2, none⟩ = some (.int .i64 x2) := (blk_cell hbx 2).trans rfl
  have hx0 : W1.cell? ⟨W.heap.size, 0, none⟩ = some (.int .i64 x0) := (blk_cell hbx 0).trans rfl
  have hy2 : W1.cell? ⟨W.heap.size + 1, 2, none⟩ = some (.int .i64 y2) := (blk_cell hby 2).trans rfl
  have hy0 : W1.cell? ⟨W.heap.size + 1, 0, none⟩ = some (.int .i64 y0) := (blk_cell hby 0).trans rfl
  have HG := Aside0.mk hgr
  clear hW1 hgr hbx hby hsz
  go_still_tail 12, (by kernel_rfl)
  refine wpStill_step (fun K hK => ?_)
  go_simp
  refine ⟨_, ((HC1.out _).mono (by rintro e w' ⟨rfl, rfl⟩; exact ⟨rfl, rfl⟩)), hK _ ?_⟩
  clear hK K
  repeat still_step
  refine wpStill_step (fun K hK => ?_)
  go_simp
  refine ⟨_, ((HC2.out _).mono (by rintro e w' ⟨rfl, rfl⟩; exact ⟨rfl, rfl⟩)), hK _ ?_⟩
  clear hK K
  refine wpStill_nil ?_
  change wpList _ _ _ _ _ W1.drew
  clear hx0 hx2 hy0 hy2 HC1 HC2
  have hC := two_C (r1 := r1) (r2 := r2) (blk_new W1.drew (.cells #[.int .i64 r1, .int .i64 r2] 3 (0, 0)))
  have HC := Aside0.mk hC
  clear hC
  go_wp2_with ((with_reducible refine gate_callee (f := 65) rfl ?_); refine goesL_ (some 18) rfl rfl Try.func65 (by kernel_rfl) rfl #[.slice (some ⟨W1.heap.size, 0, none⟩) 2 2] rfl (by (try simp only [List.map_toArray, List.map_cons, List.map_nil]); first | done | rfl | (simp only [List.length_drop, List.length_take]; rfl)) ?_; (refine (cmp_Or_int.calls 4 _ 2 [r1, r2] _ _ HC.out (Nat.le_refl _) HO.out).mono ?_); rintro e w' ⟨rfl, ⟨m, rfl⟩⟩; refine ⟨_, rfl, ?_⟩)
  go_ret
  exact ⟨rfl, 1 + m, _, by rw [HG.out, alloc_eq_grow, grow_grow]; rfl⟩

instance : Inhabited S39 := ⟨z39⟩
def encEn (x : S39) : List Value := [.int .i64 x.f0, .int .i64 x.f1.f0, .int .i64 x.f1.f1, .int .i64 x.f2.f0.f0, .int .i64 x.f2.f0.f1, .int .i64 x.f2.f0.f2, .int .i64 x.f2.f0.f3, .int .i64 x.f2.f1.f0, .int .i64 x.f2.f1.f1, .int .i64 x.f2.f1.f2, .int .i64 x.f2.f1.f3]
theorem flatEn : Flat k39 encEn where
  M h := k39_openM h
  made w base ok x := k39_mkM w base ok x
  len _ := rfl
  one x v hv := by
    simp [encEn] at hv
    rcases hv with rfl | rfl | rfl | rfl | rfl | rfl | rfl | rfl | rfl | rfl | rfl <;> rfl
  pos := by decide
theorem ltEn (x y : S39) : ltOf byE x y = (decide (x.f1.f1 < y.f1.f1) || (decide (x.f1.f1 = y.f1.f1) && decide (x.f0 < y.f0))) := by
  unfold ltOf byE cmpI
  by_cases h1 : x.f1.f1 < y.f1.f1
  · simp [h1]
  · by_cases h2 : y.f1.f1 < x.f1.f1
    · have : ¬ x.f1.f1 = y.f1.f1 := by omega
      simp [h1, h2, this]
    · have h3 : x.f1.f1 = y.f1.f1 := by omega
      by_cases h4 : x.f0 < y.f0
      · simp [h3, h4]
      · by_cases h5 : y.f0 < x.f0 <;> simp [h3, h4, h5]
theorem swoEn : SWO (ltOf byE) where
  irrefl x := by rw [ltEn]; simp
  trans x y z h1 h2 := by
    rw [ltEn] at *
    simp only [Bool.or_eq_true, Bool.and_eq_true, decide_eq_true_eq] at *
    omega
  ntrans x y z h1 h2 := by
    rw [ltEn] at *
    simp only [Bool.or_eq_false_iff, Bool.and_eq_false_iff, decide_eq_false_iff_not] at *
    omega
/-- What the sort makes of the entries. -/
def sortEn (l : List S39) : List S39 := (pdq (ltOf byE) l.toArray 0 l.toArray.size (Lib.bitLen l.toArray.size) true true).toList
theorem sortEn_spec (l : List S39) : PermIn 0 l.toArray.size l.toArray (sortEn l).toArray ∧ SortedIn (ltOf byE) 0 l.toArray.size (sortEn l).toArray := by
  have h := pdq_sorts (ltOf byE) swoEn l.toArray 0 l.toArray.size (Lib.bitLen l.toArray.size) true true (Nat.zero_le _) (Nat.le_refl _) (Or.inl rfl)
  unfold sortEn
  simpa using h
theorem sortEn_length (l : List S39) : (sortEn l).length = l.length := by
  have := (sortEn_spec l).1.1
  simpa using this
theorem sortEn_perm (l : List S39) : (sortEn l).Perm l := by
  have h := (sortEn_spec l).1.2.2
  have e1 : ((sortEn l).toArray.extract 0 l.toArray.size).toList = sortEn l := by simp [← sortEn_length l]
  have e2 : (l.toArray.extract 0 l.toArray.size).toList = l := by simp
  rw [e1, e2] at h
  exact h
theorem sortEn_sorted (l : List S39) : (sortEn l).Pairwise fun a b => ltOf byE b a = false := by
  rw [List.pairwise_iff_getElem]
  intro i j hi hj hij
  have hl := sortEn_length l
  have h := (sortEn_spec l).2 i j (Nat.zero_le _) hij (by simp; omega)
  have e1 : (sortEn l).toArray[i]! = (sortEn l)[i] := by simp [hi]
  have e2 : (sortEn l).toArray[j]! = (sortEn l)[j] := by simp [hj]
  rw [e1, e2] at h
  exact h
theorem isAgg39 : ∀ w, (isAgg (Try.sortEntryL_ren.t 24)).run Try.prog w = .ok true w := fun w => by kernel_rfl
theorem sizeOf39 : ∀ w, (Go.sizeOf (Try.sortEntryL_ren.t 24)).run Try.prog w = .ok 11 w := fun w => by kernel_rfl
theorem cmpEn (blk off size : Nat) (w : World) : CmpLays Try.prog 64 #[] encEn 11 byE blk off size w :=
  fun _ _ _ _ x y => byE_calls x.f0 x.f1.f0 x.f1.f1 x.f2.f0.f0 x.f2.f0.f1 x.f2.f0.f2 x.f2.f0.f3 x.f2.f1.f0 x.f2.f1.f1 x.f2.f1.f2 x.f2.f1.f3 y.f0 y.f1.f0 y.f1.f1 y.f2.f0.f0 y.f2.f0.f1 y.f2.f0.f2 y.f2.f0.f3 y.f2.f1.f0 y.f2.f1.f1 y.f2.f1.f2 y.f2.f1.f3 _
theorem sortEn_calls (P0_ : Nat → Prop) (u9000_ : Value) (l0 : List S39) (w0 w : World) (hB : Below w0.heap.size w0 w) (ho0 : Kd.R k39 39 w w0.heap.size P0_ u9000_ l0) (hlen : l0.length < 4611686018427387904) :
    Calls Try.prog 63 #[u9000_, .func (.func 64) #[] #[]] w fun e w' => e = .returned (.tuple #[]) ∧ Kd.R k39 39 w' w0.heap.size (fun k_ => (P0_ k_ ∨ w.heap.size ≤ k_)) u9000_ (sortEn l0) ∧ Below w0.heap.size w0 w' := by
  obtain ⟨A, c, rfl⟩ := Kd.R_slice ho0
  rcases Nat.eq_zero_or_pos l0.length with h0 | h0
  · have hnil : l0 = [] := List.length_eq_zero_iff.1 h0
    subst hnil
    have hs : sortEn [] = [] := List.length_eq_zero_iff.1 (by rw [sortEn_length]; rfl)
    rw [hs]
    have hc := AnyF.slices_SortFunc_none Try.sortEntryL A c (.func (.func 64) #[] #[]) w
    change Calls Try.prog 63 _ _ _ at hc
    refine hc.mono ?_
    rintro e w' ⟨rfl, rfl⟩
    exact ⟨rfl, Kd.R_mono ho0 (fun _ hk => .inl hk), hB⟩
  · obtain ⟨g, cap, he, hbase, hlt, _⟩ := Kd.R_form ho0 h0
    injection he with ha _ hcap
    subst ha
    subst hcap
    obtain ⟨_, hH, _⟩ := holds_of_R flatEn ho0
    have eg : ∀ args w, (callFunc 64 args).run Try.prog w = .ok (.enter 64 args) w := enters_of Try.func64 (by kernel_rfl) rfl
    have hc := AnyQ.slices_SortFunc_eq Try.sortEntryL 11 isAgg39 sizeOf39 encEn (fun _ => rfl) flatEn.one byE swoEn 64 #[] g 0 c l0.toArray w eg (cmpEn g 0 l0.toArray.size w) hH hlt (by simpa using hlen)
    change Calls Try.prog 63 _ _ _ at hc
    rw [List.size_toArray] at hc
    refine hc.mono ?_
    rintro e w' ⟨rfl, n, os, rfl⟩
    have hsz : (sortEn l0).toArray.size = l0.length := by simpa using sortEn_length l0
    have hsort : pdq (ltOf byE) l0.toArray 0 l0.length (Lib.bitLen l0.length) true true = (sortEn l0).toArray := by
      unfold sortEn
      simp
    rw [hsort]
    have hR := R_of_sort flatEn ho0 (sortEn l0).toArray hsz n os (ok' := fun k_ => (P0_ k_ ∨ w.heap.size ≤ k_)) (fun _ hk => .inl hk)
    exact ⟨rfl, hR, below_sort hB g n _ 11 os hbase⟩
end Go.Proofs.Ytepgpbbeeiebkaa.St
