/- sink.AllRows, sink.AllLate: the list sorted, in a row of the call's own; condition: the length that a list of its own may have. -/
import Derived.Test.YtbeldjhpbomonaaSiD
import Derived.Test.YtbeldjhpbomonaaSix10
namespace Go.Proofs.Ytbeldjhpbomonaa.Si
open Go.RowKit Go.Sort Go.Proofs.YtbeldjhpbomonaaW.PrintWords Go.Proofs.YtbeldjhpbomonaaW.PrintLast Go.Proofs.YtbeldjhpbomonaaW.PrintMore Go.Proofs.YtbeldjhpbomonaaSB
set_option linter.unusedVariables false
set_option linter.unnecessarySimpa false

def sortLate (l : List S33) : List S33 := l.mergeSort fun x y => !(ltOf byRecordI) y x
def sortRows (l : List S38) : List S38 := l.mergeSort fun x y => !(ltOf byRowI) y x
def sink_AllLate.f (l0 : List S33) : Option (List S33) := (cloneRecord.f l0).bind fun t => if t.length < 4611686018427387904 then some (sortLate t) else none
def sink_AllRows.f (l0 : List S38) : Option (List S38) := (cloneRow.f l0).bind fun t => if t.length < 4611686018427387904 then some (sortRows t) else none

theorem isAgg33 : ∀ w, (isAgg (Try.sortRecordL_ren.t 24)).run Try.prog w = .ok true w := fun w => by kernel_rfl
theorem sizeOf33 : ∀ w, (Go.sizeOf (Try.sortRecordL_ren.t 24)).run Try.prog w = .ok 3 w := fun w => by kernel_rfl
theorem isAgg38 : ∀ w, (isAgg (Try.sortRowL_ren.t 24)).run Try.prog w = .ok true w := fun w => by kernel_rfl
theorem sizeOf38 : ∀ w, (Go.sizeOf (Try.sortRowL_ren.t 24)).run Try.prog w = .ok 5 w := fun w => by kernel_rfl

theorem sortRecord_calls (P0_ : Nat → Prop) (u : Value) (l0 : List S33) (w0 w : World) (hB : Below w0.heap.size w0 w) (ho0 : Kd.R k33 33 w w0.heap.size P0_ u l0) (hlen : l0.length < 4611686018427387904) :
    Calls Try.prog 108 #[u, .func (.func 82) #[] #[]] w fun e_ w' => e_ = .returned (.tuple #[]) ∧ Kd.R k33 33 w' w0.heap.size (fun k_ => (P0_ k_ ∨ w.heap.size ≤ k_)) u (sortLate l0) ∧ Below w0.heap.size w0 w' ∧ Kept w w' (fun k_ => P0_ k_) :=
  sortGen flatRec Try.sortRecordL isAgg33 sizeOf33 byRecordI swoRec totRec 82 #[] (enters_of Try.func82 (by kernel_rfl) rfl) 33 P0_ u l0 w0 w (fun g _ _ _ _ _ _ x y => byRecord_calls x y _) hB ho0 hlen

set_option maxHeartbeats 4000000 in
set_option maxRecDepth 100000 in
/-- The closure by which rows are sorted: it reads the function that its cell holds. -/
theorem byRow_calls (x y : S38) (p : Nat) (W : World) (hp : W.heap[p]? = some (.cells #[.func (.func 85) #[] #[]] 127 (0, 0))) : Calls Try.prog 87 #[.agg (encRow x).toArray, .agg (encRow y).toArray, .pointer (some ⟨p, 0, none⟩)] W fun e w' => e = .returned (.int .i64 (byRowI x y)) ∧ ∃ q os', w' = grow (W.drewN q) os' := by
  have hlt : p < W.heap.size := (Array.getElem?_eq_some_iff.1 hp).1
  have hc := fun W' => byRow85_calls x y W'
  generalize byRowI x y = r at hc ⊢
  have HC := Aside0.mk hc
  have hcell : W.cell? ⟨p, 0, none⟩ = some (.func (.func 85) #[] #[]) := by unfold World.cell?; simp [hp]
  clear hc hp
  unfold encRow at HC ⊢
  go_enter Try.func87, Try.ntmps87
  go_wp2_with (first | (go_at_call 85; refine (HC.out _).mono ?_; rintro e w' ⟨rfl, hb, hd⟩))
  go_ret
  refine ⟨rfl, grew_of ?_ ?_⟩
  · exact below_step (by repeat (first | exact Below.refl _ _ | apply below_alloc)) hb
  · exact Nat.le_trans (Nat.le_refl _) hd

theorem sortRow_calls (p : Nat) (P0_ : Nat → Prop) (u : Value) (l0 : List S38) (w0 w : World) (hp : w.heap[p]? = some (.cells #[.func (.func 85) #[] #[]] 127 (0, 0))) (hP : ¬ P0_ p) (hB : Below w0.heap.size w0 w) (ho0 : Kd.R k38 38 w w0.heap.size P0_ u l0) (hlen : l0.length < 4611686018427387904) :
    Calls Try.prog 110 #[u, .func (.func 87) #[] #[.pointer (some ⟨p, 0, none⟩)]] w fun e_ w' => e_ = .returned (.tuple #[]) ∧ Kd.R k38 38 w' w0.heap.size (fun k_ => (P0_ k_ ∨ w.heap.size ≤ k_)) u (sortRows l0) ∧ Below w0.heap.size w0 w' ∧ Kept w w' (fun k_ => P0_ k_) :=
  sortGen flatRow Try.sortRowL isAgg38 sizeOf38 byRowI swoRow totRow 87 #[.pointer (some ⟨p, 0, none⟩)] (enters_of Try.func87 (by kernel_rfl) rfl) 38 P0_ u l0 w0 w
    (fun g hg hlt m os dk _ x y => byRow_calls x y p _ (by rw [heap_sort (enc := encRow) w g m dk k38.sz os p (Array.getElem?_eq_some_iff.1 hp).1 (fun e => hP (e ▸ hg))]; exact hp)) hB ho0 hlen

set_option maxHeartbeats 4000000 in
set_option maxRecDepth 100000 in
theorem sortedRecord_calls (A0 : Option Addr) (c0 : Nat) (l0 : List S33) (r : List S33) (w : World) (hr0 : Kd.C k33 w A0 l0.length l0) (hc0 : l0.length ≤ c0) (h : sink_AllLate.f l0 = some r) :
    Calls Try.prog 81 #[.slice A0 l0.length c0, .func (.func 82) #[] #[]] w fun e w' => ∃ v0_ : Value, e = .returned (v0_) ∧ Kd.R k33 33 w' w.heap.size (fun _ => True) v0_ r ∧ Below w.heap.size w w' := by
  unfold sink_AllLate.f at h
  obtain ⟨t, ht, h⟩ := Option.bind_eq_some_iff.mp h
  by_cases hlen : t.length < 4611686018427387904
  · rw [if_pos hlen] at h
    obtain rfl := Option.some.inj h
    clear h
    have HR0 := Aside0.mk hr0
    have HC0 := Aside0.mk hc0
    have A2 := Aside0.mk ht
    have HL := Aside0.mk hlen
    clear hr0 hc0 ht hlen
    go_enter Try.func81, Try.ntmps81
    go_wp2_with (first | (go_at_call 103; refine (cloneRecord.calls _ _ l0 t _ HR0.out HC0.out A2.out).mono ?_; rintro e w4 ⟨v108, rfl, ho0, hb⟩; have HO := Aside0.mk ho0; have HB := Aside0.mk hb; clear ho0 hb) | (go_at_call 108; refine (sortRecord_calls (fun _ => True) _ t w _ HB.out HO.out HL.out).mono ?_; rintro e w6 ⟨rfl, hy0, hb, hkp⟩; have HO2 := Aside0.mk hy0; have HB2 := Aside0.mk hb; clear hy0 hb hkp))
    go_ret
    exact ⟨_, rfl, Kd.R_mono HO2.out (fun _ _ => trivial), HB2.out⟩
  · rw [if_neg hlen] at h
    exact absurd h (by simp)

set_option maxHeartbeats 4000000 in
set_option maxRecDepth 100000 in
theorem sortedRow_calls (p : Nat) (A0 : Option Addr) (c0 : Nat) (l0 : List S38) (r : List S38) (w : World) (hp : w.heap[p]? = some (.cells #[.func (.func 85) #[] #[]] 127 (0, 0))) (hr0 : Kd.C k38 w A0 l0.length l0) (hc0 : l0.length ≤ c0) (h : sink_AllRows.f l0 = some r) :
    Calls Try.prog 86 #[.slice A0 l0.length c0, .func (.func 87) #[] #[.pointer (some ⟨p, 0, none⟩)]] w fun e w' => ∃ v0_ : Value, e = .returned (v0_) ∧ Kd.R k38 38 w' w.heap.size (fun _ => True) v0_ r ∧ Below w.heap.size w w' := by
  unfold sink_AllRows.f at h
  obtain ⟨t, ht, h⟩ := Option.bind_eq_some_iff.mp h
  by_cases hlen : t.length < 4611686018427387904
  · rw [if_pos hlen] at h
    obtain rfl := Option.some.inj h
    clear h
    have HR0 := Aside0.mk hr0
    have HC0 := Aside0.mk hc0
    have A2 := Aside0.mk ht
    have HL := Aside0.mk hlen
    have HP := Aside0.mk hp
    clear hr0 hc0 ht hlen hp
    go_enter Try.func86, Try.ntmps86
    go_wp2_with (first | (go_at_call 102; refine (cloneRow.calls _ _ l0 t _ HR0.out HC0.out A2.out).mono ?_; rintro e w4 ⟨v108, rfl, ho0, hb⟩; have HO := Aside0.mk ho0; have HB := Aside0.mk hb; clear ho0 hb) | (go_at_call 110; refine (sortRow_calls p (fun k_ => w.heap.size ≤ k_) _ t w _ ((HB.out.block p (Array.getElem?_eq_some_iff.1 HP.out).1).trans HP.out) (Nat.not_le.2 (Array.getElem?_eq_some_iff.1 HP.out).1) HB.out (Kd.R_mono (Kd.R_bound HO.out) (fun k hk => hk.2.1)) HL.out).mono ?_; rintro e w6 ⟨rfl, hy0, hb, hkp⟩; have HO2 := Aside0.mk hy0; have HB2 := Aside0.mk hb; clear hy0 hb hkp))
    go_ret
    exact ⟨_, rfl, Kd.R_mono HO2.out (fun _ _ => trivial), HB2.out⟩
  · rw [if_neg hlen] at h
    exact absurd h (by simp)

set_option maxRecDepth 100000 in
theorem sink_AllLate.calls (A0 : Option Addr) (c0 : Nat) (l0 : List S33) (r : List S33) (w : World) (hr0 : Kd.C k33 w A0 l0.length l0) (hc0 : l0.length ≤ c0) (h : sink_AllLate.f l0 = some r) :
    Calls Try.prog 53 #[.slice A0 l0.length c0] w fun e w' => ∃ v0_ : Value, e = .returned (v0_) ∧ Kd.R k33 33 w' w.heap.size (fun _ => True) v0_ r ∧ Below w.heap.size w w' := by
  have HR0 := Aside0.mk hr0
  have HC0 := Aside0.mk hc0
  have A2 := Aside0.mk h
  clear hr0 hc0 h
  go_enter Try.func53, Try.ntmps53
  go_wp2_with (go_at_call 81; refine (sortedRecord_calls _ _ l0 r _ HR0.out HC0.out A2.out).mono ?_; rintro e w4 ⟨v108, rfl, ho0, hb⟩; have HO := Aside0.mk ho0; have HB := Aside0.mk hb; clear ho0 hb)
  go_ret
  exact ⟨_, rfl, HO.out, HB.out⟩

set_option maxRecDepth 100000 in
theorem sink_AllRows.calls (A0 : Option Addr) (c0 : Nat) (l0 : List S38) (r : List S38) (w : World) (hr0 : Kd.C k38 w A0 l0.length l0) (hc0 : l0.length ≤ c0) (h : sink_AllRows.f l0 = some r) :
    Calls Try.prog 54 #[.slice A0 l0.length c0] w fun e w' => ∃ v0_ : Value, e = .returned (v0_) ∧ Kd.R k38 38 w' w.heap.size (fun _ => True) v0_ r ∧ Below w.heap.size w w' := by
  have HR0 := Aside0.mk hr0
  have HC0 := Aside0.mk hc0
  have A2 := Aside0.mk h
  clear hr0 hc0 h
  have hs := fun m => run_store Try.prog (w.alloc (.cells #[.nilFunc] 127)) ⟨w.heap.size, 0, none⟩ (.func (.func 85) #[] #[]) m rfl
  go_enter Try.func54, Try.ntmps54
  go_wp2_with (go_at_call 86; refine (sortedRow_calls w.heap.size _ _ l0 r _ (blk_new w _) (Kd.C_alloc HR0.out _) HC0.out A2.out).mono ?_; rintro e w4 ⟨v108, rfl, ho0, hb⟩; have HO := Aside0.mk ho0; have HB := Aside0.mk hb; clear ho0 hb)
  go_ret
  exact ⟨_, rfl, Kd.R_lower HO.out (below_size (below_alloc (Below.refl _ _) _)), below_step (below_alloc (Below.refl _ _) _) HB.out⟩
end Go.Proofs.Ytbeldjhpbomonaa.Si
