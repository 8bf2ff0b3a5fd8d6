/- slices.Backward of spans: what its function value hands to each round; condition: each round keeps what lay below a block and the box of the slice. slide.All: the windows of a time, in order; the walk is the printed one up to the list from behind, then the range over slices.Backward; no condition. -/
import Derived.RangeFuncNested
import Derived.RangeFuncBox
import Derived.RangeFuncLeaves
import Derived.Shelf.Abstract
import Derived.WalkKit
import Derived.OwnWalkIn
import Derived.TacticsInMore
import Derived.LoopNIn
import Derived.LoopIn
import Derived.Test.YtepgpbbeeiebkaaStx0
import Derived.Test.YtepgpbbeeiebkaaStx11
import Derived.Test.YtepgpbbeeiebkaaCpt
import Derived.Test.YtepgpbbeeiebkaaSB
import Derived.Test.YtepgpbbeeiebkaaK
namespace Go.Proofs.Ytepgpbbeeiebkaa.St
open Go.RowKit Go.Shelf Go.Proofs.YtepgpbbeeiebkaaW.PrintWords Go.Proofs.YtepgpbbeeiebkaaW.PrintLast Go.Proofs.YtepgpbbeeiebkaaW.PrintMore
set_option linter.unusedVariables false
set_option linter.unusedSimpArgs false
attribute [local go_sem] Oper.semAt_some

/-- What has come when k rounds are over. -/
def uptoB {α : Type} (f : Nat → α) (k : Nat) : List α := (List.range k).map f
theorem uptoB_succ {α : Type} (f : Nat → α) (k : Nat) : uptoB f (k + 1) = uptoB f k ++ [f k] := by simp [uptoB, List.range_succ]
theorem uptoB_length {α : Type} (f : Nat → α) (k : Nat) : (uptoB f k).length = k := by simp [uptoB]
/-- The round k of n: the place n - 1 - k and what stands there. -/
def backAt (zs : List S34) (k : Nat) : Nat × S34 := (zs.length - 1 - k, zs.getD (zs.length - 1 - k) z34)
theorem back_all (zs : List S34) : (uptoB (backAt zs) zs.length).map (·.2) = zs.reverse := by
  apply List.ext_getElem
  · simp [uptoB]
  · intro i h1 h2
    simp [uptoB] at h1
    simp [uptoB, backAt, List.getElem_reverse]
    rw [List.getElem?_eq_getElem (by omega)]
    rfl
/-- What lay below n₀, and the block Bs, lie as they lay. -/
def KpB (n₀ Bs : Nat) (A W : World) : Prop := Below n₀ A W ∧ W.heap[Bs]? = A.heap[Bs]?
theorem kpB_t {n₀ Bs : Nat} {A B C : World} (h : KpB n₀ Bs A B) (k : KpB n₀ Bs B C) : KpB n₀ Bs A C := ⟨h.1.trans k.1, k.2.trans h.2⟩
theorem kpB_b {n₀ Bs : Nat} {w : World} (hn : n₀ ≤ w.heap.size) (hB : Bs < w.heap.size) (W : World) (l : Nat) (o o' : Obj) (hl : w.heap.size ≤ l) (h : W.heap[l]? = some o) (h1 : o.isCells = false) (h2 : o.isWalk = false) : KpB n₀ Bs W (W.putObj l o') :=
  ⟨belowK_b hn W l o o' hl h h1 h2, World.putObj_heap_other (by omega)⟩

def encB (x : Nat × S34) : Array Value := #[.int .i64 (x.1 : Int), .agg #[.int .i64 x.2.f0, .int .i64 x.2.f1]]

set_option maxRecDepth 100000 in
set_option maxHeartbeats 4000000 in
theorem back1_in (F : Fence) (n : Nat) (h7 : F.fn 101) (hro : F.round = none) (hn : 1 ≤ n) (l Bs n₀ b cap : Nat) (zs : List S34) (hreach : zs.length ≤ 8796093022208) (hb : b < n₀) (J Jx : List (Nat × S34) → World → Prop)
    (hY : ∀ pre x W, J pre W → pre.length < zs.length → YieldAt F (n - 1) Try.prog l (encB x) W fun e W' =>
      (e = .returned (.bool true) ∧ J (pre ++ [x]) W' ∧ KpB n₀ Bs W W') ∨ (e = .returned (.bool false) ∧ Jx (pre ++ [x]) W'))
    (W : World) (hBs : W.heap[Bs]? = some (.cells #[.slice (some ⟨b, 0, none⟩) zs.length cap] 60 (0, 0)))
    (hc : ∀ j, j < zs.length → W.cell? ⟨b, j * 2, none⟩ = some (.int .i64 (zs.getD j z34).f0) ∧ W.cell? ⟨b, j * 2 + 1, none⟩ = some (.int .i64 (zs.getD j z34).f1)) (h0 : J [] W) :
    CallsIn F n Try.prog 101 #[.func (.yield l) #[] #[], .pointer (some ⟨Bs, 0, none⟩)] W fun e W' => (∃ v, e = .returned v) ∧
      ((∃ ys, ys = uptoB (backAt zs) zs.length ∧ J ys W') ∨ (∃ pre, (∃ k, k ≤ zs.length ∧ pre = uptoB (backAt zs) k) ∧ Jx pre W')) := by
  have hcell : ∀ V : World, V.heap[Bs]? = W.heap[Bs]? → V.cell? ⟨Bs, 0, none⟩ = some (.slice (some ⟨b, 0, none⟩) zs.length cap) := fun V hV => Boxed.cell (t := 60) (hV.trans hBs)
  have hw0 := hcell W rfl
  have hu34 := Try.underlying34
  have HB := Aside0.mk hBs
  have HC := Aside0.mk hc
  have HL := Aside0.mk hcell
  have HR := Aside0.mk hreach
  clear hBs hc hcell hreach
  have hwr : IntKind.i64.wrap ((zs.length : Int) - 1) = (zs.length : Int) - 1 := by
    have := HR.out
    rw [IntKind.wrap_i64]; omega
  refine callsIn_of_wp Try.func101 rfl h7 ?_ hro
  simp only [Try.ntmps101, List.size_toArray, List.length_cons, List.length_nil, Nat.reduceAdd, Nat.reduceSub, Array.replicate_succ, Array.replicate_zero, List.push_toArray, List.append_toArray, List.nil_append, List.cons_append]
  gi_wp2
  clear hwr hw0
  gi_loopw [3] (fun i wr => ∃ k : Nat, k ≤ zs.length ∧ i = .int .i64 ((zs.length : Int) - 1 - k) ∧ J (uptoB (backAt zs) k) wr ∧ KpB n₀ Bs W wr)
    (fun i _ => (intOf i + 1).toNat)
  case atStart => exact ⟨0, Nat.zero_le _, by simp, h0, Below.refl _ _, rfl⟩
  case round =>
    obtain ⟨k, hk, rfl, hJs, hnx⟩ := hrel
    by_cases hlt : k < zs.length
    · obtain ⟨fn, tmps, assign, body, hy, hR⟩ := hY _ (backAt zs k) wr hJs (by rw [uptoB_length]; exact hlt)
      have hcx := HC.out (zs.length - 1 - k) (by omega)
      have hcx1 := (hnx.1.cell (p := ⟨b, (zs.length - 1 - k) * 2, none⟩) hb).trans hcx.1
      have hcx2 := (hnx.1.cell (p := ⟨b, (zs.length - 1 - k) * 2 + 1, none⟩) hb).trans hcx.2
      have hbx := HL.out wr hnx.2
      have HNX := Aside0.mk hnx
      clear hnx hcx
      obtain ⟨m, hm⟩ : ∃ m : Nat, m = zs.length - 1 - k := ⟨_, rfl⟩
      have hmi : (zs.length : Int) - 1 - (k : Int) = (m : Int) := by omega
      have hml : m < zs.length := by omega
      unfold backAt at hy hR
      rw [← hm] at hcx1 hcx2 hy hR
      obtain ⟨x, hx⟩ : ∃ x, x = zs.getD m z34 := ⟨_, rfl⟩
      rw [← hx] at hcx1 hcx2 hy hR
      have HX := Aside0.mk hx
      have HM := Aside0.mk hm
      rw [hmi]
      dsimp only [encB] at hy
      have hsub : IntKind.i64.wrap ((m : Int) - 1) = (m : Int) - 1 := by
        have := HR.out
        rw [IntKind.wrap_i64]; omega
      clear hx hm hmi
      gi_wp2
      refine hR.mono ?_
      rintro e W3 (⟨rfl, hJ3, hk3⟩ | ⟨rfl, hJx3⟩)
      · gi_wp2
        go_roundw
        case rel =>
          refine ⟨k + 1, by omega, by have := HM.out; congr 1; omega, ?_, kpB_t HNX.out hk3⟩
          rw [uptoB_succ, backAt, ← HM.out, ← HX.out]
          exact hJ3
        case measure => simp [intOf]
      · gi_wp2
        refine bodyPost_ret (results_none rfl _ _ _) rfl ?_
        refine ⟨⟨_, rfl⟩, .inr ⟨_, ⟨k + 1, by omega, ?_⟩, hJx3⟩⟩
        rw [uptoB_succ, backAt, ← HM.out, ← HX.out]
        rfl
    · obtain rfl : k = zs.length := by omega
      have hneg : ¬ ((0 : Int) ≤ (zs.length : Int) - 1 - (zs.length : Int)) := by omega
      have hd : decide ((0 : Int) ≤ (zs.length : Int) - 1 - (zs.length : Int)) = false := decide_eq_false hneg
      gi_wp2
      go_end0
      exact ⟨⟨_, rfl⟩, .inl hJs⟩

set_option maxRecDepth 100000 in
set_option maxHeartbeats 4000000 in
/-- .. at the nil slice: no round. -/
theorem back1_nil_in (F : Fence) (n : Nat) (h7 : F.fn 101) (hro : F.round = none) (l Bs : Nat) (J : List (Nat × S34) → World → Prop) (W : World) (hBs : W.cell? ⟨Bs, 0, none⟩ = some (.slice none 0 0)) (h0 : J [] W) :
    CallsIn F n Try.prog 101 #[.func (.yield l) #[] #[], .pointer (some ⟨Bs, 0, none⟩)] W fun e W' => (∃ v, e = .returned v) ∧ J [] W' := by
  refine callsIn_of_wp Try.func101 rfl h7 ?_ hro
  simp only [Try.ntmps101, List.size_toArray, List.length_cons, List.length_nil, Nat.reduceAdd, Nat.reduceSub, Array.replicate_succ, Array.replicate_zero, List.push_toArray, List.append_toArray, List.nil_append, List.cons_append]
  gi_wp2
  gi_loopw [3] (fun i wr => i = .int .i64 (-1) ∧ J [] wr) (fun _ _ => 0)
  case atStart => exact ⟨by first | rfl | simp, h0⟩
  case round =>
    obtain ⟨rfl, hJs⟩ := hrel
    gi_wp2
    go_end0
    first | exact ⟨⟨_, rfl⟩, hJs⟩ | exact hJs

set_option maxHeartbeats 4000000 in
/-- slices.Backward(s): the slice is boxed; the function value holds the box. -/
theorem backward_calls (a : Option Addr) (len cap : Nat) (w : World) :
    Calls Try.prog 87 #[.slice a len cap] w fun e w' => e = .returned (.func (.func 101) #[] #[.pointer (some ⟨w.heap.size, 0, none⟩)]) ∧ w' = w.alloc (.cells #[.slice a len cap] 60) := by
  go_enter Try.func87, Try.ntmps87
  go_wp2
  go_ret
  exact ⟨rfl, rfl⟩

/-- The slice value sv holds the spans zs, in a block below n₀; or it is nil and there are none. -/
def SpansAt (n₀ : Nat) (W : World) (sv : Value) (zs : List S34) : Prop :=
  (sv = .slice none 0 0 ∧ zs = []) ∨ ∃ b cap, sv = .slice (some ⟨b, 0, none⟩) zs.length cap ∧ b < n₀ ∧ ∀ j, j < zs.length → W.cell? ⟨b, j * 2, none⟩ = some (.int .i64 (zs.getD j z34).f0) ∧ W.cell? ⟨b, j * 2 + 1, none⟩ = some (.int .i64 (zs.getD j z34).f1)
theorem SpansAt.below {n₀ : Nat} {A B : World} (h : Below n₀ A B) {sv : Value} {zs : List S34} : SpansAt n₀ A sv zs → SpansAt n₀ B sv zs
  | .inl e => .inl e
  | .inr ⟨b, cap, e, hb, hc⟩ => .inr ⟨b, cap, e, hb, fun j hj => ⟨(h.cell (p := ⟨b, j * 2, none⟩) hb).trans (hc j hj).1, (h.cell (p := ⟨b, j * 2 + 1, none⟩) hb).trans (hc j hj).2⟩⟩

theorem backward_stops (F : Fence) (n : Nat) (h7 : F.fn 101) (hro : F.round = none) (hn : 1 ≤ n) (Bs n₀ : Nat) (sv : Value) (zs : List S34) (hreach : zs.length ≤ 8796093022208) (w : World) (hBs : w.heap[Bs]? = some (.cells #[sv] 60 (0, 0))) (hn₀ : n₀ ≤ w.heap.size) (hI : SpansAt n₀ w sv zs) :
    SeqStopsK F n Try.prog 101 #[.pointer (some ⟨Bs, 0, none⟩)] encB (KpB n₀ Bs) (fun ys => ys = uptoB (backAt zs) zs.length) (fun pre => ∃ k, k ≤ zs.length ∧ pre = uptoB (backAt zs) k) zs.length w := fun l J Jx W hW _ _ hY h0 => by
  have hlt := (Array.getElem?_eq_some_iff.1 hBs).1
  have hc' : W.heap[Bs]? = some (.cells #[sv] 60 (0, 0)) := (hW.block Bs hlt).trans hBs
  rcases hI.below (hW.mono hn₀) with ⟨rfl, rfl⟩ | ⟨b, cap, rfl, hb, hcs⟩
  · exact (back1_nil_in F n h7 hro l Bs J W (Boxed.cell (t := 60) hc') h0).mono fun e W' ⟨he, hj⟩ => ⟨he, .inl ⟨_, rfl, hj⟩⟩
  · exact back1_in F n h7 hro hn l Bs n₀ b cap zs hreach hb J Jx hY W hc' hcs h0
end Go.Proofs.Ytepgpbbeeiebkaa.St
namespace Go.Proofs.Ytepgpbbeeiebkaa.St
open Go.RowKit Go.Shelf Go.Proofs.YtepgpbbeeiebkaaSB Go.Proofs.YtepgpbbeeiebkaaK Go.Proofs.YtepgpbbeeiebkaaFar Go.Proofs.YtepgpbbeeiebkaaW.PrintWords Go.Proofs.YtepgpbbeeiebkaaW.PrintLast Go.Proofs.YtepgpbbeeiebkaaW.PrintMore
attribute [local go_sem] max2_int min2_int max_two min_two max_three min_three max_four min_four   -- for this text's walks alone
set_option linter.unusedVariables false
set_option linter.unusedSimpArgs false

/-! ### slide_AllB: function 59 -/
mutual
def slide_AllB.j0 : Nat → Int → Int → Int → Bool → Option ((List (S34)) × Int)
  | 0, _, _, _, _ => none
  | k + 1, x0, x1, x2, x33 => if x33 = true then (some (([] : List (S34)), 2)) else ((tumble_Of.f k x0 x2).bind fun bt105 => (if bt105.2.2 = 0 then (slide_AllB.l0 k x0 x1 x2 ([] : List (S34)) bt105.1) else (some (([] : List (S34)), bt105.2.2))))
def slide_AllB.l0 : Nat → Int → Int → Int → List (S34) → Int → Option ((List (S34)) × Int)
  | 0, _, _, _, _, _ => none
  | k + 1, x0, x1, x2, x10, x11 => if (wrap64 (x11 + x1)) > x0 then (if x10.length < 8796093022208 then (slide_AllB.l0 k x0 x1 x2 (x10 ++ [(⟨x11, wrap64 (x11 + x1)⟩ : S34)]) (wrap64 (x11 - x2))) else (none)) else (some (x10, 0))
end
def slide_AllB.f (k : Nat) (a0 : Int) (a1 : Int) (a2 : Int) : Option ((List (S34)) × Int) := if (mn a1 a2) < 1 then (slide_AllB.j0 k a0 a1 a2 true) else (if a1 > 1073741824 then (slide_AllB.j0 k a0 a1 a2 true) else (if a2 > a1 then (slide_AllB.j0 k a0 a1 a2 true) else (slide_AllB.j0 k a0 a1 a2 (decide (a1 > (wrap64 (16 * a2)))))))
theorem slide_AllB.mono_l : ∀ k, (∀ y0 y1 y2 y3, LeO (slide_AllB.j0 k y0 y1 y2 y3) (slide_AllB.j0 (k + 1) y0 y1 y2 y3)) ∧ (∀ y0 y1 y2 y3 y4, LeO (slide_AllB.l0 k y0 y1 y2 y3 y4) (slide_AllB.l0 (k + 1) y0 y1 y2 y3 y4))
  | 0 => ⟨fun _ _ _ _ r h => by simp [slide_AllB.j0] at h, fun _ _ _ _ _ r h => by simp [slide_AllB.l0] at h⟩
  | k + 1 => by
    obtain ⟨ih0, ih1⟩ := slide_AllB.mono_l k
    refine ⟨?_, ?_⟩
    · intro y0 y1 y2 y3
      unfold slide_AllB.j0
      repeat' first
      | (with_reducible exact ih0 _ _ _ _)
      | (with_reducible exact ih1 _ _ _ _ _)
      | (with_reducible exact tumble_Of.mono _ _ _)
      | (with_reducible exact LeO.refl _)
      | (with_reducible exact LeO.none _)
      | (with_reducible refine LeO.ite ?_ ?_)
      | (with_reducible refine LeO.bind ?_ (fun _ => ?_))
      | exact ih0 _ _ _ _
      | exact ih1 _ _ _ _ _
      | exact tumble_Of.mono _ _ _
      | exact LeO.none _
      | refine LeO.ite ?_ ?_
      | refine LeO.bind ?_ (fun _ => ?_)
    · intro y0 y1 y2 y3 y4
      unfold slide_AllB.l0
      repeat' first
      | (with_reducible exact ih0 _ _ _ _)
      | (with_reducible exact ih1 _ _ _ _ _)
      | (with_reducible exact tumble_Of.mono _ _ _)
      | (with_reducible exact LeO.refl _)
      | (with_reducible exact LeO.none _)
      | (with_reducible refine LeO.ite ?_ ?_)
      | (with_reducible refine LeO.bind ?_ (fun _ => ?_))
      | exact ih0 _ _ _ _
      | exact ih1 _ _ _ _ _
      | exact tumble_Of.mono _ _ _
      | exact LeO.none _
      | refine LeO.ite ?_ ?_
      | refine LeO.bind ?_ (fun _ => ?_)
theorem slide_AllB.mono : ∀ a0 a1 a2 k, LeO (slide_AllB.f k a0 a1 a2) (slide_AllB.f (k + 1) a0 a1 a2) := by
  intro a0 a1 a2 k
  obtain ⟨ih0, ih1⟩ := slide_AllB.mono_l k
  unfold slide_AllB.f
  repeat' first
      | (with_reducible exact ih0 _ _ _ _)
      | (with_reducible exact ih1 _ _ _ _ _)
      | (with_reducible exact tumble_Of.mono _ _ _)
      | (with_reducible exact LeO.refl _)
      | (with_reducible exact LeO.none _)
      | (with_reducible refine LeO.ite ?_ ?_)
      | (with_reducible refine LeO.bind ?_ (fun _ => ?_))
      | exact ih0 _ _ _ _
      | exact ih1 _ _ _ _ _
      | exact tumble_Of.mono _ _ _
      | exact LeO.none _
      | refine LeO.ite ?_ ?_
      | refine LeO.bind ?_ (fun _ => ?_)
attribute [local go_sem] Oper.semAt_some
theorem postM_ret {F : Fence} {n : Nat} {P : Program} {fn : Func} {R : Ending → World → Prop} {a : Act} {w : World} {v : Value} (hr : (results fn a.tmps).run P w = .ok v w) (hd : a.defers = []) (hR : R (.returned v) w) : bodyPostM F n P fn R .ret a w := by
  show LeavesInM F n P fn a.tmps R a.defers .returning w
  rw [hd]
  exact ⟨v, hr, hR⟩
theorem slide_AllB.len_l0 : ∀ (k : Nat) (a0 a1 a2 : Int) (x10 : List S34) (x11 : Int) (r : List S34) (e : Int), x10.length ≤ 8796093022208 → slide_AllB.l0 k a0 a1 a2 x10 x11 = some (r, e) → r.length ≤ 8796093022208
  | 0, _, _, _, _, _, _, _, _, h => by simp [slide_AllB.l0] at h
  | k + 1, a0, a1, a2, x10, x11, r, e, hl, h => by
    rw [slide_AllB.l0] at h
    split at h
    · split at h
      · rename_i hlt
        exact slide_AllB.len_l0 k a0 a1 a2 _ _ r e (by rw [List.length_append]; simp only [List.length_cons, List.length_nil]; omega) h
      · cases h
    · simp only [Option.some.injEq, Prod.mk.injEq] at h
      rw [← h.1]
      exact hl
theorem slide_AllB.len_j0 (k : Nat) (a0 a1 a2 : Int) (b : Bool) (r : List S34) (e : Int) (h : slide_AllB.j0 k a0 a1 a2 b = some (r, e)) : r.length ≤ 8796093022208 := by
  cases k with
  | zero => simp [slide_AllB.j0] at h
  | succ k =>
    rw [slide_AllB.j0] at h
    split at h
    · simp only [Option.some.injEq, Prod.mk.injEq] at h
      rw [← h.1]
      simp
    · obtain ⟨x, _, h⟩ := Option.bind_eq_some_iff.1 h
      split at h
      · exact slide_AllB.len_l0 k a0 a1 a2 _ _ r e (by simp) h
      · simp only [Option.some.injEq, Prod.mk.injEq] at h
        rw [← h.1]
        simp
theorem slide_AllB.len {k : Nat} {a0 a1 a2 : Int} {r : List S34} {e : Int} (h : slide_AllB.f k a0 a1 a2 = some (r, e)) : r.length ≤ 8796093022208 := by
  unfold slide_AllB.f at h
  repeat' split at h
  all_goals exact slide_AllB.len_j0 _ _ _ _ _ _ _ h
def encSp (x : S34) : List Value := [.int .i64 x.f0, .int .i64 x.f1]
theorem flatSp : Flat k34 encSp where
  M h := k34_openM h
  made w base ok x := k34_mkM w base ok x
  len _ := rfl
  one x v hv := by
    simp [encSp] at hv
    rcases hv with rfl | rfl <;> rfl
  pos := by decide
theorem spansAt_of_R {w : World} {base : Nat} {ok : Nat → Prop} {v : Value} {xs : List S34} (h : Kd.R k34 34 w base ok v xs) : SpansAt w.heap.size w v xs := by
  rcases Nat.eq_zero_or_pos xs.length with h0 | h0
  · obtain ⟨_, inner, ho, hr⟩ := h
    rcases ho.2 with ⟨rfl, _⟩ | ⟨g, cap, cur, rfl, _, hh, _⟩
    · exact .inl ⟨rfl, List.length_eq_zero_iff.1 h0⟩
    · exact .inr ⟨g, cap, by rw [h0], (Array.getElem?_eq_some_iff.1 hh).1, fun j hj => by omega⟩
  · obtain ⟨g, c, cur, rfl, _, _, hh, _, _, _, ht⟩ := R_block flatSp h h0
    refine .inr ⟨g, c, rfl, (Array.getElem?_eq_some_iff.1 hh).1, fun j hj => ?_⟩
    have hd := cellsL_drop flatSp xs j
    have hg : xs.getD j z34 = xs[j] := by simp [hj]
    have e : (cellsL encSp xs).drop (j * 2) = encSp xs[j] ++ cellsL encSp (xs.drop (j + 1)) := by
      rw [show j * 2 = j * k34.sz from rfl, ← hd, List.drop_eq_getElem_cons hj]
      simp only [cellsL, List.flatMap_cons]
    rw [hg]
    constructor
    · refine cell_of_take hh ht _ _ ?_
      rw [show j * 2 = j * 2 + 0 from rfl, ← List.getElem?_drop, e]
      rfl
    · refine cell_of_take hh ht _ _ ?_
      rw [← List.getElem?_drop, e]
      rfl
theorem encSp_back (zs : List S34) (k : Nat) : (uptoB (backAt zs) k).flatMap (fun x => encSp x.2) = cellsL encSp ((uptoB (backAt zs) k).map (·.2)) := by
  simp [cellsL, List.flatMap_map]
set_option maxHeartbeats 8000000 in
set_option maxRecDepth 100000 in
theorem slide_AllB.calls (k : Nat) (a0 : Int) (a1 : Int) (a2 : Int) (r1 : List (S34)) (r2 : Int) (w : World) (h : slide_AllB.f k a0 a1 a2 = some (r1, r2)) :
    Calls Try.prog 59 #[.int .i64 a0, .int .i64 a1, .int .i64 a2] w fun e w' => ∃ v0_ : Value, e = .returned (.tuple #[v0_, .int .i64 r2]) ∧ Kd.R k34 34 w' w.heap.size (fun _ => True) v0_ r1.reverse ∧ Below w.heap.size w w' := by
  have hu34 := Try.underlying34
  have HLn := Aside0.mk (slide_AllB.len h)
  have HB := Aside0.mk (Below.refl w.heap.size w)
  have H : (if (mn a1 a2) < 1 then (slide_AllB.j0 k a0 a1 a2 true) else (if a1 > 1073741824 then (slide_AllB.j0 k a0 a1 a2 true) else (if a2 > a1 then (slide_AllB.j0 k a0 a1 a2 true) else (slide_AllB.j0 k a0 a1 a2 (decide (a1 > (wrap64 (16 * a2)))))))) = some (r1, r2) := h
  clear h
  have HC4 := Aside0.mk H
  clear H
  let fn_ : Exit → Act → World → Prop := bodyPost Try.prog Try.f59 (fun _ _ => True)
  refine (callsIn_wide (n := 3)).1 ?_
  refine callsIn_of_wp_marks Try.func59 rfl trivial ?_ rfl
  refine wpIn_wide.2 ?_
  simp only [Try.ntmps59, List.size_toArray, List.length_cons, List.length_nil, Nat.reduceAdd, Nat.reduceSub, Array.replicate_succ, Array.replicate_zero, List.push_toArray, List.append_toArray, List.nil_append, List.cons_append]
  go_upto_region 1 with (fail)
  go_cut [33] (fun v33 wc => ∃ (kq : Nat) (x33_3 : Bool), v33 = .bool x33_3 ∧ Aside0 (slide_AllB.j0 kq a0 a1 a2 x33_3 = some (r1, r2)) ∧ Aside0 (kq ≤ k) ∧ Aside0 (Below w.heap.size w wc))
  case first =>
    have H := HC4.out
    clear HC4
    obtain ⟨ji5, hji5⟩ : ∃ j_ : Int, (mn a1 a2) = j_ := ⟨_, rfl⟩
    replace H : (if (ji5) < 1 then (slide_AllB.j0 k a0 a1 a2 true) else (if a1 > 1073741824 then (slide_AllB.j0 k a0 a1 a2 true) else (if a2 > a1 then (slide_AllB.j0 k a0 a1 a2 true) else (slide_AllB.j0 k a0 a1 a2 (decide (a1 > (wrap64 (16 * a2)))))))) = some (r1, r2) := by first | (rw [hji5] at H; exact H) | (simp only [hji5] at H ⊢; exact H)
    have hji5_ : (if a2 < a1 then a2 else a1) = ji5 := hji5
    by_cases c6 : (ji5) < 1
    · rw [if_pos c6] at H
      have c6b0 : decide ((ji5) < 1) = true := decide_eq_true c6
      clear c6
      (first | rw [c6b0] | (simp only [i64_w, i32_w]; rw [c6b0]) | skip)
      have H' := Aside0.mk H
      clear H
      go_wp2
      go_meet
      case rel => exact ⟨_, (true), (by first | rfl | (simp; done) | (simp [*]; done)), H', ⟨by first | omega | exact Nat.le_refl _⟩, ⟨by repeat (first | (with_reducible first | exact HB.out | apply below_alloc | apply pw_below_drewN | apply below_drew1) | exact HB.out)⟩⟩
    · rw [if_neg c6] at H
      have c6b0 : decide ((ji5) < 1) = false := decide_eq_false c6
      clear c6
      (first | rw [c6b0] | (simp only [i64_w, i32_w]; rw [c6b0]) | skip)
      by_cases c7 : a1 > 1073741824
      · rw [if_pos c7] at H
        have c7b0 : decide (1073741824 < a1) = true := decide_eq_true c7
        clear c7
        have H' := Aside0.mk H
        clear H
        go_wp2
        go_meet
        case rel => exact ⟨_, (true), (by first | rfl | (simp; done) | (simp [*]; done)), H', ⟨by first | omega | exact Nat.le_refl _⟩, ⟨by repeat (first | (with_reducible first | exact HB.out | apply below_alloc | apply pw_below_drewN | apply below_drew1) | exact HB.out)⟩⟩
      · rw [if_neg c7] at H
        have c7b0 : decide (1073741824 < a1) = false := decide_eq_false c7
        clear c7
        by_cases c8 : a2 > a1
        · rw [if_pos c8] at H
          have c8b0 : decide (a1 < a2) = true := decide_eq_true c8
          clear c8
          have H' := Aside0.mk H
          clear H
          go_wp2
          go_meet
          case rel => exact ⟨_, (true), (by first | rfl | (simp; done) | (simp [*]; done)), H', ⟨by first | omega | exact Nat.le_refl _⟩, ⟨by repeat (first | (with_reducible first | exact HB.out | apply below_alloc | apply pw_below_drewN | apply below_drew1) | exact HB.out)⟩⟩
        · rw [if_neg c8] at H
          have c8b0 : decide (a1 < a2) = false := decide_eq_false c8
          clear c8
          have H' := Aside0.mk H
          clear H
          go_wp2
          go_meet
          case rel => exact ⟨_, (decide (a1 > (wrap64 (16 * a2)))), (by first | rfl | (simp; done) | (simp [*]; done)), H', ⟨by first | omega | exact Nat.le_refl _⟩, ⟨by repeat (first | (with_reducible first | exact HB.out | apply below_alloc | apply pw_below_drewN | apply below_drew1) | exact HB.out)⟩⟩
  case rest =>
    clear HC4
    obtain ⟨kq, x33_3, rfl, HA, HJ3, HB⟩ := hcut
    cases kq with
    | zero => exact absurd HA.out (by simp [slide_AllB.j0])
    | succ kj3 =>
      have H := HA.out
      clear HA
      simp only [slide_AllB.j0] at H
      by_cases c9 : x33_3 = true
      · subst c9
        have H1 : (some (([] : List (S34)), 2)) = some (r1, r2) := by rw [if_pos rfl] at H; exact H
        clear H
        have H := H1
        clear H1
        simp only [Option.some.injEq, Prod.mk.injEq] at H
        obtain ⟨rfl, rfl⟩ := H
        go_wp2
        ((try simp only [Exit.inBlock, Exit.then]); refine postM_ret (results_tmp2 rfl _ _ _) rfl ?_)
        exact ⟨_, by first | rfl | (simp [errW_none, errW_some] <;> rfl) | (simp [*, errW_none, errW_some] <;> rfl), by first | exact Kd.R_nil _ _ _ _ _ | exact Kd.N_nil _ _ _ _ _ | exact Kd.V_nil _ _ _ _ _ | exact Kd.Q_nil _ _ _ _ _ | exact Kd.S_nil _ _ _ _ _, by repeat (first | (with_reducible first | exact HB.out | apply below_alloc | apply pw_below_drewN | apply below_drew1) | exact HB.out)⟩
      · replace c9 := Bool.eq_false_iff.mpr c9
        subst c9
        have H1 : ((tumble_Of.f kj3 a0 a2).bind fun bt105 => (if bt105.2.2 = 0 then (slide_AllB.l0 kj3 a0 a1 a2 ([] : List (S34)) bt105.1) else (some (([] : List (S34)), bt105.2.2)))) = some (r1, r2) := by rw [if_neg (show ¬ (false = true) by decide)] at H; exact H
        clear H
        have H := H1
        clear H1
        replace H := Option.bind_eq_some_iff.mp H
        obtain ⟨⟨t105, t106, t107⟩, A100, H⟩ := H
        replace H : (if t107 = 0 then (slide_AllB.l0 kj3 a0 a1 a2 ([] : List (S34)) t105) else (some (([] : List (S34)), t107))) = some (r1, r2) := H
        have A10 := Aside0.mk A100
        clear A100
        by_cases c11 : t107 = 0
        · rw [if_pos c11] at H
          have c11b0 : (t107 == 0) = true := beq_iff_eq.mpr c11
          have c11b1 : (t107 != 0) = false := bne_eq_false_iff_eq.mpr c11
          clear c11
          have H' := Aside0.mk H
          clear H
          go_wp2_with (first | ((with_reducible refine gate_callee (f := 58) rfl ?_); refine goesL_ (some 37) rfl rfl Try.func58 (by kernel_rfl) rfl #[.int .i64 a0, .int .i64 a2] rfl (by (try simp only [List.map_toArray, List.map_cons, List.map_nil]); first | done | rfl | (simp only [List.length_drop, List.length_take]; rfl)) ?_; (with_reducible refine (tumble_Of.calls kj3 a0 a2 t105 t106 t107 _ A10.out).mono ?_); rintro e w12 ⟨rfl, hb⟩; refine ⟨_, rfl, ?_⟩; have n0_ := Aside0.mk (below_step (by repeat (first | (with_reducible first | exact HB.out | apply below_alloc | apply pw_below_drewN | apply below_drew1) | exact HB.out)) hb); clear HB; have HB := n0_; clear n0_; (try clear hb); (try clear hb2); (try clear hk); (try clear hi)) | ((with_reducible refine gate_dst (N := 8) rfl ?_); refine box_event ?hg (N := 8) ?hd (cs := #[.int .i64 0, .int .i64 0]) (t := 34) ?hr ?_; (case hd => rfl); (case hg => rfl); (case hr => first | (go_simp; done) | (go_simp; rfl)); intro gb108 hg w13 hbox hb; have n0_ := Aside0.mk (below_step (by repeat (first | (with_reducible first | exact HB.out | apply below_alloc | apply pw_below_drewN | apply below_drew1) | exact HB.out)) hb); have n1_ := Aside0.mk (hbox); have n2_ := Aside0.mk ((by rw [hg]; exact (below_size (by repeat (first | (with_reducible first | exact HB.out | apply below_alloc | apply pw_below_drewN | apply below_drew1) | exact HB.out))) : w.heap.size ≤ gb108)); clear HB; have HB := n0_; have BK108 := n1_; have GE108 := n2_; clear n0_ n1_ n2_; clear hb hbox hg; obtain ⟨hcz14_0, hcz14_1⟩ := blkc2 BK108.out; obtain ⟨hfz14_0, hfz14_1⟩ := blkf2 BK108.out))
          go_loopg [10, 11] kj3 (fun kq v10 v11 w' => ∃ (x10_2 : List (S34)) (x11_2 : Int), v11 = .int .i64 x11_2 ∧ Aside0 (slide_AllB.l0 kq a0 a1 a2 x10_2 x11_2 = some (r1, r2)) ∧ Aside0 (kq ≤ kj3) ∧ Aside0 (Kd.R k34 34 w' w.heap.size (fun k_ => k_ ≠ gb108) v10 x10_2) ∧ Aside0 (w'.heap[gb108]? = some (.cells #[.int .i64 t105, .int .i64 t106] 34 (0, 0))) ∧ Aside0 (Below w.heap.size w w'))
          case atStart => exact ⟨(([] : List (S34))), (t105), (by first | rfl | (simp; done) | (simp [*]; done)), H', ⟨Nat.le_refl _⟩, ⟨by first | exact Kd.R_nil _ _ _ _ _ | exact Kd.N_nil _ _ _ _ _ | exact Kd.V_nil _ _ _ _ _ | exact Kd.Q_nil _ _ _ _ _ | exact Kd.S_nil _ _ _ _ _⟩, ⟨by apply blk_eq_; (with_reducible repeat (first | apply blk_drewN | apply blk_drew | apply blk_alloc | apply blk_set)); exact BK108.out; (first | (simp only [List.setIfInBounds_toArray, List.set_cons_zero, List.set_cons_succ]; done) | rfl)⟩, ⟨by repeat (first | (with_reducible first | exact HB.out | apply below_alloc | apply pw_below_drewN | apply below_drew1 | refine below_set ?_ GE108.out) | exact HB.out)⟩⟩
          case round =>
            clear H'
            try clear c9
            try clear c11
            try clear c11b0
            try clear c11b1
            try clear hcz14_0
            try clear hcz14_1
            try clear hfz14_0
            try clear hfz14_1
            obtain ⟨x10_2, x11_2, rfl, HA, HK2, HO_10, BK108, HB⟩ := hrel
            cases gk with
            | zero => exact absurd HA.out (by simp [slide_AllB.l0])
            | succ k2 =>
              have H := HA.out
              clear HA
              simp only [slide_AllB.l0] at H
              by_cases c15 : (wrap64 (x11_2 + a1)) > a0
              · rw [if_pos c15] at H
                have c15b0 : decide (a0 < (wrap64 (x11_2 + a1))) = true := decide_eq_true c15
                clear c15
                by_cases c16 : x10_2.length < 8796093022208
                · rw [if_pos c16] at H
                  have LMc16 := Aside0.mk c16
                  clear c16
                  obtain ⟨y109, hy109⟩ : ∃ y_ : List (S34), y_ = (x10_2 ++ [(⟨x11_2, wrap64 (x11_2 + a1)⟩ : S34)]) := ⟨_, rfl⟩
                  replace H : (slide_AllB.l0 k2 a0 a1 a2 y109 (wrap64 (x11_2 - a2))) = some (r1, r2) := by first | (rw [hy109]; with_reducible exact H) | (have H2_ := (Option.bind_some _ _).symm.trans H; rw [hy109]; with_reducible exact H2_) | (have H2_ := (Option.bind_some _ _).symm.trans H; with_reducible exact H2_) | with_reducible exact H | (rw [hy109]; exact H) | exact H
                  have Ny109 := Aside0.mk hy109
                  clear hy109
                  have H' := Aside0.mk H
                  clear H
                  go_wp2_with (first | ((with_reducible refine gate_builtin (b := .append) (xs := #[.tmp 53, .tmp 59]) rfl ?_); at_builtin; refine Kd.R_append k34 (w0 := w) w.heap.size rfl (.tmp 53) (.tmp 59) 60 34 (.agg #[(.int .i64 0), (.int .i64 0)]) 16 rfl Try.underlying60 info34 rfl (by decide) (by omega) u10 x10_2 (⟨x11_2, wrap64 (x11_2 + a1)⟩ : S34) [.int .i64 x11_2, .int .i64 (wrap64 (x11_2 + a1))] (fun k_ => k_ ≠ gb108) (fun _ => False) rfl rfl ?aP (fun _ hk => hk.elim) ?aF ?aO ?aB ?aS ?aL ?_; (case aP => exact k34_mkM _ _ _ (⟨x11_2, wrap64 (x11_2 + a1)⟩ : S34)); (case aB => exact (by repeat (first | (with_reducible first | exact HB.out | apply below_alloc | apply pw_below_drewN | apply below_drew1 | refine below_set ?_ GE108.out) | exact HB.out))); (case aF => exact (fun k_ hk => Kd.freshB (g := gb108) (o := .cells #[.int .i64 t105, .int .i64 t106] 34 (0, 0)) (by (with_reducible repeat (first | refine blk_drewN ?_ _ | refine blk_drew ?_ | refine blk_alloc ?_ _)); exact BK108.out) k_ hk)); (case aO => exact (by (with_reducible repeat (first | apply Kd.R_alloc | apply Kd.R_drewN | apply Kd.R_drew)); exact HO_10.out)); (case aS => exact (below_size (by repeat (first | (with_reducible first | exact HB.out | apply below_alloc | apply pw_below_drewN | apply below_drew1 | refine below_set ?_ GE108.out) | exact HB.out)))); (case aL => have := LMc16.out; omega); intro v110 w17 ho hb hg hat; rw [← Ny109.out] at ho; have n0_ := Aside0.mk (blk_grown (g := gb108) (o := .cells #[.int .i64 t105, .int .i64 t106] 34 (0, 0)) (by (with_reducible repeat (first | refine blk_drewN ?_ _ | refine blk_drew ?_ | refine blk_alloc ?_ _)); exact BK108.out) hg (Kd.R_away HO_10.out (fun _ hk => hk))); have n1_ := Aside0.mk (hb); have n2_ := Aside0.mk (ho); clear BK108 HB HO_10; have BK108 := n0_; have HB := n1_; have HO111 := n2_; clear n0_ n1_ n2_; clear ho hb hg hat))
                  go_roundg k2
                  case measure => have := HJ3.out; have := HK2.out; omega
                  case rel => exact ⟨(y109), (wrap64 (x11_2 - a2)), (by first | rfl | (simp; done) | (simp [*]; done)), H', ⟨by have := HJ3.out; have := HK2.out; omega⟩, ⟨by (with_reducible repeat (first | apply Kd.R_alloc | apply Kd.R_drewN | apply Kd.R_drew)); exact HO111.out⟩, ⟨by (with_reducible repeat (first | refine blk_drewN ?_ _ | refine blk_drew ?_ | refine blk_alloc ?_ _)); exact BK108.out⟩, ⟨by repeat (first | (with_reducible first | exact HB.out | apply below_alloc | apply pw_below_drewN | apply below_drew1 | refine below_set ?_ GE108.out) | exact HB.out)⟩⟩
                · rw [if_neg c16] at H
                  exact absurd H (by simp)
              · rw [if_neg c15] at H
                have c15b0 : decide (a0 < (wrap64 (x11_2 + a1))) = false := decide_eq_false c15
                clear c15
                simp only [Option.some.injEq, Prod.mk.injEq] at H
                obtain ⟨rfl, rfl⟩ := H
                have hsp := spansAt_of_R HO_10.out
                obtain ⟨Ab, cb, eb⟩ := Kd.R_slice HO_10.out
                subst eb
                have HS := Aside0.mk hsp
                clear hsp HO_10 BK108 GE108
                go_wp2_with ((with_reducible refine gate_callee (f := 87) rfl ?_); refine goesL_ (some 62) rfl rfl Try.func87 (by kernel_rfl) rfl #[.slice Ab x10_2.length cb] rfl (by (try simp only [List.map_toArray, List.map_cons, List.map_nil]); first | done | rfl | (simp only [List.length_drop, List.length_take]; rfl)) ?_; (with_reducible refine (backward_calls _ _ _ _).mono ?_); rintro e w' ⟨rfl, rfl⟩; refine ⟨_, rfl, ?_⟩)
                have h34 : IntKind.i64.wrap 0 = 0 := by decide
                simp only [Act.put, List.setIfInBounds_toArray, List.set_cons_zero, List.set_cons_succ, World.size_alloc]
                have bB := (Boxed.new wr 60 (.slice none 0 0)).alloc (.cells #[.slice Ab x10_2.length cb] 60)
                have bS := Boxed.new (wr.alloc (.cells #[.slice none 0 0] 60)) 60 (.slice Ab x10_2.length cb)
                simp only [World.size_alloc] at bS
                have hB0 : Below wr.heap.size wr ((wr.alloc (.cells #[.slice none 0 0] 60)).alloc (.cells #[.slice Ab x10_2.length cb] 60)) := ((Below.refl _ wr).alloc (Nat.le_refl _) _).alloc (by simp) _
                have hsz : ((wr.alloc (.cells #[.slice none 0 0] 60)).alloc (.cells #[.slice Ab x10_2.length cb] 60)).heap.size = wr.heap.size + 2 := by simp
                obtain ⟨W0, hW0⟩ : ∃ W0, (wr.alloc (.cells #[.slice none 0 0] 60)).alloc (.cells #[.slice Ab x10_2.length cb] 60) = W0 := ⟨_, rfl⟩
                rw [hW0] at bB bS hB0 hsz ⊢
                clear hW0
                have hsp0 := HS.out.below hB0
                obtain ⟨i0, hi, hz0, hz1, hz2⟩ := info_parts info34
                have HI := Aside0.mk hi
                have HZ0 := Aside0.mk hz0
                have HZ1 := Aside0.mk hz1
                have HZ2 := Aside0.mk hz2
                clear hi hz0 hz1 hz2
                have HWR := Aside0.mk hsz
                clear hsz h34
                refine (wpIn_wide (n := 3)).1 ?_
                refine wpIn_rangeFunc_ownH rfl (by omega) (gf := 101) (lb := #[.pointer (some ⟨wr.heap.size + 1, 0, none⟩)]) rfl trivial (enters_of Try.func101 (by kernel_rfl) rfl)
                  (backward_stops Fence.wide 2 trivial rfl (by omega) (wr.heap.size + 1) wr.heap.size (.slice Ab x10_2.length cb) x10_2 HLn.out W0 bS (by have := HWR.out; omega) hsp0) (fun h k => kpB_t h k) (kpB_b (by have := HWR.out; omega) (by have := HWR.out; omega)) (Below.refl _ _) (fun _ => rfl)
                  (fun (pre : List (Nat × S34)) W => (∃ v, Boxed W wr.heap.size 60 v ∧ W.ownsRow wr.heap.size 34 2 v pre.length (pre.flatMap fun x => encSp x.2) ∧ True) ∧ (Below wr.heap.size wr W ∧ Boxed W (wr.heap.size + 1) 60 (.slice Ab x10_2.length cb)))
                  (fun _ _ _ => False)
                  (OwnFrom.and (Own.from (holdsRow_own wr.heap.size wr.heap.size 60 34 2 (fun (pre : List (Nat × S34)) => pre.length) (fun pre => pre.flatMap fun x => encSp x.2) (fun _ _ => True)) _) (OwnFrom.and (ownFrom_below (Nat.le_refl _) (by have := HWR.out; omega)) (Own.from (boxed_own (wr.heap.size + 1) 60 (fun _ => Value.slice Ab x10_2.length cb)) _)))
                  (fun _ _ _ _ _ hs _ _ => hs)
                  ⟨⟨_, bB, World.ownsRow_nil _ _ _ _, trivial⟩, hB0, bS⟩
                  (fun x a' W => ∃ Bx, W.heap[Bx]? = some (.cells #[.int .i64 x.2.f0, .int .i64 x.2.f1] 34 (0, 0)) ∧ a' = { tmps := #[Value.int IntKind.i64 a0, Value.int IntKind.i64 a1, Value.int IntKind.i64 a2, undef, undef, undef, Value.slice none 0 0, Value.int IntKind.i64 0, Value.pointer (some ⟨gb108, 0, none⟩), Value.int IntKind.i64 t107, Value.slice Ab x10_2.length cb, Value.int IntKind.i64 x11_2, Value.pointer (some ⟨wr.heap.size, 0, none⟩), undef, .pointer (some ⟨Bx, 0, none⟩), u15, u16, u17, u18, u19, u20, u21, u22, u23, u24, u25, u26, u27, u28, u29, u30, u31, u32, Value.bool false, Value.tuple #[Value.agg #[Value.int IntKind.i64 t105, Value.int IntKind.i64 t106], Value.int IntKind.i64 t107], Value.int IntKind.i64 a0, Value.int IntKind.i64 a2, Value.tuple #[Value.agg #[Value.int IntKind.i64 t105, Value.int IntKind.i64 t106], Value.int IntKind.i64 t107], Value.agg #[Value.int IntKind.i64 t105, Value.int IntKind.i64 t106], Value.int IntKind.i64 t107, Value.int IntKind.i64 t107, Value.bool false, u42, Value.pointer (some ⟨gb108, 0, none⟩), Value.int IntKind.i64 t105, Value.int IntKind.i64 x11_2, Value.int IntKind.i64 a1, Value.int IntKind.i64 (wrap64 (x11_2 + a1)), Value.int IntKind.i64 a0, Value.bool false, u50, u51, u52, u53, u54, u55, u56, u57, u58, u59, u60, Value.slice Ab x10_2.length cb, Value.func (Fn.func 101) #[] #[Value.pointer (some ⟨wr.heap.size + 1, 0, none⟩)], .int .i64 (x.1 : Int), .agg #[.int .i64 x.2.f0, .int .i64 x.2.f1], u65, u66, u67, u68, u69], defers := [] })
                  (fun x a' => fun _ X Y row hs hg hr => by
                    obtain ⟨Bx, h1, h2⟩ := hs
                    exact ⟨Bx, (hg.block Bx (Array.getElem?_eq_some_iff.1 h1).1 (fun e' => by obtain ⟨o, ho, hc⟩ := (hr Bx e'.symm).2; rw [h1] at ho; cases ho; cases hc)).trans h1, h2⟩) ?assign ?body ?done ?stop
                case assign =>
                  rintro l pre x W K ⟨⟨v, hv, hrow, _⟩, hBel, hbs⟩ hK
                  dsimp only [encB]
                  gi_wp2
                  exact hK _ _ ((KeepsOthers.alloc _ _).from _) ⟨(Below.refl _ W).alloc hBel.size _, Below.heap_alloc W _ _ hbs.lt⟩ ⟨⟨v, hv.alloc _, hrow.alloc _, trivial⟩, hBel.alloc hBel.size _, hbs.alloc _⟩ ⟨W.heap.size, blk_new W _, rfl⟩
                case body =>
                  rintro l pre x a' W hl ⟨r, hr⟩ ⟨⟨v, hv, hrow, _⟩, hBel, hbs⟩ ⟨Bx, hBx, rfl⟩ hlt
                  have hc0 := hv.cell
                  have hx0 : W.cell? ⟨Bx, 0, none⟩ = some (.int .i64 x.2.f0) := (blk_cell hBx 0).trans rfl
                  have hx1 : W.cell? ⟨Bx, 1, none⟩ = some (.int .i64 x.2.f1) := (blk_cell hBx 1).trans rfl
                  have hle := hBel.size
                  have hlen2 := HLn.out
                  have hch : ∀ (j : Nat) (u : Value), [Value.int .i64 x.2.f0, Value.int .i64 x.2.f1][j]? = some u → (W.alloc (.cells #[Value.int .i64 x.2.f0, Value.int .i64 x.2.f1] 34)).cell? ((⟨W.heap.size, 0, none⟩ : Addr).add j) = some u := fun j u hu => by
                    rw [Addr.add_lit, Nat.zero_add, blk_cell (blk_new W _) j]
                    simpa using hu
                  have HCh := Aside0.mk hch
                  clear hch
                  gi_wp2_with (gi_at_builtin; refine wpListIn_append_own _ rfl _ _ 60 rfl wr.heap.size 34 i0 _ 2 16 Try.underlying60 HI.out HZ0.out HZ1.out HZ2.out rfl (by decide) _ _ _ rfl (hrow.alloc _) ⟨W.heap.size, 0, none⟩ 1 1 [.int .i64 x.2.f0, .int .i64 x.2.f1] rfl rfl HCh.out (by simp [Value.oneCell']) (by unfold maxLen; omega) (by omega) (by simp; omega) ?_; intro v' w1 hown' hgrow _; obtain ⟨g', cap', rfl⟩ := ownsRow_succ hown'; obtain ⟨hv1, hv2, hr2, hk2, hb2⟩ := hv.appended (by decide) hrow hle (Nat.le_refl _) hown' hgrow; have hc1 := hv1.cell; have hf1 := hv1.frozen)
                  have hbs2 : Boxed (w1.setCell ⟨wr.heap.size, 0, none⟩ (.slice (some ⟨g', 0, none⟩) (pre.length + 1) cap')) (wr.heap.size + 1) 60 (.slice Ab x10_2.length cb) :=
                    ((hbs.alloc _).kept hgrow (hbs.not_row (by decide) hrow)).other (by omega) _
                  refine ⟨hk2.from _, ⟨hb2, hbs2.trans hbs.symm⟩, ⟨_, hv2, ?_, trivial⟩, hBel.trans hb2, hbs2⟩
                  rw [List.length_append, List.flatMap_append]
                  simpa [encSp] using hr2
                case done =>
                  rintro D ys W hD rfl ⟨⟨v, hv, hrow, _⟩, hBel, _⟩ hK
                  have hc0 := hv.cell
                  rw [encSp_back, back_all, uptoB_length] at hrow
                  have hrow' := ownsRow_putObj hrow (.deferred none) hK rfl
                  have hrl : x10_2.length = x10_2.reverse.length := by simp
                  rw [hrl] at hrow'
                  have hR : Kd.R k34 34 (W.putObj D (.deferred none)) wr.heap.size (fun _ => True) v x10_2.reverse := ⟨fun _ _ => trivial, _, hrow', cellsL_reps flatSp (fun p => k34_mkM _ _ _ p) _⟩
                  have hHD := HWR.out
                  gi_wp2
                  go_wp2
                  refine ⟨by simp, .inl ⟨_, _, rfl, run_takeDeferred hK, ?_⟩⟩
                  exact ⟨_, results_tmp2 rfl _ _ _, _, rfl, Kd.R_lower hR HB.out.size, HB.out.trans ((hBel.trans (belowK_b (w := W0) (by omega) W D _ _ hD hK rfl rfl)).mono HB.out.size)⟩
                case stop =>
                  rintro D c pre W _ _ h _
                  exact h.elim
        · rw [if_neg c11] at H
          have c11b0 : (t107 == 0) = false := beq_eq_false_iff_ne.mpr c11
          have c11b1 : (t107 != 0) = true := bne_iff_ne.mpr c11
          simp only [Option.some.injEq, Prod.mk.injEq] at H
          obtain ⟨rfl, rfl⟩ := H
          go_wp2_with (first | ((with_reducible refine gate_callee (f := 58) rfl ?_); refine goesL_ (some 37) rfl rfl Try.func58 (by kernel_rfl) rfl #[.int .i64 a0, .int .i64 a2] rfl (by (try simp only [List.map_toArray, List.map_cons, List.map_nil]); first | done | rfl | (simp only [List.length_drop, List.length_take]; rfl)) ?_; (with_reducible refine (tumble_Of.calls kj3 a0 a2 t105 t106 t107 _ A10.out).mono ?_); rintro e w18 ⟨rfl, hb⟩; refine ⟨_, rfl, ?_⟩; have n0_ := Aside0.mk (below_step (by repeat (first | (with_reducible first | exact HB.out | apply below_alloc | apply pw_below_drewN | apply below_drew1) | exact HB.out)) hb); clear HB; have HB := n0_; clear n0_; (try clear hb); (try clear hb2); (try clear hk); (try clear hi)) | ((with_reducible refine gate_dst (N := 8) rfl ?_); refine box_event ?hg (N := 8) ?hd (cs := #[.int .i64 0, .int .i64 0]) (t := 34) ?hr ?_; (case hd => rfl); (case hg => rfl); (case hr => first | (go_simp; done) | (go_simp; rfl)); intro gb108 hg w19 hbox hb; have n0_ := Aside0.mk (below_step (by repeat (first | (with_reducible first | exact HB.out | apply below_alloc | apply pw_below_drewN | apply below_drew1) | exact HB.out)) hb); have n1_ := Aside0.mk (hbox); have n2_ := Aside0.mk ((by rw [hg]; exact (below_size (by repeat (first | (with_reducible first | exact HB.out | apply below_alloc | apply pw_below_drewN | apply below_drew1) | exact HB.out))) : w.heap.size ≤ gb108)); clear HB; have HB := n0_; have BK108 := n1_; have GE108 := n2_; clear n0_ n1_ n2_; clear hb hbox hg; obtain ⟨hcz20_0, hcz20_1⟩ := blkc2 BK108.out; obtain ⟨hfz20_0, hfz20_1⟩ := blkf2 BK108.out))
          ((try simp only [Exit.inBlock, Exit.then]); refine postM_ret (results_tmp2 rfl _ _ _) rfl ?_)
          exact ⟨_, by first | rfl | (simp [errW_none, errW_some] <;> rfl) | (simp [*, errW_none, errW_some] <;> rfl), by first | exact Kd.R_nil _ _ _ _ _ | exact Kd.N_nil _ _ _ _ _ | exact Kd.V_nil _ _ _ _ _ | exact Kd.Q_nil _ _ _ _ _ | exact Kd.S_nil _ _ _ _ _, by repeat (first | (with_reducible first | exact HB.out | apply below_alloc | apply pw_below_drewN | apply below_drew1 | refine below_set ?_ GE108.out) | exact HB.out)⟩


def slide_All.f (k : Nat) (a0 a1 a2 : Int) : Option (List S34 × Int) := (slide_AllB.f k a0 a1 a2).map fun r => (r.1.reverse, r.2)
theorem slide_All.mono : ∀ a0 a1 a2 k, LeO (slide_All.f k a0 a1 a2) (slide_All.f (k + 1) a0 a1 a2) := by
  intro a0 a1 a2 k r h
  obtain ⟨x, hx, rfl⟩ := Option.map_eq_some_iff.1 h
  exact Option.map_eq_some_iff.2 ⟨x, slide_AllB.mono a0 a1 a2 k x hx, rfl⟩
theorem slide_All.calls (k : Nat) (a0 a1 a2 : Int) (r1 : List S34) (r2 : Int) (w : World) (h : slide_All.f k a0 a1 a2 = some (r1, r2)) :
    Calls Try.prog 59 #[.int .i64 a0, .int .i64 a1, .int .i64 a2] w fun e w' => ∃ v0_ : Value, e = .returned (.tuple #[v0_, .int .i64 r2]) ∧ Kd.R k34 34 w' w.heap.size (fun _ => True) v0_ r1 ∧ Below w.heap.size w w' := by
  obtain ⟨⟨l, e⟩, hx, hr⟩ := Option.map_eq_some_iff.1 h
  simp only [Prod.mk.injEq] at hr
  obtain ⟨rfl, rfl⟩ := hr
  exact slide_AllB.calls k a0 a1 a2 l e w hx
end Go.Proofs.Ytepgpbbeeiebkaa.St
