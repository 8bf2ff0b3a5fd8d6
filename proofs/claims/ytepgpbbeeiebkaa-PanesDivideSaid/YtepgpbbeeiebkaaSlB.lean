/- slices.Backward of spans: what its function value hands to each round; condition: each round keeps what lay below a block and the box of the slice. -/
import Derived.RangeFuncNested
import Derived.RangeFuncBox
import Derived.RangeFuncLeaves
import Derived.Shelf.Abstract
import Derived.WalkKit
import Derived.OwnWalkIn
import Derived.TacticsInMore
import Derived.LoopNIn
import Derived.LoopIn
import Derived.Test.YtepgpbbeeiebkaaStx0
namespace Go.Proofs.Ytepgpbbeeiebkaa.St
open Go.RowKit Go.Shelf Go.Proofs.YtepgpbbeeiebkaaW.PrintWords Go.Proofs.YtepgpbbeeiebkaaW.PrintLast Go.Proofs.YtepgpbbeeiebkaaW.PrintMore
set_option linter.unusedVariables false
set_option linter.unusedSimpArgs false
attribute [local go_sem] Oper.semAt_some

/-- What has come when k rounds are over. -/
def uptoB {α : Type} (f : Nat → α) (k : Nat) : List α := (List.range k).map f
theorem uptoB_succ {α : Type} (f : Nat → α) (k : Nat) : uptoB f (k + 1) = uptoB f k ++ [f k] := by simp [uptoB, List.range_succ]
theorem uptoB_length {α : Type} (f : Nat → α) (k : Nat) : (uptoB f k).length = k := by simp [uptoB]
/-- The round k of n: the place n - 1 - k and what stands there. -/
def backAt (zs : List S34) (k : Nat) : Nat × S34 := (zs.length - 1 - k, zs.getD (zs.length - 1 - k) z34)
theorem back_all (zs : List S34) : (uptoB (backAt zs) zs.length).map (·.2) = zs.reverse := by
  apply List.ext_getElem
  · simp [uptoB]
  · intro i h1 h2
    simp [uptoB] at h1
    simp [uptoB, backAt, List.getElem_reverse]
    rw [List.getElem?_eq_getElem (by omega)]
    rfl
/-- What lay below n₀, and the block Bs, lie as they lay. -/
def KpB (n₀ Bs : Nat) (A W : World) : Prop := Below n₀ A W ∧ W.heap[Bs]? = A.heap[Bs]?
theorem kpB_t {n₀ Bs : Nat} {A B C : World} (h : KpB n₀ Bs A B) (k : KpB n₀ Bs B C) : KpB n₀ Bs A C := ⟨h.1.trans k.1, k.2.trans h.2⟩
theorem kpB_b {n₀ Bs : Nat} {w : World} (hn : n₀ ≤ w.heap.size) (hB : Bs < w.heap.size) (W : World) (l : Nat) (o o' : Obj) (hl : w.heap.size ≤ l) (h : W.heap[l]? = some o) (h1 : o.isCells = false) (h2 : o.isWalk = false) : KpB n₀ Bs W (W.putObj l o') :=
  ⟨belowK_b hn W l o o' hl h h1 h2, World.putObj_heap_other (by omega)⟩

def encB (x : Nat × S34) : Array Value := #[.int .i64 (x.1 : Int), .agg #[.int .i64 x.2.f0, .int .i64 x.2.f1]]

set_option maxRecDepth 100000 in
set_option maxHeartbeats 4000000 in
theorem back1_in (F : Fence) (n : Nat) (h7 : F.fn 101) (hro : F.round = none) (hn : 1 ≤ n) (l Bs n₀ b cap : Nat) (zs : List S34) (hreach : zs.length ≤ 8796093022208) (hb : b < n₀) (J Jx : List (Nat × S34) → World → Prop)
    (hY : ∀ pre x W, J pre W → pre.length < zs.length → YieldAt F (n - 1) Try.prog l (encB x) W fun e W' =>
      (e = .returned (.bool true) ∧ J (pre ++ [x]) W' ∧ KpB n₀ Bs W W') ∨ (e = .returned (.bool false) ∧ Jx (pre ++ [x]) W'))
    (W : World) (hBs : W.heap[Bs]? = some (.cells #[.slice (some ⟨b, 0, none⟩) zs.length cap] 60 (0, 0)))
    (hc : ∀ j, j < zs.length → W.cell? ⟨b, j * 2, none⟩ = some (.int .i64 (zs.getD j z34).f0) ∧ W.cell? ⟨b, j * 2 + 1, none⟩ = some (.int .i64 (zs.getD j z34).f1)) (h0 : J [] W) :
    CallsIn F n Try.prog 101 #[.func (.yield l) #[] #[], .pointer (some ⟨Bs, 0, none⟩)] W fun e W' => (∃ v, e = .returned v) ∧
      ((∃ ys, ys = uptoB (backAt zs) zs.length ∧ J ys W') ∨ (∃ pre, (∃ k, k ≤ zs.length ∧ pre = uptoB (backAt zs) k) ∧ Jx pre W')) := by
  have hcell : ∀ V : World, V.heap[Bs]? = W.heap[Bs]? → V.cell? ⟨Bs, 0, none⟩ = some (.slice (some ⟨b, 0, none⟩) zs.length cap) := fun V hV => Boxed.cell (t := 60) (hV.trans hBs)
  have hw0 := hcell W rfl
  have hu34 := Try.underlying34
  have HB := Aside0.mk hBs
  have HC := Aside0.mk hc
  have HL := Aside0.mk hcell
  have HR := Aside0.mk hreach
  clear hBs hc hcell hreach
  have hwr : IntKind.i64.wrap ((zs.length : Int) - 1) = (zs.length : Int) - 1 := by
    have := HR.out
    rw [IntKind.wrap_i64]; omega
  refine callsIn_of_wp Try.func101 rfl h7 ?_ hro
  simp only [Try.ntmps101, List.size_toArray, List.length_cons, List.length_nil, Nat.reduceAdd, Nat.reduceSub, Array.replicate_succ, Array.replicate_zero, List.push_toArray, List.append_toArray, List.nil_append, List.cons_append]
  gi_wp2
  clear hwr hw0
  gi_loopw [3] (fun i wr => ∃ k : Nat, k ≤ zs.length ∧ i = .int .i64 ((zs.length : Int) - 1 - k) ∧ J (uptoB (backAt zs) k) wr ∧ KpB n₀ Bs W wr)
    (fun i _ => (intOf i + 1).toNat)
  case atStart => exact ⟨0, Nat.zero_le _, by simp, h0, Below.refl _ _, rfl⟩
  case round =>
    obtain ⟨k, hk, rfl, hJs, hnx⟩ := hrel
    by_cases hlt : k < zs.length
    · obtain ⟨fn, tmps, assign, body, hy, hR⟩ := hY _ (backAt zs k) wr hJs (by rw [uptoB_length]; exact hlt)
      have hcx := HC.out (zs.length - 1 - k) (by omega)
      have hcx1 := (hnx.1.cell (p := ⟨b, (zs.length - 1 - k) * 2, none⟩) hb).trans hcx.1
      have hcx2 := (hnx.1.cell (p := ⟨b, (zs.length - 1 - k) * 2 + 1, none⟩) hb).trans hcx.2
      have hbx := HL.out wr hnx.2
      have HNX := Aside0.mk hnx
      clear hnx hcx
      obtain ⟨m, hm⟩ : ∃ m : Nat, m = zs.length - 1 - k := ⟨_, rfl⟩
      have hmi : (zs.length : Int) - 1 - (k : Int) = (m : Int) := by omega
      have hml : m < zs.length := by omega
      unfold backAt at hy hR
      rw [← hm] at hcx1 hcx2 hy hR
      obtain ⟨x, hx⟩ : ∃ x, x = zs.getD m z34 := ⟨_, rfl⟩
      rw [← hx] at hcx1 hcx2 hy hR
      have HX := Aside0.mk hx
      have HM := Aside0.mk hm
      rw [hmi]
      dsimp only [encB] at hy
      have hsub : IntKind.i64.wrap ((m : Int) - 1) = (m : Int) - 1 := by
        have := HR.out
        rw [IntKind.wrap_i64]; omega
      clear hx hm hmi
      gi_wp2
      refine hR.mono ?_
      rintro e W3 (⟨rfl, hJ3, hk3⟩ | ⟨rfl, hJx3⟩)
      · gi_wp2
        go_roundw
        case rel =>
          refine ⟨k + 1, by omega, by have := HM.out; congr 1; omega, ?_, kpB_t HNX.out hk3⟩
          rw [uptoB_succ, backAt, ← HM.out, ← HX.out]
          exact hJ3
        case measure => simp [intOf]
      · gi_wp2
        refine bodyPost_ret (results_none rfl _ _ _) rfl ?_
        refine ⟨⟨_, rfl⟩, .inr ⟨_, ⟨k + 1, by omega, ?_⟩, hJx3⟩⟩
        rw [uptoB_succ, backAt, ← HM.out, ← HX.out]
        rfl
    · obtain rfl : k = zs.length := by omega
      have hneg : ¬ ((0 : Int) ≤ (zs.length : Int) - 1 - (zs.length : Int)) := by omega
      have hd : decide ((0 : Int) ≤ (zs.length : Int) - 1 - (zs.length : Int)) = false := decide_eq_false hneg
      gi_wp2
      go_end0
      exact ⟨⟨_, rfl⟩, .inl hJs⟩

set_option maxRecDepth 100000 in
set_option maxHeartbeats 4000000 in
/-- .. at the nil slice: no round. -/
theorem back1_nil_in (F : Fence) (n : Nat) (h7 : F.fn 101) (hro : F.round = none) (l Bs : Nat) (J : List (Nat × S34) → World → Prop) (W : World) (hBs : W.cell? ⟨Bs, 0, none⟩ = some (.slice none 0 0)) (h0 : J [] W) :
    CallsIn F n Try.prog 101 #[.func (.yield l) #[] #[], .pointer (some ⟨Bs, 0, none⟩)] W fun e W' => (∃ v, e = .returned v) ∧ J [] W' := by
  refine callsIn_of_wp Try.func101 rfl h7 ?_ hro
  simp only [Try.ntmps101, List.size_toArray, List.length_cons, List.length_nil, Nat.reduceAdd, Nat.reduceSub, Array.replicate_succ, Array.replicate_zero, List.push_toArray, List.append_toArray, List.nil_append, List.cons_append]
  gi_wp2
  gi_loopw [3] (fun i wr => i = .int .i64 (-1) ∧ J [] wr) (fun _ _ => 0)
  case atStart => exact ⟨by first | rfl | simp, h0⟩
  case round =>
    obtain ⟨rfl, hJs⟩ := hrel
    gi_wp2
    go_end0
    first | exact ⟨⟨_, rfl⟩, hJs⟩ | exact hJs

set_option maxHeartbeats 4000000 in
/-- slices.Backward(s): the slice is boxed; the function value holds the box. -/
theorem backward_calls (a : Option Addr) (len cap : Nat) (w : World) :
    Calls Try.prog 87 #[.slice a len cap] w fun e w' => e = .returned (.func (.func 101) #[] #[.pointer (some ⟨w.heap.size, 0, none⟩)]) ∧ w' = w.alloc (.cells #[.slice a len cap] 60) := by
  go_enter Try.func87, Try.ntmps87
  go_wp2
  go_ret
  exact ⟨rfl, rfl⟩

/-- The slice value sv holds the spans zs, in a block below n₀; or it is nil and there are none. -/
def SpansAt (n₀ : Nat) (W : World) (sv : Value) (zs : List S34) : Prop :=
  (sv = .slice none 0 0 ∧ zs = []) ∨ ∃ b cap, sv = .slice (some ⟨b, 0, none⟩) zs.length cap ∧ b < n₀ ∧ ∀ j, j < zs.length → W.cell? ⟨b, j * 2, none⟩ = some (.int .i64 (zs.getD j z34).f0) ∧ W.cell? ⟨b, j * 2 + 1, none⟩ = some (.int .i64 (zs.getD j z34).f1)
theorem SpansAt.below {n₀ : Nat} {A B : World} (h : Below n₀ A B) {sv : Value} {zs : List S34} : SpansAt n₀ A sv zs → SpansAt n₀ B sv zs
  | .inl e => .inl e
  | .inr ⟨b, cap, e, hb, hc⟩ => .inr ⟨b, cap, e, hb, fun j hj => ⟨(h.cell (p := ⟨b, j * 2, none⟩) hb).trans (hc j hj).1, (h.cell (p := ⟨b, j * 2 + 1, none⟩) hb).trans (hc j hj).2⟩⟩

theorem backward_stops (F : Fence) (n : Nat) (h7 : F.fn 101) (hro : F.round = none) (hn : 1 ≤ n) (Bs n₀ : Nat) (sv : Value) (zs : List S34) (hreach : zs.length ≤ 8796093022208) (w : World) (hBs : w.heap[Bs]? = some (.cells #[sv] 60 (0, 0))) (hn₀ : n₀ ≤ w.heap.size) (hI : SpansAt n₀ w sv zs) :
    SeqStopsK F n Try.prog 101 #[.pointer (some ⟨Bs, 0, none⟩)] encB (KpB n₀ Bs) (fun ys => ys = uptoB (backAt zs) zs.length) (fun pre => ∃ k, k ≤ zs.length ∧ pre = uptoB (backAt zs) k) zs.length w := fun l J Jx W hW _ _ hY h0 => by
  have hlt := (Array.getElem?_eq_some_iff.1 hBs).1
  have hc' : W.heap[Bs]? = some (.cells #[sv] 60 (0, 0)) := (hW.block Bs hlt).trans hBs
  rcases hI.below (hW.mono hn₀) with ⟨rfl, rfl⟩ | ⟨b, cap, rfl, hb, hcs⟩
  · exact (back1_nil_in F n h7 hro l Bs J W (Boxed.cell (t := 60) hc') h0).mono fun e W' ⟨he, hj⟩ => ⟨he, .inl ⟨_, rfl, hj⟩⟩
  · exact back1_in F n h7 hro hn l Bs n₀ b cap zs hreach hb J Jx hY W hc' hcs h0
end Go.Proofs.Ytepgpbbeeiebkaa.St
