/- The steps of a walk at a map that is told as a plain list: a store, a range, the range's next; conditions: as each says. -/
import Derived.Test.YtepgpbbeeiebkaaMp
namespace Go.Proofs.YtepgpbbeeiebkaaMp
open Go Go.Maps Go.WideShapes Go.RowKit
set_option linter.unusedVariables false
section
variable {P : Program} {k e : TypeId} (w : World) {ops : Array Oper} {rest : List Oper} {o : Oper} {a : Act} {Q : Exit → Act → World → Prop}
theorem wpList_mapUpdate_is (hg : o.guard = none) (m x v : Operand) (t : TypeId) (hop : o.op = Op.mapUpdate t m x v) (K : Keyed P k) (ht : P.underlying t = some (.map k e)) (b n : Nat) (mm : M2)
    (hm : a.eval m = .map (some b)) (h : MapIs P k w b n mm) (hn : n < maxLen) (k1 k2 a1 a2 a3 a4 : Int) (hx : a.eval x = .agg #[.int .i64 k1, .int .i64 k2]) (hv : a.eval v = .agg #[.int .i64 a1, .int .i64 a2, .int .i64 a3, .int .i64 a4]) (hk : okK P k (k1, k2))
    (hK : ∀ w', MapIs P k w' b (n + 1) (putM mm (k1, k2) (a1, a2, a3, a4)) → w.grownBy w' (some b) → wpList P ops Q rest (a.put o.dst undef) w') : wpList P ops Q (o :: rest) a w := by
  refine wpList_plain hg fun K' hK' => ?_
  obtain ⟨w', hrun, r1, r2⟩ := h.update K ht hn hk (a1, a2, a3, a4)
  have hrun' : (Instr.mapUpdate t (.map (some b)) (.agg #[.int .i64 k1, .int .i64 k2]) (.agg #[.int .i64 a1, .int .i64 a2, .int .i64 a3, .int .i64 a4])).run P w = .ok () w' := hrun
  unfold Oper.wp
  simp [execOp, hop, hm, hx, hv, hrun', Result.andThen]
  exact hK' _ _ (hK w' r1 r2)
theorem wpList_range_is (hg : o.guard = none) (m : Operand) (t : TypeId) (hop : o.op = Op.range t m) (K : Keyed P k) (ht : P.underlying t = some (.map k e)) (b n : Nat) (mm : M2) (hm : a.eval m = .map (some b)) (h : MapIs P k w b n mm)
    (hK : ∀ w' cnt, Ranging P k w' b w.heap.size n mm [] cnt → w.grownBy w' none → w'.heap.size = w.heap.size + 1 → cnt ≤ n → wpList P ops Q rest (a.put o.dst (.pointer (some ⟨w.heap.size, 0, none⟩))) w') : wpList P ops Q (o :: rest) a w := by
  refine wpList_plain hg fun K' hK' => ?_
  obtain ⟨w', cnt, hrun, r1, r2, r3, r4⟩ := h.range K ht
  unfold Oper.wp
  simp [execOp, hop, hm, hrun, Result.andThen]
  exact hK' _ _ (hK w' cnt r1 r2 r3 r4)
theorem wpList_next_is (hg : o.guard = none) (it : Operand) (hop : o.op = Op.next it false) (K : Keyed P k) (b r n cnt : Nat) (mm seen : M2) (hit : a.eval it = .pointer (some ⟨r, 0, none⟩)) (h : Ranging P k w b r n mm seen cnt) (hm : ∀ κ α, lookM mm κ = some α → okK P k κ)
    (hDone : (∀ κ α, lookM mm κ = some α → κ ∈ keysM seen) → wpList P ops Q rest (a.put o.dst (.tuple #[.bool false])) w)
    (hMore : ∀ (k1 k2 a1 a2 a3 a4 : Int) (w' : World) (cnt' : Nat), okK P k (k1, k2) → lookM mm (k1, k2) = some (a1, a2, a3, a4) → (k1, k2) ∉ keysM seen → Ranging P k w' b r n mm (seen ++ [((k1, k2), (a1, a2, a3, a4))]) cnt' → cnt' < cnt → w.grownBy w' (some r) → w'.heap.size = w.heap.size →
      (Instr.entry (.pointer (some ⟨r, 0, none⟩))).run P w' = .ok (.tuple #[.agg #[.int .i64 k1, .int .i64 k2], .agg #[.int .i64 a1, .int .i64 a2, .int .i64 a3, .int .i64 a4]]) w' → wpList P ops Q rest (a.put o.dst (.tuple #[.bool true, .agg #[.int .i64 k1, .int .i64 k2], .agg #[.int .i64 a1, .int .i64 a2, .int .i64 a3, .int .i64 a4]])) w') :
    wpList P ops Q (o :: rest) a w := by
  refine wpList_plain hg fun K' hK' => ?_
  unfold Oper.wp
  rcases h.next K hm o.type with ⟨h0, hrun⟩ | ⟨κ, α, w', cnt', h1, h2, h3, hrun, h5, h6, h7, h8, h9⟩
  · simp [execOp, hop, hit, hrun, Result.andThen]
    exact hK' _ _ (hDone h0)
  · obtain ⟨k1, k2⟩ := κ
    obtain ⟨a1, a2, a3, a4⟩ := α
    simp [execOp, hop, hit, hrun, Result.andThen]
    exact hK' _ _ (hMore k1 k2 a1 a2 a3 a4 w' cnt' h1 h2 h3 h5 h6 h7 h8 h9)
end
end Go.Proofs.YtepgpbbeeiebkaaMp
