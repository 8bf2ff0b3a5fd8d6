/- '==' of a short array as one Bool, element by element; no condition. -/
import Derived.Test.YtbeldjhpbomonaaWWords
import Derived.DeepKeys
namespace Go.Proofs.YtbeldjhpbomonaaEqArr
open Go.RowKit
theorem eqItems_nil {P : Program} {d : Nat} {e : TypeId} {c : Nat} {xs ys : Array Value} {w : World} : (Op.eqItems d e c xs ys []).run P w = .ok true w := by simp [Op.eqItems]
theorem eqItems_cons {P : Program} {d : Nat} {e : TypeId} {c i : Nat} {xs ys : Array Value} {l : List Nat} {w : World} {a b : Value} {r s : Bool} (ha : (part e xs (i * c)).run P w = .ok a w) (hb : (part e ys (i * c)).run P w = .ok b w) (he : (Op.equalIn d e a b).run P w = .ok r w) (hr : (Op.eqItems d e c xs ys l).run P w = .ok s w) : (Op.eqItems d e c xs ys (i :: l)).run P w = .ok (r && s) w := by
  rw [Op.eqItems]
  simp only [Sem.run_bind, ha, hb, he, Result.andThen_ok]
  cases r
  · simp
  · simpa using hr
theorem eqItems_last {P : Program} {d : Nat} {e : TypeId} {c i : Nat} {xs ys : Array Value} {w : World} {a b : Value} {r : Bool} (ha : (part e xs (i * c)).run P w = .ok a w) (hb : (part e ys (i * c)).run P w = .ok b w) (he : (Op.equalIn d e a b).run P w = .ok r w) : (Op.eqItems d e c xs ys [i]).run P w = .ok r w := by
  have h := eqItems_cons ha hb he (eqItems_nil (P := P) (d := d) (e := e) (c := c) (xs := xs) (ys := ys) (w := w))
  rwa [Bool.and_true] at h
end Go.Proofs.YtbeldjhpbomonaaEqArr
