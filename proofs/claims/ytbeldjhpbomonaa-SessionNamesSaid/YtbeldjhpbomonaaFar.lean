/- Short words for the printed walks. No condition. -/
import Derived.Test.YtbeldjhpbomonaaWWords
namespace Go.Proofs.YtbeldjhpbomonaaFar
open Go.RowKit Go.Proofs.YtbeldjhpbomonaaW.PrintWords
theorem far_ {a : Addr} {n g : Nat} (h : a.block ≠ g) : (a.add n).block ≠ g := by
  rw [add_block]
  exact h
/-- W is w further on, by draws and new blocks alone, as its spelling shows. -/
class Chain (w W : World) : Prop where
  b : Below w.heap.size w W
instance chainRefl {w : World} : Chain w w := ⟨Below.refl _ _⟩
instance chainAlloc {w W : World} {o : Obj} [c : Chain w W] : Chain w (W.alloc o) := ⟨below_alloc c.b o⟩
instance chainDrewN {w W : World} {n : Nat} [c : Chain w W] : Chain w (W.drewN n) := ⟨pw_below_drewN c.b n⟩
instance chainDrew {w W : World} [c : Chain w W] : Chain w W.drew := ⟨below_drew c.b⟩
theorem blk_now {w W : World} {g : Nat} {o : Obj} (h : w.heap[g]? = some o) [c : Chain w W] : W.heap[g]? = some o := blk_below h c.b
theorem below_now {w0 w W : World} (h : Below w0.heap.size w0 w) [c : Chain w W] : Below w0.heap.size w0 W := below_step h c.b
theorem R_now {α : Type} {d : Kd α} {e : Nat} {w W : World} {base : Nat} {ok : Nat → Prop} {v : Value} {xs : List α} (h : d.R e w base ok v xs) [c : Chain w W] : d.R e W base ok v xs := Kd.R_below h c.b
theorem C_now {α : Type} {d : Kd α} {w W : World} {A : Option Addr} {n : Nat} {xs : List α} (h : d.C w A n xs) [c : Chain w W] : d.C W A n xs := Kd.C_below h c.b
end Go.Proofs.YtbeldjhpbomonaaFar
