/- Short words for the printed walks. No condition. -/
import Derived.Test.YtbeldjhpbomonaaWWords
namespace Go.Proofs.YtbeldjhpbomonaaFar
open Go.RowKit Go.Proofs.YtbeldjhpbomonaaW.PrintWords
theorem far_ {a : Addr} {n g : Nat} (h : a.block ≠ g) : (a.add n).block ≠ g := by
  rw [add_block]
  exact h
end Go.Proofs.YtbeldjhpbomonaaFar
