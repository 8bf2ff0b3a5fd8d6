/- SessionOrder over lists alone: the order of times doesn't matter; the law's own guard: at most 60 times, a gap, where they are cut. -/
import Derived.Test.YtbeldjhpbomonaaSeM
namespace Go.Proofs.Ytbeldjhpbomonaa.Pure
open Go.Proofs.Ytbeldjhpbomonaa.Se

theorem SessionOrder : tailwaterlaw15_SessionOrder.Pure := SessionOrder_pure

end Go.Proofs.Ytbeldjhpbomonaa.Pure
