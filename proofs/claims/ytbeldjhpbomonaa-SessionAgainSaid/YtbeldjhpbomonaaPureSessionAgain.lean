/- SessionAgain over lists alone: a time that was there changes nothing, one that is near to none becomes a session of its own; the law's own guard: at most 60 times, a gap, a time. -/
import Derived.Test.YtbeldjhpbomonaaSeL
namespace Go.Proofs.Ytbeldjhpbomonaa.Pure
open Go.Proofs.Ytbeldjhpbomonaa.Se

theorem SessionAgain : tailwaterlaw15_SessionAgain.Pure := SessionAgain_pure

end Go.Proofs.Ytbeldjhpbomonaa.Pure
