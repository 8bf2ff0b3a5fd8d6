/- SessionHas over lists alone: each time lies in just one session, that begins with a time and ends with one and the gap; the law's own guard: at most 60 times, a gap. -/
import Derived.Test.YtbeldjhpbomonaaSeJ
namespace Go.Proofs.Ytbeldjhpbomonaa.Pure
open Go.Proofs.Ytbeldjhpbomonaa.Se

theorem SessionHas : tailwaterlaw15_SessionHas.Pure := SessionHas_pure

end Go.Proofs.Ytbeldjhpbomonaa.Pure
