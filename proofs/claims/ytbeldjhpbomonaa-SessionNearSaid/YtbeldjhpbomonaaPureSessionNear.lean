/- SessionNear over lists alone: a time and the next one lie in one session just if they are nearer than the gap; the law's own guard: at most 60 times, a gap. -/
import Derived.Test.YtbeldjhpbomonaaSeK
namespace Go.Proofs.Ytbeldjhpbomonaa.Pure
open Go.Proofs.Ytbeldjhpbomonaa.Se

theorem SessionNear : tailwaterlaw15_SessionNear.Pure := SessionNear_pure

end Go.Proofs.Ytbeldjhpbomonaa.Pure
