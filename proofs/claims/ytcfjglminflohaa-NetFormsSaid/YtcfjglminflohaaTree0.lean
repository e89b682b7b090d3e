/- What all trees share. -/
import Derived.Test.YtcfjglminflohaaProg
import Derived.Test.YtcfjglminflohaaVcGen
namespace Go.Proofs.Ytcfjglminflohaa
open Go.Vc
abbrev noM : Marks := fun _ => none
theorem mixed : Try.prog.follows .mixedOrders = true := by kernel_rfl
end Go.Proofs.Ytcfjglminflohaa
