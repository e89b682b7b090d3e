/- What all trees share. -/
import Derived.Test.YtnbfffmdplcajaaProg
import Derived.Test.YtnbfffmdplcajaaVcGen
namespace Go.Proofs.Ytnbfffmdplcajaa
open Go.Vc
abbrev noM : Marks := fun _ => none
theorem mixed : Try.prog.follows .mixedOrders = true := by kernel_rfl
end Go.Proofs.Ytnbfffmdplcajaa
