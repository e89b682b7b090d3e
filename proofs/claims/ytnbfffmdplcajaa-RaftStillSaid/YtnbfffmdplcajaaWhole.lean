/- What the row asks of the whole program, once for all laws. -/
import Derived.Test.YtnbfffmdplcajaaRows
import Derived.WalkKit
import Derived.ProofKit
import Derived.SizedLaws
namespace Go.Proofs.Ytnbfffmdplcajaa
open Go.RowKit
theorem wholeEnter : Try.prog.mayEnter = true := by kernel_rfl
theorem wholeLifts : Try.prog.liftsFinal = false := by kernel_rfl
theorem wholeMake : Try.prog.make = some .cut := by kernel_rfl
theorem own : ownKnob Try.prog.godebug = none := by kernel_rfl
theorem laidOut : laidOutB Try.prog = true := by kernel_rfl

end Go.Proofs.Ytnbfffmdplcajaa
