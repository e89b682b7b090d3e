/- What is told of an argument's weight. -/
import Derived.Test.YtnbfffmdplcajaaWhole
import Derived.Test.YtnbfffmdplcajaaOpen
import Derived.OpenShut
import Derived.ChangeOld
import Derived.Below
namespace Go.Proofs.Ytnbfffmdplcajaa
open Go.Vc (Wt)
/-- What is told of an argument's weight. -/
theorem wt_each {H : Type} {P : Program} {t : TypeId} {ts : List TypeId} {d : DataW H} {ds : List (DataW H)} (h : (DataW.weightsEach P (t :: ts) (d :: ds)).all (· ≤ reachBytes) = true) :
    Wt P t d ∧ (DataW.weightsEach P ts ds).all (· ≤ reachBytes) = true := by
  simp only [DataW.weightsEach, List.all_append, Bool.and_eq_true] at h
  refine ⟨fun x hx => ?_, h.2⟩
  have := List.all_eq_true.1 h.1 x hx
  simpa using this
end Go.Proofs.Ytnbfffmdplcajaa
