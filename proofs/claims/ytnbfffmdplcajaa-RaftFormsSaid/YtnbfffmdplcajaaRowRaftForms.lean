/- shortcutlaw25.RaftForms returns true whatever it is given, and what it was given reads as before; no condition of ours. -/
import Derived.Test.YtnbfffmdplcajaaFrame
import Derived.Test.YtnbfffmdplcajaaLawRaftForms
import Derived.Test.YtnbfffmdplcajaaRead2
namespace Go.Proofs.Ytnbfffmdplcajaa
open Go.ChangeShapes Go.WideShapes Go.ChangeAt Go.RowKit
open Go.Vc (Runs Wt hp0)

set_option maxRecDepth 100000 in
set_option maxHeartbeats 4000000 in
theorem raftFormsLifted (os : Os) (started : os.Started) (H : Type) (enc : TypeId × Value → H) :
    ReturnsInHanded {} Try.checked os 21 .any (Rows.raftFormsSpec.pre6 enc Try.prog Try.f21 Rows.raftFormsRow.domain false) (Rows.raftFormsSpec.post enc Try.prog Try.f21 false true false false) := by
  refine returnsInHanded_of_change_sized (C := Try.checked) own started (by kernel_rfl) Try.func21
    (ChangeSpec.witness6 (enc := enc) (C := Try.checked) false ⟨#[], #[], []⟩ 20 (by kernel_rfl) (by kernel_rfl) (by kernel_rfl) (by kernel_rfl)) ?_
  intro W base args ds gs before hval0 hW hcnd hsz _
  have hW' := hW
  obtain ⟨p, q, hA0, hV, rfl, hfz, hnd⟩ := hW
  have hA : DataW.TrodAll enc Try.prog W 0 (fun _ => true) true Try.f21.params.toList args.toList ds p := hA0
  rw [Try.params21] at hA
  obtain ⟨hargs, rfl, rfl⟩ := trodAll_nil hA
  obtain rfl : args = #[] := by cases args; simp_all
  obtain ⟨rfl, rfl⟩ := trodVars_none hV
  have run := raftForms_runs (hp0 W) 
  refine run.2.mono fun e W' ⟨v, he, hv, hp'⟩ => ?_
  subst he
  subst hv
  have bel := hp'.below
  exact ⟨_, rfl, _, _, _, [], _, [], hW', trodAll_mk1 (shut_bool Try.underlying4 _), trodAll_mk0, rfl, bel.frame _, fun h => by cases h⟩

theorem raftFormsClosed : joinedFacts Try.prog 21 Try.f21 Rows.raftFormsSpec Rows.raftFormsRow = true := by
  unfold joinedFacts
  rw [wholeEnter, wholeLifts, wholeMake]
  kernel_rfl
theorem raftFormsOver : Rows.raftFormsRow.holds Try.pinned (OpenSpec.ofChange Rows.raftFormsSpec) :=
  OpenClaim.holds_of_wide 21 Try.f21 rfl rfl rfl rfl rfl rfl rfl ⟨rfl, rfl, rfl, rfl, rfl⟩ rfl rfl rfl rfl rfl (by kernel_rfl) Try.func21 raftFormsClosed
    (of_decide_eq_true (by kernel_rfl)) (by unfold Func.isWrapper; first | (rw [if_pos (by decide +kernel)]; kernel_rfl) | (rw [if_neg (by decide +kernel)]; exact ⟨rfl, rfl⟩))
    (fun os started H enc _ => raftFormsLifted os started H enc)

theorem raftForms : Rows.RaftFormsSaid := raftFormsOver
#print axioms raftForms
end Go.Proofs.Ytnbfffmdplcajaa
