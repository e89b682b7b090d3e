/- shortcutlaw25.RaftElects returns true whatever it is given, and what it was given reads as before; no condition of ours. -/
import Derived.Test.YtnbfffmdplcajaaFrame
import Derived.Test.YtnbfffmdplcajaaLawRaftElects
import Derived.Test.YtnbfffmdplcajaaRead2
namespace Go.Proofs.Ytnbfffmdplcajaa
open Go.ChangeShapes Go.WideShapes Go.ChangeAt Go.RowKit
open Go.Vc (Runs Wt hp0)

set_option maxRecDepth 100000 in
set_option maxHeartbeats 4000000 in
theorem raftElectsLifted (os : Os) (started : os.Started) (H : Type) (enc : TypeId × Value → H) :
    ReturnsInHanded {} Try.checked os 18 .any (Rows.raftElectsSpec.pre6 enc Try.prog Try.f18 Rows.raftElectsRow.domain false) (Rows.raftElectsSpec.post enc Try.prog Try.f18 false true false false) := by
  refine returnsInHanded_of_change_sized (C := Try.checked) own started (by kernel_rfl) Try.func18
    (ChangeSpec.witness6 (enc := enc) (C := Try.checked) false ⟨#[], #[.slice none 0 0, .bool false], []⟩ 20 (by kernel_rfl) (by kernel_rfl) (by kernel_rfl) (by kernel_rfl)) ?_
  intro W base args ds gs before hval0 hW hcnd hsz _
  have hval : ∀ (j : Nat) t v, Try.f18.params[j]? = some t → args[j]? = some v → Value.okWide Try.prog W .any base t v := hval0
  have hW' := hW
  obtain ⟨p, q, hA0, hV, rfl, hfz, hnd⟩ := hW
  rw [show Try.f18.params.toList ++ Rows.raftElectsSpec.plain.varTypes Try.checked.prog = [28, 4] by kernel_rfl] at hsz
  have hA : DataW.TrodAll enc Try.prog W 0 (fun _ => true) true Try.f18.params.toList args.toList ds p := hA0
  rw [Try.params18] at hA hval
  obtain ⟨v0, vs0, d0, ds0, p0, q0, hargs, rfl, rfl, h0, r0⟩ := trodAll_cons hA
  obtain ⟨v1, vs1, d1, ds1, p1, q1, rfl, rfl, rfl, h1, r1⟩ := trodAll_cons r0
  obtain ⟨rfl, rfl, rfl⟩ := trodAll_nil r1
  obtain rfl : args = #[v0, v1] := by cases args; simp_all
  obtain ⟨rfl, rfl⟩ := trodVars_none hV
  have lt0 : ∀ x ∈ p0, x.block < W.heap.size := by obtain ⟨m, hm⟩ := h0; exact DataW.trod_lt m _ _ _ hm
  have lt1 : ∀ x ∈ p1, x.block < W.heap.size := by obtain ⟨m, hm⟩ := h1; exact DataW.trod_lt m _ _ _ hm
  obtain ⟨a0, len0, cap0, rfl⟩ := okWide_slice Try.underlying28 (hval 0 28 v0 rfl rfl)
  obtain ⟨a1, rfl⟩ := okWide_bool Try.underlying4 (hval 1 4 v1 rfl rfl)
  obtain ⟨wt0, hsz⟩ := wt_each hsz
  obtain ⟨wt1, hsz⟩ := wt_each hsz
  obtain ⟨m0, hm0⟩ := h0
  obtain ⟨m1, hm1⟩ := h1
  obtain ⟨b0, n0, k0, l0, e0, hl0, hn0, ho0⟩ := rd_ents (W := W) (enc := enc) ⟨m0, p0, hm0⟩ wt0
  simp only [Value.cells, List.cons.injEq, Value.slice.injEq, and_true] at e0
  obtain ⟨rfl, rfl, rfl⟩ := e0
  have run := raftElects_runs (second := a1) (hp0 W) hl0 hn0 ho0
  refine run.2.mono fun e W' ⟨v, he, hv, hp'⟩ => ?_
  subst he
  subst hv
  have bel := hp'.below
  exact ⟨_, rfl, _, _, _, [], _, [], hW', trodAll_mk1 (shut_bool Try.underlying4 _), (trodAll_cons_mk (Below.trod laidOut (by kernel_rfl) (of_decide_eq_true (by kernel_rfl)) ⟨m0, hm0⟩ bel lt0) (trodAll_cons_mk (Below.trod laidOut (by kernel_rfl) (of_decide_eq_true (by kernel_rfl)) ⟨m1, hm1⟩ bel lt1) trodAll_mk0)), rfl, bel.frame _, fun h => by cases h⟩

theorem raftElectsClosed : joinedFacts Try.prog 18 Try.f18 Rows.raftElectsSpec Rows.raftElectsRow = true := by
  unfold joinedFacts
  rw [wholeEnter, wholeLifts, wholeMake]
  kernel_rfl
theorem raftElectsOver : Rows.raftElectsRow.holds Try.pinned (OpenSpec.ofChange Rows.raftElectsSpec) :=
  OpenClaim.holds_of_wide 18 Try.f18 rfl rfl rfl rfl rfl rfl rfl ⟨rfl, rfl, rfl, rfl, rfl⟩ rfl rfl rfl rfl rfl (by kernel_rfl) Try.func18 raftElectsClosed
    (of_decide_eq_true (by kernel_rfl)) (by unfold Func.isWrapper; first | (rw [if_pos (by decide +kernel)]; kernel_rfl) | (rw [if_neg (by decide +kernel)]; exact ⟨rfl, rfl⟩))
    (fun os started H enc _ => raftElectsLifted os started H enc)

theorem raftElects : Rows.RaftElectsSaid := raftElectsOver
#print axioms raftElects
end Go.Proofs.Ytnbfffmdplcajaa
