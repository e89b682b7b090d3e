/- shortcutlaw25.RaftMeets returns true whatever it is given, and what it was given reads as before; no condition of ours. -/
import Derived.Test.YtnbfffmdplcajaaFrame
import Derived.Test.YtnbfffmdplcajaaLawRaftMeets
import Derived.Test.YtnbfffmdplcajaaRead2
namespace Go.Proofs.Ytnbfffmdplcajaa
open Go.ChangeShapes Go.WideShapes Go.ChangeAt Go.RowKit
open Go.Vc (Runs Wt hp0)

set_option maxRecDepth 100000 in
set_option maxHeartbeats 4000000 in
theorem raftMeetsLifted (os : Os) (started : os.Started) (H : Type) (enc : TypeId × Value → H) :
    ReturnsInHanded {} Try.checked os 19 .any (Rows.raftMeetsSpec.pre6 enc Try.prog Try.f19 Rows.raftMeetsRow.domain false) (Rows.raftMeetsSpec.post enc Try.prog Try.f19 false true false false) := by
  refine returnsInHanded_of_change_sized (C := Try.checked) own started (by kernel_rfl) Try.func19
    (ChangeSpec.witness6 (enc := enc) (C := Try.checked) false ⟨#[], #[.slice none 0 0, .slice none 0 0], []⟩ 20 (by kernel_rfl) (by kernel_rfl) (by kernel_rfl) (by kernel_rfl)) ?_
  intro W base args ds gs before hval0 hW hcnd hsz _
  have hval : ∀ (j : Nat) t v, Try.f19.params[j]? = some t → args[j]? = some v → Value.okWide Try.prog W .any base t v := hval0
  have hW' := hW
  obtain ⟨p, q, hA0, hV, rfl, hfz, hnd⟩ := hW
  rw [show Try.f19.params.toList ++ Rows.raftMeetsSpec.plain.varTypes Try.checked.prog = [28, 28] by kernel_rfl] at hsz
  have hA : DataW.TrodAll enc Try.prog W 0 (fun _ => true) true Try.f19.params.toList args.toList ds p := hA0
  rw [Try.params19] at hA hval
  obtain ⟨v0, vs0, d0, ds0, p0, q0, hargs, rfl, rfl, h0, r0⟩ := trodAll_cons hA
  obtain ⟨v1, vs1, d1, ds1, p1, q1, rfl, rfl, rfl, h1, r1⟩ := trodAll_cons r0
  obtain ⟨rfl, rfl, rfl⟩ := trodAll_nil r1
  obtain rfl : args = #[v0, v1] := by cases args; simp_all
  obtain ⟨rfl, rfl⟩ := trodVars_none hV
  have lt0 : ∀ x ∈ p0, x.block < W.heap.size := by obtain ⟨m, hm⟩ := h0; exact DataW.trod_lt m _ _ _ hm
  have lt1 : ∀ x ∈ p1, x.block < W.heap.size := by obtain ⟨m, hm⟩ := h1; exact DataW.trod_lt m _ _ _ hm
  obtain ⟨a0, len0, cap0, rfl⟩ := okWide_slice Try.underlying28 (hval 0 28 v0 rfl rfl)
  obtain ⟨a1, len1, cap1, rfl⟩ := okWide_slice Try.underlying28 (hval 1 28 v1 rfl rfl)
  obtain ⟨wt0, hsz⟩ := wt_each hsz
  obtain ⟨wt1, hsz⟩ := wt_each hsz
  obtain ⟨m0, hm0⟩ := h0
  obtain ⟨m1, hm1⟩ := h1
  obtain ⟨b0, n0, k0, l0, e0, hl0, hn0, ho0⟩ := rd_ents (W := W) (enc := enc) ⟨m0, p0, hm0⟩ wt0
  simp only [Value.cells, List.cons.injEq, Value.slice.injEq, and_true] at e0
  obtain ⟨rfl, rfl, rfl⟩ := e0
  obtain ⟨b1, n1, k1, l1, e1, hl1, hn1, ho1⟩ := rd_ents (W := W) (enc := enc) ⟨m1, p1, hm1⟩ wt1
  simp only [Value.cells, List.cons.injEq, Value.slice.injEq, and_true] at e1
  obtain ⟨rfl, rfl, rfl⟩ := e1
  have run := raftMeets_runs (hp0 W) hl0 hn0 ho0 hl1 hn1 ho1
  refine run.2.mono fun e W' ⟨v, he, hv, hp'⟩ => ?_
  subst he
  subst hv
  have bel := hp'.below
  exact ⟨_, rfl, _, _, _, [], _, [], hW', trodAll_mk1 (shut_bool Try.underlying4 _), (trodAll_cons_mk (Below.trod laidOut (by kernel_rfl) (of_decide_eq_true (by kernel_rfl)) ⟨m0, hm0⟩ bel lt0) (trodAll_cons_mk (Below.trod laidOut (by kernel_rfl) (of_decide_eq_true (by kernel_rfl)) ⟨m1, hm1⟩ bel lt1) trodAll_mk0)), rfl, bel.frame _, fun h => by cases h⟩

theorem raftMeetsClosed : joinedFacts Try.prog 19 Try.f19 Rows.raftMeetsSpec Rows.raftMeetsRow = true := by
  unfold joinedFacts
  rw [wholeEnter, wholeLifts, wholeMake]
  kernel_rfl
theorem raftMeetsOver : Rows.raftMeetsRow.holds Try.pinned (OpenSpec.ofChange Rows.raftMeetsSpec) :=
  OpenClaim.holds_of_wide 19 Try.f19 rfl rfl rfl rfl rfl rfl rfl ⟨rfl, rfl, rfl, rfl, rfl⟩ rfl rfl rfl rfl rfl (by kernel_rfl) Try.func19 raftMeetsClosed
    (of_decide_eq_true (by kernel_rfl)) (by unfold Func.isWrapper; first | (rw [if_pos (by decide +kernel)]; kernel_rfl) | (rw [if_neg (by decide +kernel)]; exact ⟨rfl, rfl⟩))
    (fun os started H enc _ => raftMeetsLifted os started H enc)

theorem raftMeets : Rows.RaftMeetsSaid := raftMeetsOver
#print axioms raftMeets
end Go.Proofs.Ytnbfffmdplcajaa
