/- shortcutlaw25.RaftBegins returns true whatever it is given, and what it was given reads as before; no condition of ours. -/
import Derived.Test.YtnbfffmdplcajaaWhole
import Derived.Test.YtnbfffmdplcajaaLawRaftBegins
import Derived.Test.YtnbfffmdplcajaaRead2
namespace Go.Proofs.Ytnbfffmdplcajaa
open Go.ChangeShapes Go.WideShapes Go.ChangeAt Go.RowKit
open Go.Vc (Runs Wt hp0)

set_option maxRecDepth 100000 in
set_option maxHeartbeats 4000000 in
theorem raftBeginsLifted (os : Os) (started : os.Started) (H : Type) (enc : TypeId × Value → H) :
    ReturnsInHanded {} Try.checked os 3 .any (Rows.raftBeginsSpec.pre6 enc Try.prog Try.f3 Rows.raftBeginsRow.domain false) (Rows.raftBeginsSpec.post enc Try.prog Try.f3 false true false false) := by
  refine returnsInHanded_of_change_sized (C := Try.checked) own started (by kernel_rfl) Try.func3
    (ChangeSpec.witness6 (enc := enc) (C := Try.checked) false ⟨#[], #[.int .u8 0, .int .u8 0, .agg #[.int .u64 0, .int .i64 0, .int .u64 0, .int .u64 0, .slice none 0 0, .slice none 0 0], .int .u64 0], []⟩ 20 (by kernel_rfl) (by kernel_rfl) (by kernel_rfl) (by kernel_rfl)) ?_
  intro W base args ds gs before hval0 hW hcnd hsz _
  have hval : ∀ (j : Nat) t v, Try.f3.params[j]? = some t → args[j]? = some v → Value.okWide Try.prog W .any base t v := hval0
  have hW' := hW
  obtain ⟨p, q, hA0, hV, rfl, hfz, hnd⟩ := hW
  rw [show Try.f3.params.toList ++ Rows.raftBeginsSpec.plain.varTypes Try.checked.prog = [5, 5, 30, 22] by kernel_rfl] at hsz
  have hA : DataW.TrodAll enc Try.prog W 0 (fun _ => true) true Try.f3.params.toList args.toList ds p := hA0
  rw [Try.params3] at hA hval
  obtain ⟨v0, vs0, d0, ds0, p0, q0, hargs, rfl, rfl, h0, r0⟩ := trodAll_cons hA
  obtain ⟨v1, vs1, d1, ds1, p1, q1, rfl, rfl, rfl, h1, r1⟩ := trodAll_cons r0
  obtain ⟨v2, vs2, d2, ds2, p2, q2, rfl, rfl, rfl, h2, r2⟩ := trodAll_cons r1
  obtain ⟨v3, vs3, d3, ds3, p3, q3, rfl, rfl, rfl, h3, r3⟩ := trodAll_cons r2
  obtain ⟨rfl, rfl, rfl⟩ := trodAll_nil r3
  obtain rfl : args = #[v0, v1, v2, v3] := by cases args; simp_all
  obtain ⟨rfl, rfl⟩ := trodVars_none hV
  have lt0 : ∀ x ∈ p0, x.block < W.heap.size := by obtain ⟨m, hm⟩ := h0; exact DataW.trod_lt m _ _ _ hm
  have lt1 : ∀ x ∈ p1, x.block < W.heap.size := by obtain ⟨m, hm⟩ := h1; exact DataW.trod_lt m _ _ _ hm
  have lt2 : ∀ x ∈ p2, x.block < W.heap.size := by obtain ⟨m, hm⟩ := h2; exact DataW.trod_lt m _ _ _ hm
  have lt3 : ∀ x ∈ p3, x.block < W.heap.size := by obtain ⟨m, hm⟩ := h3; exact DataW.trod_lt m _ _ _ hm
  obtain ⟨a0, rfl⟩ := okWide_int Try.underlying5 (hval 0 5 v0 rfl rfl)
  obtain ⟨a1, rfl⟩ := okWide_int Try.underlying5 (hval 1 5 v1 rfl rfl)
  obtain ⟨c2, rfl, _⟩ := okWide_struct Try.underlying30 (hval 2 30 v2 rfl rfl)
  obtain ⟨z2, rfl⟩ : ∃ l : List Value, c2 = l.toArray := ⟨c2.toList, by simp⟩
  obtain ⟨a3, rfl⟩ := okWide_int Try.underlying22 (hval 3 22 v3 rfl rfl)
  obtain ⟨wt0, hsz⟩ := wt_each hsz
  obtain ⟨wt1, hsz⟩ := wt_each hsz
  obtain ⟨wt2, hsz⟩ := wt_each hsz
  obtain ⟨wt3, hsz⟩ := wt_each hsz
  obtain ⟨m0, hm0⟩ := h0
  obtain ⟨m1, hm1⟩ := h1
  obtain ⟨m2, hm2⟩ := h2
  obtain ⟨m3, hm3⟩ := h3
  obtain ⟨x0, e0, u0, w0⟩ := Vc.rd_int (W := W) (enc := enc) Try.underlying5 ⟨m0, p0, hm0⟩
  simp only [Value.cells, List.cons.injEq, Value.int.injEq, and_true, true_and] at e0
  subst e0
  obtain ⟨x1, e1, u1, w1⟩ := Vc.rd_int (W := W) (enc := enc) Try.underlying5 ⟨m1, p1, hm1⟩
  simp only [Value.cells, List.cons.injEq, Value.int.injEq, and_true, true_and] at e1
  subst e1
  obtain ⟨x2, hx2, ho2⟩ := rd_kept (W := W) (enc := enc) ⟨m2, p2, hm2⟩ wt2
  obtain ⟨x3, e3, u3, w3⟩ := Vc.rd_int (W := W) (enc := enc) Try.underlying22 ⟨m3, p3, hm3⟩
  simp only [Value.cells, List.cons.injEq, Value.int.injEq, and_true, true_and] at e3
  subst e3
  have run := raftBegins_runs (hp0 W) u0 w0 u1 w1 hx2 ho2 u3 w3
  refine run.2.mono fun e W' ⟨v, he, hv, hp'⟩ => ?_
  subst he
  subst hv
  have bel := hp'.below
  exact ⟨_, rfl, _, _, _, [], _, [], hW', trodAll_mk1 (shut_bool Try.underlying4 _), (trodAll_cons_mk (Below.trod laidOut (by kernel_rfl) (of_decide_eq_true (by kernel_rfl)) ⟨m0, hm0⟩ bel lt0) (trodAll_cons_mk (Below.trod laidOut (by kernel_rfl) (of_decide_eq_true (by kernel_rfl)) ⟨m1, hm1⟩ bel lt1) (trodAll_cons_mk (Below.trod laidOut (by kernel_rfl) (of_decide_eq_true (by kernel_rfl)) ⟨m2, hm2⟩ bel lt2) (trodAll_cons_mk (Below.trod laidOut (by kernel_rfl) (of_decide_eq_true (by kernel_rfl)) ⟨m3, hm3⟩ bel lt3) trodAll_mk0)))), rfl, bel.frame _, fun h => by cases h⟩

theorem raftBeginsClosed : joinedFacts Try.prog 3 Try.f3 Rows.raftBeginsSpec Rows.raftBeginsRow = true := by
  unfold joinedFacts
  rw [wholeEnter, wholeLifts, wholeMake]
  kernel_rfl
theorem raftBeginsOver : Rows.raftBeginsRow.holds Try.pinned (OpenSpec.ofChange Rows.raftBeginsSpec) :=
  OpenClaim.holds_of_wide 3 Try.f3 rfl rfl rfl rfl rfl rfl rfl ⟨rfl, rfl, rfl, rfl, rfl⟩ rfl rfl rfl rfl rfl (by kernel_rfl) Try.func3 raftBeginsClosed
    (of_decide_eq_true (by kernel_rfl)) (by unfold Func.isWrapper; first | (rw [if_pos (by decide +kernel)]; kernel_rfl) | (rw [if_neg (by decide +kernel)]; exact ⟨rfl, rfl⟩))
    (fun os started H enc _ => raftBeginsLifted os started H enc)

theorem raftBegins : Rows.RaftBeginsSaid := raftBeginsOver
#print axioms raftBegins
end Go.Proofs.Ytnbfffmdplcajaa
