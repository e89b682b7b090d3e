/- The walk of RaftMost: it returns true. -/
import Derived.Test.YtnbfffmdplcajaaPre
import Derived.Test.YtnbfffmdplcajaaMost
import Derived.Test.YtnbfffmdplcajaaTreeW12
namespace Go.Proofs.Ytnbfffmdplcajaa
open Go.Vc Go.Vc.Rf

section
variable {w0 w : World} {H M U : Mp}

set_option maxHeartbeats 8000000 in
theorem raftMost_runs {r : Raft} {m : Msg} {cs cm : List Value} (hp : Hp w0 w H M) (hr : Ra H cs r) (ho : RaOk r) (hm : Ms H cm m) (mo : m.Ok) :
    Runs Try.prog 12 [.agg cs.toArray, .agg cm.toArray] w fun v w' => v = .bool true ∧ Hp w0 w' H M := by
  have hm0 := hm
  obtain ⟨ss, ls, vs, ns, ms, ak, rs, rfl, hr⟩ := hr
  obtain ⟨a1, n1, c1, a2, n2, c2, rfl, he, hs⟩ := hm
  apply r12
  refine pre_wp hp hr ho hm0 mo rfl fun p1 p2 w1 H1 hp1 hle1 f1 f2 may lm hra hma => ?_
  have f1' : H1 p1 = some [.int .u64 r.term, .int .i64 r.vote, .int .i64 r.id, .int .i64 r.n, .int .u64 r.snap.idx, .int .u64 r.snap.term, .slice ss.a ss.n ss.c, .slice ls.a ls.n ls.c, .int .u64 r.commit, .int .i64 r.role, .int .i64 r.lead,
   .slice vs.a vs.n vs.c, .slice ns.a ns.n ns.c, .slice ms.a ms.n ms.c, .slice ak.a ak.n ak.c, .int .u64 r.round, .slice rs.a rs.n rs.c] := f1
  clear f1
  (repeat' (first | refine wp_bif (fun h => ?_) (fun h => ?_) | (refine wp_load (Hp.loadH (by repeat (first | assumption | apply Hp.drew)) (by assumption) (by simp)) ?_; (repeat apply Exists.intro); refine ⟨rfl, ?_⟩) | refine wp_draw ?_))
  all_goals first | (refine ⟨rfl, ?_⟩; exact Hp.lessH (by repeat (first | assumption | apply Hp.drew)) hle1) | skip
  have hr2 : r.role = 2 := by simp_all
  have hmost := got_most (m := m) may hr2
  refine wp_call ((got_runs hp1 hra hma may.fit lm).mono fun v w' h => top_give h) fun v3 w3 h3 => ?_
  obtain ⟨cs3, cq3, H3, rfl, hr3, hq3, hp3, hle3⟩ := h3
  have hr3' := hr3
  obtain ⟨y1, y2, y3, y4, y5, y6, y7, rfl, hy⟩ := hr3
  obtain ⟨z1, z2, z3, rfl, hz1, hz2, hz3⟩ := hq3
  generalize (got r m).r = A at *
  (repeat apply Exists.intro); refine ⟨rfl, ?_⟩
  refine wp_keep2 hp3 (by rfl) (by rfl) (by simp [Value.oneCell']) (by simp [Value.oneCell']) fun p5 p6 w5 H5 hp5 hle5 f5 f6 => ?_
  have l15 := hle3.trans hle5
  have g1' := l15 _ _ f1'
  have hfin := hle1.trans l15
  have hA5 := hr3'.mono hle5
  have hy5 := hy.mono hle5
  (refine wp_load (hp5.loadH f5 (by simp)) ?_; (repeat apply Exists.intro); refine ⟨rfl, ?_⟩)
  refine wp_bif (fun _ => ⟨rfl, hp5.lessH hfin⟩) fun h7 => ?_
  have g7 : A.role = 2 := by simpa using h7
  (refine wp_load (hp5.loadH f5 (by simp)) ?_; (repeat apply Exists.intro); refine ⟨rfl, ?_⟩)
  (refine wp_load (hp5.loadH g1' (by simp)) ?_; (repeat apply Exists.intro); refine ⟨rfl, ?_⟩)
  refine wp_bif (fun _ => ⟨rfl, hp5.lessH hfin⟩) fun h8 => ?_
  have g8 : A.commit ≠ r.commit := by simpa using h8
  obtain ⟨e1, e2, e3, e4, e5, e6, e7⟩ := hmost g7 g8
  have hmn := hy5.mat.1
  have h1 := may.n1
  have h2 := may.n7
  have h3 := may.id1
  have h4 := may.idn
  have s0 := may.s0
  have s1 := may.s1
  have hlg := may.log
  refine ⟨fun vs w' => ∃ j : Nat, vs = [.int .i64 (1 + (cnt r.id A.mat A.commit j : Nat) : Int), .int .i64 j] ∧ j ≤ A.mat.length ∧ Hp w0 w' H5 M, fun vs _ => match vs with | [_, .int _ q] => 9 - q.toNat | _ => 0, ⟨0, rfl, Nat.zero_le _, hp5⟩, ?_⟩
  rintro vs w7 ⟨j, rfl, hj, hp7⟩
  have ewrap : IntKind.i64.wrap ((j : Int) + 1) = ((j + 1 : Nat) : Int) := by rw [wrap_i64 (by omega) (by omega)]; rfl
  have hcl := cnt_le r.id A.mat A.commit j
  have hsc := cnt_succ r.id A.mat A.commit j
  ((repeat apply Exists.intro); refine ⟨rfl, ?_⟩)
  (refine wp_load (hp7.loadH f5 (by simp)) ?_; (repeat apply Exists.intro); refine ⟨rfl, ?_⟩)
  refine wp_bif (fun h => ?_) fun h => ?_
  · have hjl : j < A.mat.length := by
      have : (j : Int) < y5.n := by first | exact of_decide_eq_true h | (have := of_decide_eq_true h; omega)
      first | omega | (rw [← hmn]; omega)
    have again : ∀ {w' : World} {k : Int}, Hp w0 w' H5 M → k = 1 + (cnt r.id A.mat A.commit (j + 1) : Nat) → (∃ j2 : Nat, [Value.int .i64 k, Value.int .i64 (IntKind.i64.wrap ((j : Int) + 1))] = [.int .i64 (1 + (cnt r.id A.mat A.commit j2 : Nat) : Int), .int .i64 j2] ∧ j2 ≤ A.mat.length ∧ Hp w0 w' H5 M) ∧ 9 - (IntKind.i64.wrap ((j : Int) + 1)).toNat < 9 - (j : Int).toNat := fun h e =>
      ⟨⟨j + 1, by rw [ewrap, e], hjl, h⟩, by rw [ewrap]; omega⟩
    have hp8 := hp7.drew
    (refine wp_load (hp8.loadH f5 (by simp)) ?_; (repeat apply Exists.intro); refine ⟨rfl, ?_⟩)
    have ei : IntKind.i64.wrap (A.id - 1) = r.id - 1 := by rw [e2]; exact wrap_i64 (by omega) (by omega)
    rw [ei]
    refine wp_bif (fun h9 => ?_) fun h9 => ?_
    · (refine wp_load (hp8.loadH f5 (by simp)) ?_; (repeat apply Exists.intro); refine ⟨rfl, ?_⟩)
      refine wp_idx Nu.len (by omega) hp8 hp8.le_uni hy5.mat 0 1 (by omega) (by omega) (by omega) fun cs hcs => ?_
      cases hcs
      ((repeat apply Exists.intro); refine ⟨rfl, ?_⟩)
      (refine wp_load (hp8.loadH f5 (by simp)) ?_; (repeat apply Exists.intro); refine ⟨rfl, ?_⟩)
      change VC.wp _ _ (bif decide (nth A.mat j ≥ A.commit) then _ else _) _ _
      refine wp_bif (fun h10 => ?_) fun h10 => ?_
      · have g10 : A.commit ≤ nth A.mat j := of_decide_eq_true h10
        refine again hp8 ?_
        rw [wrap_i64 (by omega) (by omega), hsc, if_pos (by simp only [h9, Bool.true_and]; exact decide_eq_true g10)]
        omega
      · have g10 : ¬ A.commit ≤ nth A.mat j := of_decide_eq_false h10
        refine again hp8 ?_
        rw [hsc, if_neg (by simp only [h9, Bool.true_and]; simpa using g10)]
        omega
    · refine again hp8 ?_
      rw [hsc, if_neg (by simp only [h9, Bool.false_and]; simp)]
      omega
  · have hje : j = A.mat.length := by
      have : ¬ (j : Int) < y5.n := by first | exact of_decide_eq_false h | (have := of_decide_eq_false h; omega)
      omega
    subst hje
    rw [e1] at hcl ⊢
    (refine wp_load (hp7.loadH f5 (by simp)) ?_; (repeat apply Exists.intro); refine ⟨rfl, ?_⟩)
    (refine wp_load (hp7.loadH f5 (by simp)) ?_; (repeat apply Exists.intro); refine ⟨rfl, ?_⟩)
    have hlA : lastI A ≤ 9000000000000000000 := by unfold lastI; rw [e4, e5]; omega
    refine wp_call (termAt_runs (i := A.commit) hp7 hp7.le_uni hA5 (by rw [e4]; exact s0) hlA) fun v9 w9 h9 => ?_
    obtain ⟨rfl, hp9⟩ := h9
    rw [e7]
    ((repeat apply Exists.intro); refine ⟨rfl, ?_⟩)
    (refine wp_load (hp9.loadH f5 (by simp)) ?_; (repeat apply Exists.intro); refine ⟨rfl, ?_⟩)
    rw [wrap_i64 (by omega) (by omega), e3]
    refine wp_bif (fun _ => ?_) fun h => ?_
    rotate_left
    · exact absurd e6 (of_decide_eq_false h)
    refine wp_bif (fun _ => ?_) fun h => by cases h
    (refine wp_load (hp9.loadH f5 (by simp)) ?_; (repeat apply Exists.intro); refine ⟨rfl, ?_⟩)
    exact ⟨by simp, hp9.lessH hfin⟩
end
end Go.Proofs.Ytnbfffmdplcajaa
