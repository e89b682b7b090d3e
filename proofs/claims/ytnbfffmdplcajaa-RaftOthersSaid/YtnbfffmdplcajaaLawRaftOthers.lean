/- The walk of RaftOthers: it returns true. -/
import Derived.Test.YtnbfffmdplcajaaPre
import Derived.Test.YtnbfffmdplcajaaTreeW14
namespace Go.Proofs.Ytnbfffmdplcajaa
open Go.Vc Go.Vc.Rf

section
variable {w0 w : World} {H M U : Mp}

set_option maxHeartbeats 4000000 in
theorem raftOthers_runs {r : Raft} {m : Msg} {cs cm : List Value} (hp : Hp w0 w H M) (hr : Ra H cs r) (ho : RaOk r) (hm : Ms H cm m) (mo : m.Ok) :
    Runs Try.prog 14 [.agg cs.toArray, .agg cm.toArray] w fun v w' => v = .bool true ∧ Hp w0 w' H M := by
  have hm0 := hm
  obtain ⟨ss, ls, vs, ns, ms, ak, rs, rfl, hr⟩ := hr
  obtain ⟨a1, n1, c1, a2, n2, c2, rfl, he, hs⟩ := hm
  apply r14
  refine pre_wp hp hr ho hm0 mo rfl fun p1 p2 w1 H1 hp1 hle1 f1 f2 may lm hra hma => ?_
  have f1' : H1 p1 = some [.int .u64 r.term, .int .i64 r.vote, .int .i64 r.id, .int .i64 r.n, .int .u64 r.snap.idx, .int .u64 r.snap.term, .slice ss.a ss.n ss.c, .slice ls.a ls.n ls.c, .int .u64 r.commit, .int .i64 r.role, .int .i64 r.lead,
   .slice vs.a vs.n vs.c, .slice ns.a ns.n ns.c, .slice ms.a ms.n ms.c, .slice ak.a ak.n ak.c, .int .u64 r.round, .slice rs.a rs.n rs.c] := f1
  clear f1
  (repeat' (first | refine wp_bif (fun h => ?_) (fun h => ?_) | (refine wp_load (Hp.loadH (by repeat (first | assumption | apply Hp.drew)) (by assumption) (by simp)) ?_; (repeat apply Exists.intro); refine ⟨rfl, ?_⟩) | refine wp_draw ?_))
  all_goals first | (refine ⟨rfl, ?_⟩; exact Hp.lessH (by repeat (first | assumption | apply Hp.drew)) hle1) | skip
  all_goals (have hmine : mine r m = false := by (rw [Bool.eq_false_iff]; intro hh; have hh' := mine_of hh; first | (simp_all; done) | (simp_all; omega)))
  all_goals (
    refine wp_call ((got_runs hp1 hra hma may.fit lm).mono fun v w' h => top_give h) fun v3 w3 h3 => ?_
    obtain ⟨cs3, cq3, H3, rfl, hr3, hq3, hp3, hle3⟩ := h3
    rw [show got r m = Rf.start r from if_pos hmine] at hr3 hq3
    change Ra H3 cs3 r at hr3
    have hr3' := hr3
    obtain ⟨y1, y2, y3, y4, y5, y6, y7, rfl, hy⟩ := hr3
    obtain ⟨z1, z2, z3, rfl, hz1, hz2, hz3⟩ := hq3
    have n1 := hz1.1
    have n2 := hz2.1
    have n3 := hz3.1
    change z1.n = 0 at n1
    change z2.n = 0 at n2
    change z3.n = 0 at n3
    (repeat apply Exists.intro); refine ⟨rfl, ?_⟩
    refine wp_keep2 hp3 (by rfl) (by rfl) (by simp [Value.oneCell']) (by simp [Value.oneCell']) fun p5 p6 w5 H5 hp5 hle5 f5 f6 => ?_
    have l15 := hle3.trans hle5
    (refine wp_load (hp5.loadH f5 (by simp)) ?_; (repeat apply Exists.intro); refine ⟨rfl, ?_⟩)
    (refine wp_load (hp5.loadH (l15 _ _ f1') (by simp)) ?_; (repeat apply Exists.intro); refine ⟨rfl, ?_⟩)
    refine wp_call (same_runs hp5 (hr3'.mono hle5) (hra.mono l15) may.cpy) fun v6 w6 h6 => ?_
    obtain ⟨rfl, hp6⟩ := h6
    refine ⟨true, rfl, ?_⟩
    refine wp_bif (fun _ => ?_) fun h => by simp at h
    (refine wp_load (hp6.loadH f6 (by simp)) ?_; (repeat apply Exists.intro); refine ⟨rfl, ?_⟩)
    (refine wp_load (hp6.loadH f6 (by simp)) ?_; (repeat apply Exists.intro); refine ⟨rfl, ?_⟩)
    (refine wp_load (hp6.loadH f6 (by simp)) ?_; (repeat apply Exists.intro); refine ⟨rfl, ?_⟩)
    refine ⟨?_, hp6.lessH (hle1.trans l15)⟩
    rw [n1, n2, n3]
    rfl)
end
end Go.Proofs.Ytnbfffmdplcajaa
