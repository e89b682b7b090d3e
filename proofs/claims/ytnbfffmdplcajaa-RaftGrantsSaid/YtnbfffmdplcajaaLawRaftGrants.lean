/- The walk of RaftGrants: it returns true. -/
import Derived.Test.YtnbfffmdplcajaaPre
import Derived.Test.YtnbfffmdplcajaaTreeW13
namespace Go.Proofs.Ytnbfffmdplcajaa
open Go.Vc Go.Vc.Rf

def newer (r : Raft) (m : Msg) : Bool := decide (lastT r < m.logTerm) || (m.logTerm == lastT r && decide (lastI r ≤ m.index))
def free (r : Raft) (m : Msg) : Bool := decide (r.term < m.term) || (m.term == r.term && (r.vote == 0 || r.vote == m.frm))

theorem got_grants {r : Raft} {m : Msg} (hm : mine r m = true) (hk : m.kind = 1) :
    ∃ g : Bool, g = (newer r m && free r m) ∧ (got r m).q.send = [{ Msg.none with kind := 2, frm := r.id, dest := m.frm, term := (got r m).r.term, ok := g }] ∧ (g = true → (got r m).r.vote = m.frm ∧ (got r m).r.term = m.term) := by
  have eg := got_mine hm
  rw [if_pos hk] at eg
  by_cases ht : r.term < m.term
  · have ey : gotAt r m = (Rf.start r).follows m.term := if_pos ht
    have hgr : grants (gotAt r m).r m = newer r m := by
      rw [ey]
      show (m.term == m.term && ((0 : Int) == 0 || (0 : Int) == m.frm) && fresh _ m) = _
      simp [fresh, newer]
      rfl
    have hf : free r m = true := by simp [free, ht]
    have hv : (gotAt r m).r.vote = 0 := by rw [ey]; rfl
    refine ⟨newer r m, by rw [hf]; simp, ?_, ?_⟩
    · rw [eg]
      unfold Sp.asked
      rw [hgr, hv]
      cases newer r m
      · rw [ey]; rfl
      · rw [ey]; rfl
    · intro hn
      rw [eg]
      unfold Sp.asked
      rw [hgr, hv, hn, ey]
      exact ⟨rfl, rfl⟩
  · have ey : gotAt r m = Rf.start r := if_neg ht
    have hgr : grants (gotAt r m).r m = (newer r m && free r m) := by
      rw [ey]
      have hlt : decide (r.term < m.term) = false := by simp [ht]
      unfold free
      rw [hlt, Bool.false_or, Bool.and_comm (newer r m)]
      rfl
    refine ⟨newer r m && free r m, rfl, ?_, ?_⟩
    · rw [eg]
      unfold Sp.asked
      rw [hgr, ey]
      cases hg : (newer r m && free r m && (Rf.start r).r.vote == 0)
      · rfl
      · rfl
    · intro hn
      rw [eg]
      unfold Sp.asked
      rw [hgr, hn, ey]
      simp only [Bool.and_eq_true] at hn
      have hf := hn.2
      simp only [free, ht, decide_false, Bool.false_or, Bool.and_eq_true, beq_iff_eq, Bool.or_eq_true] at hf
      obtain ⟨f1, f2⟩ := hf
      by_cases hv : r.vote = 0
      · have : (true && (Rf.start r).r.vote == 0) = true := by simp [Rf.start, hv]
        rw [if_pos this]
        exact ⟨rfl, f1.symm⟩
      · have : ¬ (true && (Rf.start r).r.vote == 0) = true := by simp [Rf.start, hv]
        rw [if_neg this]
        exact ⟨f2.resolve_left hv, f1.symm⟩

section
variable {w0 w : World} {H M U : Mp}

set_option maxHeartbeats 8000000 in
theorem raftGrants_runs {r : Raft} {m : Msg} {cs cm : List Value} (hp : Hp w0 w H M) (hr : Ra H cs r) (ho : RaOk r) (hm : Ms H cm m) (mo : m.Ok) :
    Runs Try.prog 13 [.agg cs.toArray, .agg cm.toArray] w fun v w' => v = .bool true ∧ Hp w0 w' H M := by
  have hm0 := hm
  obtain ⟨ss, ls, vs, ns, ms, ak, rs, rfl, hr⟩ := hr
  obtain ⟨a1, n1, c1, a2, n2, c2, rfl, he, hs⟩ := hm
  apply r13
  refine pre_wp hp hr ho hm0 mo rfl fun p1 p2 w1 H1 hp1 hle1 f1 f2 may lm hra hma => ?_
  have f1' : H1 p1 = some [.int .u64 r.term, .int .i64 r.vote, .int .i64 r.id, .int .i64 r.n, .int .u64 r.snap.idx, .int .u64 r.snap.term, .slice ss.a ss.n ss.c, .slice ls.a ls.n ls.c, .int .u64 r.commit, .int .i64 r.role, .int .i64 r.lead,
   .slice vs.a vs.n vs.c, .slice ns.a ns.n ns.c, .slice ms.a ms.n ms.c, .slice ak.a ak.n ak.c, .int .u64 r.round, .slice rs.a rs.n rs.c] := f1
  clear f1
  (repeat' (first | refine wp_bif (fun h => ?_) (fun h => ?_) | (refine wp_load (Hp.loadH (by repeat (first | assumption | apply Hp.drew)) (by assumption) (by simp)) ?_; (repeat apply Exists.intro); refine ⟨rfl, ?_⟩) | refine wp_draw ?_))
  all_goals first | (refine ⟨rfl, ?_⟩; exact Hp.lessH (by repeat (first | assumption | apply Hp.drew)) hle1) | skip
  have hk1 : m.kind = 1 := by simp_all
  have hmine : mine r m = true := mine_mk may.may (by simp_all) (by simp_all) (by simp_all) (by simp_all) (by omega) (by omega)
  obtain ⟨g, hg, hsend, hvote⟩ := got_grants hmine hk1
  refine wp_call ((got_runs hp1 hra hma may.fit lm).mono fun v w' h => top_give h) fun v3 w3 h3 => ?_
  obtain ⟨cs3, cq3, H3, rfl, hr3, hq3, hp3, hle3⟩ := h3
  obtain ⟨y1, y2, y3, y4, y5, y6, y7, rfl, hy⟩ := hr3
  obtain ⟨z1, z2, z3, rfl, hz1, hz2, hz3⟩ := hq3
  rw [hsend] at hz2
  generalize (got r m).r = A at *
  (repeat apply Exists.intro); refine ⟨rfl, ?_⟩
  refine wp_keep2 hp3 (by rfl) (by rfl) (by simp [Value.oneCell']) (by simp [Value.oneCell']) fun p5 p6 w5 H5 hp5 hle5 f5 f6 => ?_
  have l15 := hle3.trans hle5
  have g1' := l15 _ _ f1'
  have g2' := l15 _ _ f2
  have hfin := hle1.trans l15
  have hra5 := hra.mono l15
  obtain ⟨b, o, ha, hn, k0, k2, k3, k4, k8, k9⟩ := msg0 (hz2.mono hle5 (Ms.mono hle5)) hp5
  obtain ⟨za, zn, zc⟩ := z2
  simp only at ha hn
  subst ha hn
  dsimp only at f6 ⊢
  clear hz1 hz2 hz3 hy hsend f1' f2
  have hla : lastI r ≤ 9000000000000000000 := by have := may.fit.bd.last; change lastI r ≤ _ at this; omega
  have hs0 := may.s0
  clear hp1 hp3 may lm hra hma hr ho hm0 mo hp
  (repeat' (first | refine wp_bif (fun h => ?_) (fun h => ?_) | (refine wp_load (Hp.loadH (by repeat (first | assumption | apply Hp.drew)) (by assumption) (by simp)) ?_; (repeat apply Exists.intro); refine ⟨rfl, ?_⟩) | (refine wp_load (k0 (by repeat (first | assumption | apply Hp.drew))) ?_; (repeat apply Exists.intro); refine ⟨rfl, ?_⟩) | (refine wp_load (k2 (by repeat (first | assumption | apply Hp.drew))) ?_; (repeat apply Exists.intro); refine ⟨rfl, ?_⟩) | (refine wp_load (k3 (by repeat (first | assumption | apply Hp.drew))) ?_; (repeat apply Exists.intro); refine ⟨rfl, ?_⟩) | (refine wp_load (k4 (by repeat (first | assumption | apply Hp.drew))) ?_; (repeat apply Exists.intro); refine ⟨rfl, ?_⟩) | (refine wp_load (k8 (by repeat (first | assumption | apply Hp.drew))) ?_; (repeat apply Exists.intro); refine ⟨rfl, ?_⟩) | (refine wp_load (k9 (by repeat (first | assumption | apply Hp.drew))) ?_; (repeat apply Exists.intro); refine ⟨rfl, ?_⟩) | refine wp_draw ?_ | refine wp_some0 ?_ | refine wp_need ⟨by omega, by omega⟩ ?_))
  all_goals first | (refine ⟨?_, Hp.lessH (by repeat (first | assumption | apply Hp.drew)) hfin⟩; simp_all; done) | skip
  refine wp_call (last_runs (by repeat (first | assumption | apply Hp.drew)) (Hp.le_uni (by repeat (first | assumption | apply Hp.drew))) hra5 hs0 hla) fun v7 w7 h7 => ?_
  obtain ⟨rfl, hp7⟩ := h7
  ((repeat apply Exists.intro); refine ⟨rfl, ?_⟩)
  (repeat' (first | refine wp_bif (fun h => ?_) (fun h => ?_) | (refine wp_load (Hp.loadH (by repeat (first | assumption | apply Hp.drew)) (by assumption) (by simp)) ?_; (repeat apply Exists.intro); refine ⟨rfl, ?_⟩) | (refine wp_load (k0 (by repeat (first | assumption | apply Hp.drew))) ?_; (repeat apply Exists.intro); refine ⟨rfl, ?_⟩) | (refine wp_load (k2 (by repeat (first | assumption | apply Hp.drew))) ?_; (repeat apply Exists.intro); refine ⟨rfl, ?_⟩) | (refine wp_load (k3 (by repeat (first | assumption | apply Hp.drew))) ?_; (repeat apply Exists.intro); refine ⟨rfl, ?_⟩) | (refine wp_load (k4 (by repeat (first | assumption | apply Hp.drew))) ?_; (repeat apply Exists.intro); refine ⟨rfl, ?_⟩) | (refine wp_load (k8 (by repeat (first | assumption | apply Hp.drew))) ?_; (repeat apply Exists.intro); refine ⟨rfl, ?_⟩) | (refine wp_load (k9 (by repeat (first | assumption | apply Hp.drew))) ?_; (repeat apply Exists.intro); refine ⟨rfl, ?_⟩) | refine wp_draw ?_ | refine wp_some0 ?_ | refine wp_need ⟨by omega, by omega⟩ ?_))
  all_goals first | (refine ⟨?_, Hp.lessH (by repeat (first | assumption | apply Hp.drew)) hfin⟩) | skip
  all_goals clear k0 k2 k3 k4 k8 k9 f5 f6 g1' g2' hra5 hfin hle1 hle3 hle5 l15
  all_goals (unfold newer free at hg; first | (simp_all; done) | (simp_all; omega))
end
end Go.Proofs.Ytnbfffmdplcajaa
