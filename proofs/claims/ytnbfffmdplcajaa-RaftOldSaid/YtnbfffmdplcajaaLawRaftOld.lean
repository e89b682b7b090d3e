/- The walk of RaftOld: it returns true. -/
import Derived.Test.YtnbfffmdplcajaaPre
import Derived.Test.YtnbfffmdplcajaaTreeW17
namespace Go.Proofs.Ytnbfffmdplcajaa
open Go.Vc Go.Vc.Rf

theorem got_old {r : Raft} {m : Msg} (hm : mine r m = true) (h : m.term < r.term) :
    (m.kind = 2 ∨ m.kind = 4 → got r m = Rf.start r) ∧ (¬ (m.kind = 2 ∨ m.kind = 4) → ∃ x, x.ok = false ∧ x.dest = m.frm ∧ got r m = (Rf.start r).send x) := by
  obtain ⟨_, _, _, _, _, k1, k5⟩ := mine_of hm
  have eg := got_mine hm
  have ey : gotAt r m = Rf.start r := if_neg (by omega)
  rw [ey] at eg
  have hled : (Rf.start r).led m = ((Rf.start r).send { Msg.none with kind := 4, dest := m.frm, round := m.round }, false) := if_pos h
  refine ⟨fun hk => ?_, fun hk => ?_⟩
  · rcases hk with hk | hk
    · rw [eg, if_neg (by omega), if_pos hk]
      exact if_neg fun hh => by have := hh.2.1; change m.term = r.term at this; omega
    · rw [eg, if_neg (by omega), if_neg (by omega), if_neg (by omega), if_neg (by omega)]
      exact if_pos (.inr (by show m.term ≠ r.term; omega))
  · by_cases e1 : m.kind = 1
    · refine ⟨{ Msg.none with kind := 2, dest := m.frm, ok := false }, rfl, rfl, ?_⟩
      rw [eg, if_pos e1]
      have hg : grants (Rf.start r).r m = false := by
        have : ¬ m.term = r.term := by omega
        simp [grants, Rf.start, this]
      unfold Sp.asked
      rw [hg]
      rfl
    · by_cases e3 : m.kind = 3
      · refine ⟨{ Msg.none with kind := 4, dest := m.frm, round := m.round }, rfl, rfl, ?_⟩
        rw [eg, if_neg e1, if_neg (by omega), if_pos e3]
        unfold Sp.appends
        rw [hled]; rfl
      · refine ⟨{ Msg.none with kind := 4, dest := m.frm, round := m.round }, rfl, rfl, ?_⟩
        rw [eg, if_neg e1, if_neg (by omega), if_neg e3, if_pos (by omega)]
        unfold Sp.snaps
        rw [hled]; rfl

section
variable {w0 w : World} {H M U : Mp}

set_option maxHeartbeats 4000000 in
theorem raftOld_runs {r : Raft} {m : Msg} {cs cm : List Value} (hp : Hp w0 w H M) (hr : Ra H cs r) (ho : RaOk r) (hm : Ms H cm m) (mo : m.Ok) :
    Runs Try.prog 17 [.agg cs.toArray, .agg cm.toArray] w fun v w' => v = .bool true ∧ Hp w0 w' H M := by
  have hm0 := hm
  obtain ⟨ss, ls, vs, ns, ms, ak, rs, rfl, hr⟩ := hr
  obtain ⟨a1, n1, c1, a2, n2, c2, rfl, he, hs⟩ := hm
  apply r17
  refine pre_wp hp hr ho hm0 mo rfl fun p1 p2 w1 H1 hp1 hle1 f1 f2 may lm hra hma => ?_
  have f1' : H1 p1 = some [.int .u64 r.term, .int .i64 r.vote, .int .i64 r.id, .int .i64 r.n, .int .u64 r.snap.idx, .int .u64 r.snap.term, .slice ss.a ss.n ss.c, .slice ls.a ls.n ls.c, .int .u64 r.commit, .int .i64 r.role, .int .i64 r.lead,
   .slice vs.a vs.n vs.c, .slice ns.a ns.n ns.c, .slice ms.a ms.n ms.c, .slice ak.a ak.n ak.c, .int .u64 r.round, .slice rs.a rs.n rs.c] := f1
  clear f1
  (repeat' (first | refine wp_bif (fun h => ?_) (fun h => ?_) | (refine wp_load (Hp.loadH (by repeat (first | assumption | apply Hp.drew)) (by assumption) (by simp)) ?_; (repeat apply Exists.intro); refine ⟨rfl, ?_⟩) | refine wp_draw ?_))
  all_goals first | (refine ⟨rfl, ?_⟩; exact Hp.lessH (by repeat (first | assumption | apply Hp.drew)) hle1) | skip
  have hmine : mine r m = true := mine_mk may.may (by simp_all) (by simp_all) (by simp_all) (by simp_all) (by simp_all) (by simp_all)
  have hterm : m.term < r.term := by simp_all
  obtain ⟨g1, g2⟩ := got_old hmine hterm
  have hrr : (got r m).r = r := by
    by_cases e : m.kind = 2 ∨ m.kind = 4
    · rw [g1 e]; rfl
    · obtain ⟨x, _, _, h3⟩ := g2 e
      rw [h3]; rfl
  have hqs : (got r m).q.save = [] ∧ (got r m).q.ready = [] := by
    by_cases e : m.kind = 2 ∨ m.kind = 4
    · rw [g1 e]; exact ⟨rfl, rfl⟩
    · obtain ⟨x, _, _, h3⟩ := g2 e
      rw [h3]; exact ⟨rfl, rfl⟩
  refine wp_call ((got_runs hp1 hra hma may.fit lm).mono fun v w' h => top_give h) fun v3 w3 h3 => ?_
  obtain ⟨cs3, cq3, H3, rfl, hr3, hq3, hp3, hle3⟩ := h3
  rw [hrr] at hr3
  have hr3' := hr3
  obtain ⟨y1, y2, y3, y4, y5, y6, y7, rfl, hy⟩ := hr3
  obtain ⟨z1, z2, z3, rfl, hz1, hz2, hz3⟩ := hq3
  have n1 := hz1.1
  have n3 := hz3.1
  rw [hqs.1] at n1
  rw [hqs.2] at n3
  simp only [List.length_nil] at n1 n3
  (repeat apply Exists.intro); refine ⟨rfl, ?_⟩
  refine wp_keep2 hp3 (by rfl) (by rfl) (by simp [Value.oneCell']) (by simp [Value.oneCell']) fun p5 p6 w5 H5 hp5 hle5 f5 f6 => ?_
  have l15 := hle3.trans hle5
  have g1' := l15 _ _ f1'
  have g2' := l15 _ _ f2
  (refine wp_load (hp5.loadH f5 (by simp)) ?_; (repeat apply Exists.intro); refine ⟨rfl, ?_⟩)
  (refine wp_load (hp5.loadH g1' (by simp)) ?_; (repeat apply Exists.intro); refine ⟨rfl, ?_⟩)
  refine wp_call (same_runs hp5 (hr3'.mono hle5) (hra.mono l15) may.cpy) fun v6 w6 h6 => ?_
  obtain ⟨rfl, hp6⟩ := h6
  ((repeat apply Exists.intro); refine ⟨rfl, ?_⟩)
  refine wp_bif (fun h => by simp at h) fun _ => ?_
  (refine wp_load (hp6.loadH f6 (by simp)) ?_; (repeat apply Exists.intro); refine ⟨rfl, ?_⟩)
  (refine wp_load (hp6.loadH f6 (by simp)) ?_; (repeat apply Exists.intro); refine ⟨rfl, ?_⟩)
  have hfin := hle1.trans l15
  refine wp_bif (fun h => by rw [n1, n3] at h; simp at h; exact absurd h (by decide)) fun _ => ?_
  by_cases e : m.kind = 2 ∨ m.kind = 4
  · have n2 := hz2.1
    rw [g1 e] at n2
    change z2.n = 0 at n2
    (refine wp_load (hp6.loadH g2' (by simp)) ?_; (repeat apply Exists.intro); refine ⟨rfl, ?_⟩)
    rcases e with e | e
    · refine wp_bif (fun _ => ?_) fun h => by rw [e] at h; simp at h
      (refine wp_load (hp6.loadH f6 (by simp)) ?_; (repeat apply Exists.intro); refine ⟨rfl, ?_⟩)
      exact ⟨by rw [n2]; rfl, hp6.lessH hfin⟩
    · refine wp_bif (fun h => by rw [e] at h; simp at h) fun _ => ?_
      (refine wp_load (hp6.loadH g2' (by simp)) ?_; (repeat apply Exists.intro); refine ⟨rfl, ?_⟩)
      refine wp_bif (fun _ => ?_) fun h => by rw [e] at h; simp at h
      (refine wp_load (hp6.loadH f6 (by simp)) ?_; (repeat apply Exists.intro); refine ⟨rfl, ?_⟩)
      exact ⟨by rw [n2]; rfl, hp6.lessH hfin⟩
  · obtain ⟨x, x1, x2, x3⟩ := g2 e
    rw [x3] at hz2
    change Sl H3 (Ms H3) z2.a z2.n z2.c ([] ++ [{ x with frm := r.id, term := r.term }]) at hz2
    obtain ⟨b, o, ha, hn, k0, k2, k3, k4, k8, k9⟩ := msg0 (hz2.mono hle5 (Ms.mono hle5)) hp6
    obtain ⟨za, zn, zc⟩ := z2
    simp only at ha hn
    subst ha hn
    dsimp only at f6 ⊢
    (repeat' (first | refine wp_bif (fun h => ?_) (fun h => ?_) | (refine wp_load (Hp.loadH (by repeat (first | assumption | apply Hp.drew)) (by assumption) (by simp)) ?_; (repeat apply Exists.intro); refine ⟨rfl, ?_⟩) | (refine wp_load (k0 (by repeat (first | assumption | apply Hp.drew))) ?_; (repeat apply Exists.intro); refine ⟨rfl, ?_⟩) | (refine wp_load (k2 (by repeat (first | assumption | apply Hp.drew))) ?_; (repeat apply Exists.intro); refine ⟨rfl, ?_⟩) | (refine wp_load (k3 (by repeat (first | assumption | apply Hp.drew))) ?_; (repeat apply Exists.intro); refine ⟨rfl, ?_⟩) | (refine wp_load (k4 (by repeat (first | assumption | apply Hp.drew))) ?_; (repeat apply Exists.intro); refine ⟨rfl, ?_⟩) | (refine wp_load (k8 (by repeat (first | assumption | apply Hp.drew))) ?_; (repeat apply Exists.intro); refine ⟨rfl, ?_⟩) | (refine wp_load (k9 (by repeat (first | assumption | apply Hp.drew))) ?_; (repeat apply Exists.intro); refine ⟨rfl, ?_⟩) | refine wp_draw ?_ | refine wp_some0 ?_ | refine wp_need ⟨by omega, by omega⟩ ?_))
    all_goals first | (refine ⟨?_, Hp.lessH (by repeat (first | assumption | apply Hp.drew)) hfin⟩; simp_all) | skip
end
end Go.Proofs.Ytnbfffmdplcajaa
