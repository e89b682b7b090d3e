/- The walk of RaftAppends: it returns true. -/
import Derived.Test.YtnbfffmdplcajaaPre
import Derived.Test.YtnbfffmdplcajaaLogs
import Derived.Test.YtnbfffmdplcajaaTreeW15
namespace Go.Proofs.Ytnbfffmdplcajaa
open Go.Vc Go.Vc.Rf

section
variable {w0 w : World} {H M U : Mp}

set_option maxHeartbeats 8000000 in
theorem raftAppends_runs {r : Raft} {m : Msg} {cs cm : List Value} (hp : Hp w0 w H M) (hr : Ra H cs r) (ho : RaOk r) (hm : Ms H cm m) (mo : m.Ok) :
    Runs Try.prog 15 [.agg cs.toArray, .agg cm.toArray] w fun v w' => v = .bool true ∧ Hp w0 w' H M := by
  have hm0 := hm
  obtain ⟨ss, ls, vs, ns, ms, ak, rs, rfl, hr⟩ := hr
  obtain ⟨a1, n1, c1, a2, n2, c2, rfl, he, hs⟩ := hm
  apply r15
  refine pre_wp hp hr ho hm0 mo rfl fun p1 p2 w1 H1 hp1 hle1 f1 f2 may lm hra hma => ?_
  have f1' : H1 p1 = some [.int .u64 r.term, .int .i64 r.vote, .int .i64 r.id, .int .i64 r.n, .int .u64 r.snap.idx, .int .u64 r.snap.term, .slice ss.a ss.n ss.c, .slice ls.a ls.n ls.c, .int .u64 r.commit, .int .i64 r.role, .int .i64 r.lead,
   .slice vs.a vs.n vs.c, .slice ns.a ns.n ns.c, .slice ms.a ms.n ms.c, .slice ak.a ak.n ak.c, .int .u64 r.round, .slice rs.a rs.n rs.c] := f1
  clear f1
  (repeat' (first | refine wp_bif (fun h => ?_) (fun h => ?_) | (refine wp_load (Hp.loadH (by repeat (first | assumption | apply Hp.drew)) (by assumption) (by simp)) ?_; (repeat apply Exists.intro); refine ⟨rfl, ?_⟩) | refine wp_draw ?_))
  all_goals first | (refine ⟨rfl, ?_⟩; exact Hp.lessH (by repeat (first | assumption | apply Hp.drew)) hle1) | skip
  have hk1 : m.kind = 3 := by simp_all
  have hmine : mine r m = true := mine_mk may.may (by simp_all) (by simp_all) (by simp_all) (by simp_all) (by omega) (by omega)
  have hterm : r.term ≤ m.term := by simp_all
  obtain ⟨x, hsend, x1, x2, x3, x4, x5, x6⟩ := got_appends hmine hk1 hterm may.fit lm
  refine wp_call ((got_runs hp1 hra hma may.fit lm).mono fun v w' h => top_give h) fun v3 w3 h3 => ?_
  obtain ⟨cs3, cq3, H3, rfl, hr3, hq3, hp3, hle3⟩ := h3
  have hr3' := hr3
  obtain ⟨y1, y2, y3, y4, y5, y6, y7, rfl, hy⟩ := hr3
  obtain ⟨z1, z2, z3, rfl, hz1, hz2, hz3⟩ := hq3
  rw [hsend] at hz2
  generalize (got r m).r = A at *
  (repeat apply Exists.intro); refine ⟨rfl, ?_⟩
  refine wp_keep2 hp3 (by rfl) (by rfl) (by simp [Value.oneCell']) (by simp [Value.oneCell']) fun p5 p6 w5 H5 hp5 hle5 f5 f6 => ?_
  have l15 := hle3.trans hle5
  have g1' := l15 _ _ f1'
  have g2' := l15 _ _ f2
  have hfin := hle1.trans l15
  have hr5 := hr.mono (hle1.trans l15)
  have hA5 := hr3'.mono hle5
  have hy5 := hy.mono hle5
  have he5 := he.mono (hle1.trans l15) (En.mono (hle1.trans l15))
  obtain ⟨b, o, ha, hn, k0, k2, k3, k4, k8, k9⟩ := msg0 (hz2.mono hle5 (Ms.mono hle5)) hp5
  obtain ⟨za, zn, zc⟩ := z2
  simp only at ha hn
  subst ha hn
  dsimp only at f6 ⊢
  clear hz1 hz2 hz3 hy hsend f1' f2 hr3' hs hp1 hp3 hr hm0 hra hma
  have hs0 := may.s0
  have hcp := may.cpy.log
  have hi0 := lm.index0
  have hi1 := lm.index
  have hsz := lm.size
  have hne := he5.1
  clear may lm ho mo hp
  (repeat' (first | refine wp_bif (fun h => ?_) (fun h => ?_) | (refine wp_load (Hp.loadH (by repeat (first | assumption | apply Hp.drew)) (by assumption) (by simp)) ?_; (repeat apply Exists.intro); refine ⟨rfl, ?_⟩) | (refine wp_load (k0 (by repeat (first | assumption | apply Hp.drew))) ?_; (repeat apply Exists.intro); refine ⟨rfl, ?_⟩) | (refine wp_load (k2 (by repeat (first | assumption | apply Hp.drew))) ?_; (repeat apply Exists.intro); refine ⟨rfl, ?_⟩) | (refine wp_load (k3 (by repeat (first | assumption | apply Hp.drew))) ?_; (repeat apply Exists.intro); refine ⟨rfl, ?_⟩) | (refine wp_load (k4 (by repeat (first | assumption | apply Hp.drew))) ?_; (repeat apply Exists.intro); refine ⟨rfl, ?_⟩) | (refine wp_load (k8 (by repeat (first | assumption | apply Hp.drew))) ?_; (repeat apply Exists.intro); refine ⟨rfl, ?_⟩) | (refine wp_load (k9 (by repeat (first | assumption | apply Hp.drew))) ?_; (repeat apply Exists.intro); refine ⟨rfl, ?_⟩) | refine wp_draw ?_ | refine wp_some0 ?_ | refine wp_need ⟨by omega, by omega⟩ ?_))
  all_goals first | (refine ⟨?_, Hp.lessH (by repeat (first | assumption | apply Hp.drew)) hfin⟩; simp_all; done) | skip
  · have hok : x.ok = false := by simp_all
    obtain ⟨e1, e2, e3⟩ := x5 hok
    have hal : Sl H5 (En H5) y2.a y2.n y2.c r.log := by rw [← e1]; exact hy5.log
    refine wp_call (sameEntries (by repeat (first | assumption | apply Hp.drew)) hal hr5.log hcp) fun v7 w7 h7 => ?_
    obtain ⟨b7, rfl, i7, hp7⟩ := h7
    have hb7 := i7.2 rfl
    subst hb7
    ((repeat apply Exists.intro); refine ⟨rfl, ?_⟩)
    clear i7 hal
    (repeat' (first | refine wp_bif (fun h => ?_) (fun h => ?_) | (refine wp_load (Hp.loadH (by repeat (first | assumption | apply Hp.drew)) (by assumption) (by simp)) ?_; (repeat apply Exists.intro); refine ⟨rfl, ?_⟩) | (refine wp_load (k0 (by repeat (first | assumption | apply Hp.drew))) ?_; (repeat apply Exists.intro); refine ⟨rfl, ?_⟩) | (refine wp_load (k2 (by repeat (first | assumption | apply Hp.drew))) ?_; (repeat apply Exists.intro); refine ⟨rfl, ?_⟩) | (refine wp_load (k3 (by repeat (first | assumption | apply Hp.drew))) ?_; (repeat apply Exists.intro); refine ⟨rfl, ?_⟩) | (refine wp_load (k4 (by repeat (first | assumption | apply Hp.drew))) ?_; (repeat apply Exists.intro); refine ⟨rfl, ?_⟩) | (refine wp_load (k8 (by repeat (first | assumption | apply Hp.drew))) ?_; (repeat apply Exists.intro); refine ⟨rfl, ?_⟩) | (refine wp_load (k9 (by repeat (first | assumption | apply Hp.drew))) ?_; (repeat apply Exists.intro); refine ⟨rfl, ?_⟩) | refine wp_draw ?_ | refine wp_some0 ?_ | refine wp_need ⟨by omega, by omega⟩ ?_))
    all_goals (refine ⟨?_, Hp.lessH (by repeat (first | assumption | apply Hp.drew)) hfin⟩; first | (simp_all; done) | (simp_all; omega))
  · have hok : x.ok = true := by simp_all
    obtain ⟨e1, e2, e3, e4, e5⟩ := x6 hok
    refine ⟨fun vs w' => ∃ j : Nat, vs = [.int .i64 j] ∧ j ≤ m.entries.length ∧ Hp w0 w' H5 M, fun vs _ => match vs with | [.int _ q] => 30 - q.toNat | _ => 0, ⟨0, rfl, Nat.zero_le _, by repeat (first | assumption | apply Hp.drew)⟩, ?_⟩
    rintro vs w7 ⟨j, rfl, hj, hp7⟩
    have ewrap : IntKind.i64.wrap ((j : Int) + 1) = ((j + 1 : Nat) : Int) := by rw [wrap_i64 (by omega) (by omega)]; rfl
    ((repeat apply Exists.intro); refine ⟨rfl, ?_⟩)
    (refine wp_load (hp7.loadH g2' (by simp)) ?_; (repeat apply Exists.intro); refine ⟨rfl, ?_⟩)
    refine wp_bif (fun h => ?_) fun h => ?_
    · have hjl : j < m.entries.length := by
        have : (j : Int) < n1 := of_decide_eq_true h
        omega
      have again : ∀ {w' : World}, Hp w0 w' H5 M → (∃ j2 : Nat, [Value.int .i64 (IntKind.i64.wrap ((j : Int) + 1))] = [.int .i64 j2] ∧ j2 ≤ m.entries.length ∧ Hp w0 w' H5 M) ∧ 30 - (IntKind.i64.wrap ((j : Int) + 1)).toNat < 30 - (j : Int).toNat := fun h =>
        ⟨⟨j + 1, by rw [ewrap], hjl, h⟩, by rw [ewrap]; omega⟩
      (refine wp_load (hp7.loadH g2' (by simp)) ?_; (repeat apply Exists.intro); refine ⟨rfl, ?_⟩)
      (refine wp_load (hp7.loadH f5 (by simp)) ?_; (repeat apply Exists.intro); refine ⟨rfl, ?_⟩)
      have ew : IntKind.u64.wrap (IntKind.u64.wrap (m.index + 1) + IntKind.u64.wrap (j : Int)) = m.index + 1 + j := by
        rw [wrap_u64 (x := m.index + 1) (by omega) (by omega), wrap_u64 (x := (j : Int)) (by omega) (by omega), wrap_u64 (by omega) (by omega)]
      rw [ew]
      refine wp_bif (fun _ => again hp7) fun h8 => ?_
      have g8 : ¬ m.index + 1 + j ≤ A.snap.idx := of_decide_eq_false h8
      (refine wp_load (hp7.loadH f5 (by simp)) ?_; (repeat apply Exists.intro); refine ⟨rfl, ?_⟩)
      refine wp_call (termAt_runs (i := m.index + 1 + j) hp7 hp7.le_uni hA5 (by rw [e3]; exact hs0) e4) fun v9 w9 h9 => ?_
      obtain ⟨rfl, hp9⟩ := h9
      rw [e5 j hjl (by rw [e3] at g8; omega)]
      ((repeat apply Exists.intro); refine ⟨rfl, ?_⟩)
      refine wp_bif (fun h => by simp at h) fun _ => ?_
      (refine wp_load (hp9.loadH g2' (by simp)) ?_; (repeat apply Exists.intro); refine ⟨rfl, ?_⟩)
      refine wp_idx En.len (by omega) hp9 hp9.le_uni he5 Ent.none 1 (by omega) (by omega) (by omega) fun cs hcs => ?_
      obtain ⟨ea, en, ec, rfl, _⟩ := hcs
      ((repeat apply Exists.intro); refine ⟨rfl, ?_⟩)
      refine wp_bif (fun h => ?_) fun _ => again hp9
      simp at h
    · have ew2 : IntKind.u64.wrap (m.index + IntKind.u64.wrap (n1 : Int)) = m.index + m.entries.length := by
        rw [wrap_u64 (x := (n1 : Int)) (by omega) (by omega), hne, wrap_u64 (by omega) (by omega)]
      (repeat' (first | refine wp_bif (fun h => ?_) (fun h => ?_) | (refine wp_load (Hp.loadH (by repeat (first | assumption | apply Hp.drew)) (by assumption) (by simp)) ?_; (repeat apply Exists.intro); refine ⟨rfl, ?_⟩) | (refine wp_load (k0 (by repeat (first | assumption | apply Hp.drew))) ?_; (repeat apply Exists.intro); refine ⟨rfl, ?_⟩) | (refine wp_load (k2 (by repeat (first | assumption | apply Hp.drew))) ?_; (repeat apply Exists.intro); refine ⟨rfl, ?_⟩) | (refine wp_load (k3 (by repeat (first | assumption | apply Hp.drew))) ?_; (repeat apply Exists.intro); refine ⟨rfl, ?_⟩) | (refine wp_load (k4 (by repeat (first | assumption | apply Hp.drew))) ?_; (repeat apply Exists.intro); refine ⟨rfl, ?_⟩) | (refine wp_load (k8 (by repeat (first | assumption | apply Hp.drew))) ?_; (repeat apply Exists.intro); refine ⟨rfl, ?_⟩) | (refine wp_load (k9 (by repeat (first | assumption | apply Hp.drew))) ?_; (repeat apply Exists.intro); refine ⟨rfl, ?_⟩) | refine wp_draw ?_ | refine wp_some0 ?_ | refine wp_need ⟨by omega, by omega⟩ ?_))
      all_goals (refine ⟨?_, Hp.lessH (by repeat (first | assumption | apply Hp.drew)) hfin⟩)
      · rw [decide_eq_true e2]
      · simp_all
end
end Go.Proofs.Ytnbfffmdplcajaa
