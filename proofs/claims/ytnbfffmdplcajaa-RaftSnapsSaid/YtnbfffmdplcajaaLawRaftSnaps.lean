/- The walk of RaftSnaps: it returns true. -/
import Derived.Test.YtnbfffmdplcajaaPre
import Derived.Test.YtnbfffmdplcajaaTreeW16
namespace Go.Proofs.Ytnbfffmdplcajaa
open Go.Vc Go.Vc.Rf

theorem got_snaps {r : Raft} {m : Msg} (hm : mine r m = true) (hk : m.kind = 5) (ht : m.term = r.term) (hc : r.snap.idx ≤ r.commit) :
    ∃ x, (got r m).q.send = [x] ∧ x.kind = 4 ∧ x.ok = true ∧ x.index = (got r m).r.commit ∧ x.round = m.round ∧ (got r m).r.role = 0 ∧ (got r m).r.lead = m.frm ∧
      (m.snap.idx ≤ r.commit → (got r m).r.commit = r.commit ∧ (got r m).q.save = [] ∧ (got r m).r.log = r.log ∧ (got r m).r.snap = r.snap) ∧
      (r.commit < m.snap.idx → (got r m).r.commit = m.snap.idx ∧ (got r m).q.save = [recS m.snap] ∧ (got r m).r.snap = m.snap ∧ (got r m).r.log.length ≤ r.log.length) := by
  have eg := got_mine hm
  have ey : gotAt r m = Rf.start r := if_neg (by omega)
  rw [ey, if_neg (by omega), if_neg (by omega), if_neg (by omega), if_pos hk] at eg
  have hled : (Rf.start r).led m = (({ (Rf.start r) with r := { r with role := 0, lead := m.frm } } : Sp).bare, true) := if_neg (by show ¬ m.term < r.term; omega)
  by_cases e : r.commit < m.snap.idx
  · have e2 : r.snap.idx < m.snap.idx := by omega
    have es : got r m = ((((({ (Rf.start r) with r := { r with role := 0, lead := m.frm } } : Sp).bare.save [recS m.snap]).shift m.snap).commit m.snap.idx).send { Msg.none with kind := 4, dest := m.frm, ok := true, index := m.snap.idx, round := m.round }) := by
      rw [eg]
      unfold Sp.snaps
      rw [hled]
      have c1 : (({ (Rf.start r) with r := { r with role := 0, lead := m.frm } } : Sp).bare).r.commit < m.snap.idx := e
      have c2 : (({ (Rf.start r) with r := { r with role := 0, lead := m.frm } } : Sp).bare.save [recS m.snap]).r.snap.idx < m.snap.idx := e2
      simp only [Bool.true_eq_false, if_false, c1, if_true, c2]
      rfl
    have hll := (({ (Rf.start r) with r := { r with role := 0, lead := m.frm } } : Sp).bare.save [recS m.snap])
    rw [es]
    refine ⟨_, rfl, rfl, rfl, rfl, rfl, rfl, rfl, fun h => by omega, fun _ => ⟨rfl, rfl, rfl, ?_⟩⟩
    show (if _ then _ else _ : List Ent).length ≤ _
    split
    · rw [List.length_drop]
      show r.log.length - _ ≤ _
      omega
    · simp
  · have es : got r m = (({ (Rf.start r) with r := { r with role := 0, lead := m.frm } } : Sp).bare).send { Msg.none with kind := 4, dest := m.frm, ok := true, index := r.commit, round := m.round } := by
      rw [eg]
      unfold Sp.snaps
      rw [hled]
      have c1 : ¬ (({ (Rf.start r) with r := { r with role := 0, lead := m.frm } } : Sp).bare).r.commit < m.snap.idx := e
      simp only [Bool.true_eq_false, if_false, c1]
      rfl
    rw [es]
    exact ⟨_, rfl, rfl, rfl, rfl, rfl, rfl, rfl, fun _ => ⟨rfl, rfl, rfl, rfl⟩, fun h => by omega⟩

section
variable {w0 w : World} {H M U : Mp}

set_option maxHeartbeats 8000000 in
theorem raftSnaps_runs {r : Raft} {m : Msg} {cs cm : List Value} (hp : Hp w0 w H M) (hr : Ra H cs r) (ho : RaOk r) (hm : Ms H cm m) (mo : m.Ok) :
    Runs Try.prog 16 [.agg cs.toArray, .agg cm.toArray] w fun v w' => v = .bool true ∧ Hp w0 w' H M := by
  have hm0 := hm
  obtain ⟨ss, ls, vs, ns, ms, ak, rs, rfl, hr⟩ := hr
  obtain ⟨a1, n1, c1, a2, n2, c2, rfl, he, hs⟩ := hm
  apply r16
  refine pre_wp hp hr ho hm0 mo rfl fun p1 p2 w1 H1 hp1 hle1 f1 f2 may lm hra hma => ?_
  have f1' : H1 p1 = some [.int .u64 r.term, .int .i64 r.vote, .int .i64 r.id, .int .i64 r.n, .int .u64 r.snap.idx, .int .u64 r.snap.term, .slice ss.a ss.n ss.c, .slice ls.a ls.n ls.c, .int .u64 r.commit, .int .i64 r.role, .int .i64 r.lead,
   .slice vs.a vs.n vs.c, .slice ns.a ns.n ns.c, .slice ms.a ms.n ms.c, .slice ak.a ak.n ak.c, .int .u64 r.round, .slice rs.a rs.n rs.c] := f1
  clear f1
  (repeat' (first | refine wp_bif (fun h => ?_) (fun h => ?_) | (refine wp_load (Hp.loadH (by repeat (first | assumption | apply Hp.drew)) (by assumption) (by simp)) ?_; (repeat apply Exists.intro); refine ⟨rfl, ?_⟩) | refine wp_draw ?_))
  all_goals first | (refine ⟨rfl, ?_⟩; exact Hp.lessH (by repeat (first | assumption | apply Hp.drew)) hle1) | skip
  have hk1 : m.kind = 5 := by simp_all
  have hmine : mine r m = true := mine_mk may.may (by simp_all) (by simp_all) (by simp_all) (by simp_all) (by omega) (by omega)
  have hterm : m.term = r.term := by simp_all
  obtain ⟨x, hsend, x1, x2, x3, x4, x5, x6, x7, x8⟩ := got_snaps hmine hk1 hterm may.c0
  refine wp_call ((got_runs hp1 hra hma may.fit lm).mono fun v w' h => top_give h) fun v3 w3 h3 => ?_
  obtain ⟨cs3, cq3, H3, rfl, hr3, hq3, hp3, hle3⟩ := h3
  have hr3' := hr3
  obtain ⟨y1, y2, y3, y4, y5, y6, y7, rfl, hy⟩ := hr3
  obtain ⟨z1, z2, z3, rfl, hz1, hz2, hz3⟩ := hq3
  have nz1 := hz1.1
  rw [hsend] at hz2
  generalize (got r m).r = A at *
  generalize (got r m).q.save = S at *
  (repeat apply Exists.intro); refine ⟨rfl, ?_⟩
  refine wp_keep2 hp3 (by rfl) (by rfl) (by simp [Value.oneCell']) (by simp [Value.oneCell']) fun p5 p6 w5 H5 hp5 hle5 f5 f6 => ?_
  have l15 := hle3.trans hle5
  have g1' := l15 _ _ f1'
  have g2' := l15 _ _ f2
  have hfin := hle1.trans l15
  have hra5 := hra.mono l15
  have hr5 := hr.mono (hle1.trans l15)
  have hA5 := hr3'.mono hle5
  have hy5 := hy.mono hle5
  have hs5 := hs.mono (hle1.trans l15)
  have hz15 := hz1.mono hle5 (Rc.mono hle5)
  obtain ⟨b, o, ha, hn, k0, k2, k3, k4, k8, k9⟩ := msg0 (hz2.mono hle5 (Ms.mono hle5)) hp5
  obtain ⟨za, zn, zc⟩ := z2
  simp only at ha hn
  subst ha hn
  dsimp only at f6 ⊢
  clear hz1 hz2 hz3 hy hsend f1' f2 hr3' hs hp1 hp3 hr hm0 hra hma
  have hs0 := lm.snap0
  have hs1 := lm.snap
  have hlg := may.log
  have hcp := may.cpy.log
  clear may lm ho mo hp
  (repeat' (first | refine wp_bif (fun h => ?_) (fun h => ?_) | (refine wp_load (Hp.loadH (by repeat (first | assumption | apply Hp.drew)) (by assumption) (by simp)) ?_; (repeat apply Exists.intro); refine ⟨rfl, ?_⟩) | (refine wp_load (k0 (by repeat (first | assumption | apply Hp.drew))) ?_; (repeat apply Exists.intro); refine ⟨rfl, ?_⟩) | (refine wp_load (k2 (by repeat (first | assumption | apply Hp.drew))) ?_; (repeat apply Exists.intro); refine ⟨rfl, ?_⟩) | (refine wp_load (k3 (by repeat (first | assumption | apply Hp.drew))) ?_; (repeat apply Exists.intro); refine ⟨rfl, ?_⟩) | (refine wp_load (k4 (by repeat (first | assumption | apply Hp.drew))) ?_; (repeat apply Exists.intro); refine ⟨rfl, ?_⟩) | (refine wp_load (k8 (by repeat (first | assumption | apply Hp.drew))) ?_; (repeat apply Exists.intro); refine ⟨rfl, ?_⟩) | (refine wp_load (k9 (by repeat (first | assumption | apply Hp.drew))) ?_; (repeat apply Exists.intro); refine ⟨rfl, ?_⟩) | refine wp_draw ?_ | refine wp_some0 ?_ | refine wp_need ⟨by omega, by omega⟩ ?_))
  all_goals first | (refine ⟨?_, Hp.lessH (by repeat (first | assumption | apply Hp.drew)) hfin⟩; simp_all; done) | skip
  · have hle : m.snap.idx ≤ r.commit := by simp_all
    obtain ⟨e1, e2, e3, e4⟩ := x7 hle
    have hal : Sl H5 (En H5) y2.a y2.n y2.c r.log := by rw [← e3]; exact hy5.log
    have hst : Bs H5 y1.a y1.n y1.c r.snap.state := by rw [← e4]; exact hy5.state
    refine wp_call (sameEntries (by repeat (first | assumption | apply Hp.drew)) hal hr5.log hcp) fun v7 w7 h7 => ?_
    obtain ⟨b7, rfl, i7, hp7⟩ := h7
    ((repeat apply Exists.intro); refine ⟨rfl, ?_⟩)
    refine wp_bif (fun _ => ?_) fun h => (by rw [h] at i7; simp at i7)
    (refine wp_load (hp7.loadH f5 (by simp)) ?_; (repeat apply Exists.intro); refine ⟨rfl, ?_⟩)
    (refine wp_load (hp7.loadH g1' (by simp)) ?_; (repeat apply Exists.intro); refine ⟨rfl, ?_⟩)
    rw [e4]
    refine wp_call (sameSnap (s := r.snap) (t := r.snap) hp7 hst hr5.state) fun v8 w8 h8 => ?_
    obtain ⟨b8, rfl, i8, hp8⟩ := h8
    ((repeat apply Exists.intro); refine ⟨rfl, ?_⟩)
    exact ⟨by rw [i8.2 rfl], hp8.lessH hfin⟩
  · have hgt : r.commit < m.snap.idx := by simp_all
    obtain ⟨e1, e2, e3, e4⟩ := x8 hgt
    have hlA : lastI A ≤ 9000000000000000000 := by unfold lastI; rw [e3]; omega
    refine wp_call (last_runs (by repeat (first | assumption | apply Hp.drew)) (Hp.le_uni (by repeat (first | assumption | apply Hp.drew))) hA5 (by rw [e3]; exact hs0) hlA) fun v7 w7 h7 => ?_
    obtain ⟨rfl, hp7⟩ := h7
    ((repeat apply Exists.intro); refine ⟨rfl, ?_⟩)
    rw [e2] at nz1 hz15
    obtain ⟨b2, o2, c2, ha2, hc2, hat2⟩ := Sl.elem (i := 0) Rc.len hz15 hp7 rfl (by omega)
    obtain ⟨_, _, _, _, _, _, rfl, _⟩ := hc2
    simp only [List.length_cons, List.length_nil] at nz1
    have r0 := fun {w' : World} (h : Hp w0 w' H5 M) => hat2 _ _ h 0 1 (by omega)
    simp only [Nat.zero_mul, Nat.add_zero] at r0
    (refine wp_load (hp7.loadH f5 (by simp)) ?_; (repeat apply Exists.intro); refine ⟨rfl, ?_⟩)
    (refine wp_load (hp7.loadH g2' (by simp)) ?_; (repeat apply Exists.intro); refine ⟨rfl, ?_⟩)
    refine wp_bif (fun _ => ?_) fun h => by rw [e1] at h; simp at h
    (refine wp_load (hp7.loadH f6 (by simp)) ?_; (repeat apply Exists.intro); refine ⟨rfl, ?_⟩)
    refine wp_bif (fun _ => ?_) fun h => by rw [nz1] at h; simp at h
    (refine wp_load (hp7.loadH f6 (by simp)) ?_; (repeat apply Exists.intro); refine ⟨rfl, ?_⟩)
    refine ⟨_, ha2, ⟨by omega, by omega⟩, ?_⟩
    (refine wp_load (r0 hp7) ?_; (repeat apply Exists.intro); refine ⟨rfl, ?_⟩)
    refine wp_bif (fun _ => ?_) fun h => by simp [recS] at h
    (refine wp_load (hp7.loadH f5 (by simp)) ?_; (repeat apply Exists.intro); refine ⟨rfl, ?_⟩)
    (refine wp_load (hp7.loadH g2' (by simp)) ?_; (repeat apply Exists.intro); refine ⟨rfl, ?_⟩)
    have hst : Bs H5 y1.a y1.n y1.c m.snap.state := by rw [← e3]; exact hy5.state
    rw [e3]
    refine wp_call (sameSnap (s := m.snap) (t := m.snap) hp7 hst hs5) fun v8 w8 h8 => ?_
    obtain ⟨b8, rfl, i8, hp8⟩ := h8
    ((repeat apply Exists.intro); refine ⟨rfl, ?_⟩)
    refine wp_bif (fun _ => ?_) fun h => (by rw [h] at i8; simp at i8)
    (refine wp_load (hp8.loadH f5 (by simp)) ?_; (repeat apply Exists.intro); refine ⟨rfl, ?_⟩)
    refine ⟨?_, hp8.lessH hfin⟩
    have : A.commit ≤ lastI A := by unfold lastI; rw [e3]; omega
    simp [this]
end
end Go.Proofs.Ytnbfffmdplcajaa
