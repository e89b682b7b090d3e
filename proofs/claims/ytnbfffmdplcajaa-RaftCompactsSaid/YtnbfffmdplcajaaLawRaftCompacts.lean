/- The walk of RaftCompacts: it returns true. -/
import Derived.Test.YtnbfffmdplcajaaLawKit
import Derived.Test.YtnbfffmdplcajaaTreeL1
namespace Go.Proofs.Ytnbfffmdplcajaa
open Go.Vc Go.Vc.Rf

section
variable {w0 w : World} {H M U : Mp}

theorem raftCompacts_runs {r : Raft} {cs : List Value} {a : Option Addr} {n c : Nat} {d : List UInt8} {i : Int} (hp : Hp w0 w H M) (hr : Ra H cs r) (ho : RaOk r) (hd : Bs H a n c d) (_ : 0 ≤ i) (_ : i ≤ 18446744073709551615) :
    Runs Try.prog 4 [.agg cs.toArray, .slice a n c, .int .u64 i] w fun v w' => v = .bool true ∧ Hp w0 w' H M := by
  have hr0 := hr
  obtain ⟨ss, ls, vs, ns, ms, ak, rs, rfl, hr⟩ := hr
  apply r4
  refine wp_newH hp fun p1 w1 H1 hp1 hle1 f1 => ?_
  refine wp_call (begun_runs hp1) fun v2 w2 h2 => ?_
  obtain ⟨rfl, hp2⟩ := h2
  ((repeat apply Exists.intro); refine ⟨rfl, ?_⟩)
  refine wp_bif (fun h => by simp at h) fun _ => ?_
  (refine wp_load (hp2.loadH f1 (by simp)) ?_; (repeat apply Exists.intro); refine ⟨rfl, ?_⟩)
  refine wp_call (may25_runs hp2 (hr0.mono hle1) ho) fun v3 w3 h3 => ?_
  obtain ⟨b3, rfl, hmay, hp3⟩ := h3
  ((repeat apply Exists.intro); refine ⟨rfl, ?_⟩)
  refine wp_bif (fun _ => ⟨rfl, hp3.lessH hle1⟩) fun h => ?_
  have may := hmay (by simpa using h)
  refine wp_bif (fun _ => ⟨rfl, hp3.lessH hle1⟩) fun _ => ?_
  have hf := may.fit
  have c0 := may.c0
  have c1 := may.c1
  have hla : lastI r ≤ 9000000000000000000 := by have := hf.bd.last; change lastI r ≤ _ at this; omega
  (refine wp_load (hp3.loadH f1 (by simp)) ?_; (repeat apply Exists.intro); refine ⟨rfl, ?_⟩)
  refine wp_call ((compact_runs hp3 (hr0.mono hle1) hf (hd.mono hle1)).mono fun v w' h => top_give h) fun v4 w4 h4 => ?_
  obtain ⟨cs4, cq4, H4, rfl, hr4, hq4, hp4, hle4⟩ := h4
  -- what it is
  obtain ⟨R, Q, eRQ, fR, lR, tR, iR, aR, cR, sQ, mQ⟩ : ∃ R Q, compact r d = ⟨R, Q⟩ ∧ Fit R ∧ lastI R = lastI r ∧ lastT R = lastT r ∧ R.snap.idx = r.commit ∧ (∀ j, r.commit ≤ j → termAt R j = termAt r j) ∧ R.commit = r.commit ∧ (decide ((Q.save.length : Int) = 1) = decide (r.commit > r.snap.idx)) ∧ Q.send = [] := by
    by_cases e : r.snap.idx < r.commit
    · refine ⟨_, _, compact_eq e c1, compacted_fit hf c0 c1, compacted_last c0 c1, compacted_lastT c0 c1, rfl, fun j hj => compacted_termAt c0 c1 hj, rfl, ?_, rfl⟩
      simp [e]
    · refine ⟨r, Out.none, if_neg e, hf, rfl, rfl, by omega, fun _ _ => rfl, rfl, ?_, rfl⟩
      simp [Out.none, e]
  rw [eRQ] at hr4 hq4
  have hr4' := hr4
  obtain ⟨y1, y2, y3, y4, y5, y6, y7, rfl, hy⟩ := hr4
  obtain ⟨z1, z2, z3, rfl, hz1, hz2, hz3⟩ := hq4
  have nz1 := hz1.1
  have nz2 := hz2.1
  change z1.n = Q.save.length at nz1
  change z2.n = Q.send.length at nz2
  rw [mQ] at nz2
  ((repeat apply Exists.intro); refine ⟨rfl, ?_⟩)
  refine wp_keep2 hp4 (by rfl) (by rfl) (by simp [Value.oneCell']) (by simp [Value.oneCell']) fun p5 p6 w5 H5 hp5 hle5 f5 f6 => ?_
  have l15 := hle4.trans hle5
  (refine wp_load (hp5.loadH (l15 _ _ f1) (by simp)) ?_; (repeat apply Exists.intro); refine ⟨rfl, ?_⟩)
  refine wp_call (last_runs hp5 hp5.le_uni (hr0.mono (hle1.trans l15)) may.s0 hla) fun v6 w6 h6 => ?_
  obtain ⟨rfl, hp6⟩ := h6
  ((repeat apply Exists.intro); refine ⟨rfl, ?_⟩)
  (refine wp_load (hp6.loadH f5 (by simp)) ?_; (repeat apply Exists.intro); refine ⟨rfl, ?_⟩)
  have hla' : lastI R ≤ 9000000000000000000 := by rw [lR]; exact hla
  refine wp_call (last_runs hp6 hp6.le_uni (hr4'.mono hle5) fR.bd.idx hla') fun v7 w7 h7 => ?_
  obtain ⟨rfl, hp7⟩ := h7
  ((repeat apply Exists.intro); refine ⟨rfl, ?_⟩)
  (refine wp_load (hp7.loadH f5 (by simp)) ?_; (repeat apply Exists.intro); refine ⟨rfl, ?_⟩)
  refine wp_newMark hp7 fun p8 w8 H8 hp8 hle8 f8 => ?_
  have hbs : Bs H8 (some ⟨p8, 0, none⟩) 5 5 [111, 116, 104, 101, 114] := ⟨rfl, by simp, by simp, .inr ⟨p8, 0, _, rfl, f8, rfl⟩⟩
  refine wp_call ((compact_runs hp8 (hr4'.mono (hle5.trans hle8)) fR hbs).mono fun v w' h => top_give h) fun v9 w9 h9 => ?_
  obtain ⟨cs9, cq9, H9, rfl, hr9, hq9, hp9, hle9⟩ := h9
  have e9 : compact R [111, 116, 104, 101, 114] = Rf.start R := if_neg (by omega)
  rw [e9] at hr9 hq9
  change Ra H9 cs9 R at hr9
  have hr9' := hr9
  obtain ⟨x1, x2, x3, x4, x5, x6, x7, rfl, hx⟩ := hr9
  obtain ⟨u1, u2, u3, rfl, hu1, hu2, hu3⟩ := hq9
  have nu1 := hu1.1
  change u1.n = 0 at nu1
  ((repeat apply Exists.intro); refine ⟨rfl, ?_⟩)
  refine wp_keep2 hp9 (by rfl) (by rfl) (by simp [Value.oneCell']) (by simp [Value.oneCell']) fun p10 p11 w10 H10 hp10 hle10 f10 f11 => ?_
  have l510 := (hle8.trans hle9).trans hle10
  have g5 := l510 _ _ f5
  have g6 := l510 _ _ f6
  have g1 := l510 _ _ (l15 _ _ f1)
  have hr5 := (hr4'.mono hle5).mono l510
  have hr1 := (hr0.mono (hle1.trans l15)).mono l510
  refine wp_bif (fun h => by rw [lR] at h; simp at h) fun _ => ?_
  refine wp_bif (fun h => by rw [tR] at h; simp at h) fun _ => ?_
  (refine wp_load (hp10.loadH g5 (by simp)) ?_; (repeat apply Exists.intro); refine ⟨rfl, ?_⟩)
  (refine wp_load (hp10.loadH f10 (by simp)) ?_; (repeat apply Exists.intro); refine ⟨rfl, ?_⟩)
  refine wp_call (same_runs hp10 hr5 (hr9'.mono hle10) fR.cpy) fun v11 w11 h11 => ?_
  obtain ⟨rfl, hp11⟩ := h11
  ((repeat apply Exists.intro); refine ⟨rfl, ?_⟩)
  refine wp_bif (fun h => by simp at h) fun _ => ?_
  (refine wp_load (hp11.loadH f11 (by simp)) ?_; (repeat apply Exists.intro); refine ⟨rfl, ?_⟩)
  refine wp_bif (fun h => by rw [nu1] at h; simp at h) fun _ => ?_
  (refine wp_load (hp11.loadH g6 (by simp)) ?_; (repeat apply Exists.intro); refine ⟨rfl, ?_⟩)
  refine wp_bif (fun h => by rw [nz2] at h; simp at h) fun _ => ?_
  (refine wp_load (hp11.loadH g5 (by simp)) ?_; (repeat apply Exists.intro); refine ⟨rfl, ?_⟩)
  (refine wp_load (hp11.loadH g1 (by simp)) ?_; (repeat apply Exists.intro); refine ⟨rfl, ?_⟩)
  refine wp_bif (fun h => by rw [iR] at h; simp at h) fun _ => ?_
  (refine wp_load (hp11.loadH g6 (by simp)) ?_; (repeat apply Exists.intro); refine ⟨rfl, ?_⟩)
  (refine wp_load (hp11.loadH g1 (by simp)) ?_; (repeat apply Exists.intro); refine ⟨rfl, ?_⟩)
  (refine wp_load (hp11.loadH g1 (by simp)) ?_; (repeat apply Exists.intro); refine ⟨rfl, ?_⟩)
  refine wp_bif (fun h => ?_) fun _ => ?_
  · exfalso
    rw [nz1, ← sQ] at h
    revert h
    by_cases e : (Q.save.length : Int) = 1 <;> simp [e]
  (refine wp_load (hp11.loadH g1 (by simp)) ?_; (repeat apply Exists.intro); refine ⟨rfl, ?_⟩)
  have hfin := hle1.trans (l15.trans l510)
  refine wp_bif (fun _ => ⟨rfl, hp11.lessH hfin⟩) fun h12 => ?_
  have g12 : ¬ i < r.commit := of_decide_eq_false h12
  (refine wp_load (hp11.loadH g1 (by simp)) ?_; (repeat apply Exists.intro); refine ⟨rfl, ?_⟩)
  refine wp_call (termAt_runs (i := i) hp11 hp11.le_uni hr1 may.s0 hla) fun v13 w13 h13 => ?_
  obtain ⟨rfl, hp13⟩ := h13
  ((repeat apply Exists.intro); refine ⟨rfl, ?_⟩)
  (refine wp_load (hp13.loadH g5 (by simp)) ?_; (repeat apply Exists.intro); refine ⟨rfl, ?_⟩)
  refine wp_call (termAt_runs (i := i) hp13 hp13.le_uni hr5 fR.bd.idx hla') fun v14 w14 h14 => ?_
  obtain ⟨rfl, hp14⟩ := h14
  ((repeat apply Exists.intro); refine ⟨rfl, ?_⟩)
  rw [aR i (by omega)]
  refine wp_bif (fun _ => ?_) fun h => by simp at h
  exact ⟨by simp, hp14.lessH hfin⟩
end
end Go.Proofs.Ytnbfffmdplcajaa
