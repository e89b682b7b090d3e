/- Contract: begun: it does something. -/
import Derived.Test.YtnbfffmdplcajaaR9
import Derived.Test.YtnbfffmdplcajaaTreeW22
namespace Go.Vc
section
variable {P : Program} {R : Value → World → Prop} {env : Nat → List Value → World → Prop} {w0 w : World} {H M : Mp}
/-- Two variables made, and written once. -/
theorem wp_keep2 (hp : Hp w0 w H M) {e e' : TypeId} {z vs z' us : List Value} (hz : z.length = vs.length) (hz' : z'.length = us.length) (h1 : ∀ v ∈ vs, v.oneCell' = true) (h1' : ∀ v ∈ us, v.oneCell' = true) {k : Nat → Nat → VC}
    (hk : ∀ b c w' H', Hp w0 w' H' M → H.le H' → H' b = some vs → H' c = some us → (k b c).wp P R env w') : (VC.new e z fun b => .new e' z' fun c => .store ⟨b, 0, none⟩ vs (.store ⟨c, 0, none⟩ us (k b c))).wp P R env w := by
  refine wp_new hp fun b w1 hp1 hM1 hH1 => wp_new hp1 fun c w2 hp2 hM2 hH2 => ?_
  have hne : b ≠ c := fun e => by subst e; simp at hM2
  have hM2' : M c = none := by rwa [Mp.put_other (Ne.symm hne)] at hM2
  refine wp_store hp2 ((Mp.put_other hne).trans (Mp.put_same _ _ _)) (by omega) h1 fun w3 hp3 => ?_
  refine wp_store hp3 ((Mp.put_other (Ne.symm hne)).trans (Mp.put_same _ _ _)) (by omega) h1' fun w4 hp4 => ?_
  rw [splice_all hz.symm, splice_all hz'.symm] at hp4
  have e1 : (((M.put b z).put c z').put b vs).put c us = (M.put b vs).put c us := by
    funext x
    by_cases hx : x = c <;> by_cases hy : x = b <;> simp [Mp.put, hx, hy]
  rw [e1] at hp4
  obtain ⟨hp5, l5⟩ := hp4.fix (by rw [Mp.put_other (Ne.symm hne)]; exact hM2')
  obtain ⟨hp6, l6⟩ := hp5.fix hM1
  exact hk b c w4 _ hp6 (l5.trans l6) (Mp.put_same _ _ _) (l6 _ _ (Mp.put_same _ _ _))
end
end Go.Vc
namespace Go.Proofs.Ytnbfffmdplcajaa
open Go.Vc Go.Vc.Rf

section
variable {w0 w : World} {H M U : Mp}

def k0 : Kept := ⟨0, 0, Snp.none, []⟩
theorem kp0 : Kp H [.int .u64 0, .int .i64 0, .int .u64 0, .int .u64 0, .slice none 0 0, .slice none 0 0] k0 := ⟨⟨none, 0, 0⟩, ⟨none, 0, 0⟩, rfl, Bs.nil _, Sl.nil _ _⟩
theorem fit_new {id n : Int} {kp : Kept} (hn : n ≤ 7) (h0 : 0 ≤ kp.snap.idx) (h1 : kp.snap.idx + kp.entries.length ≤ 2000000000000000000) (h2 : 0 ≤ kp.term) (h3 : kp.term ≤ 2000000000000000000) (h4 : kp.entries.length ≤ 1000000) : Fit (newR id n kp) := by
  refine ⟨⟨h0, ?_, h2, ?_, by simp [newR, Rf.start, Raft.none], by simp [newR, Rf.start, Raft.none], fun x hx => (by cases hx), fun x hx => (by cases hx), ?_, by simp [newR, Rf.start, Raft.none], hn, by simp [Rf.start, Out.none], by simp [Rf.start, Out.none], by simp [Rf.start, Out.none]⟩, ?_, by simp [newR, Raft.none], by simp [newR, Raft.none], by simp [newR, Raft.none], by simp [newR, Raft.none], by simp [newR, Raft.none]⟩
  · show kp.snap.idx + kp.entries.length ≤ _
    omega
  · show kp.term ≤ _
    omega
  · show kp.entries.length ≤ _
    omega
  · show kp.entries.length ≤ _
    omega
theorem fit0 (n : Int) (hn : n ≤ 7) : Fit (newR 1 n k0) := fit_new hn (by decide) (by decide) (by decide) (by decide) (by decide)

/-- A top's two values, given up. -/
theorem top_give {x : Sp} {v : Value} {w' : World} (h : Top w0 H M x v w') :
    ∃ cs cq H', v = .tuple #[.agg cs.toArray, .agg cq.toArray] ∧ Ra H' cs x.r ∧ Ou H' cq x.q ∧ Hp w0 w' H' M ∧ H.le H' := by
  obtain ⟨va, vq, rfl, hr⟩ := h
  obtain ⟨cs, cq, H', rfl, rfl, h1, h2, h3, h4⟩ := hr.give
  exact ⟨cs, cq, H', rfl, h1, h2, h3, h4⟩
theorem top3_give {x : Sp} {b : Bool} {v : Value} {w' : World} (h : Top3 w0 H M x b v w') :
    ∃ cs cq H', v = .tuple #[.agg cs.toArray, .agg cq.toArray, .bool b] ∧ Ra H' cs x.r ∧ Ou H' cq x.q ∧ Hp w0 w' H' M ∧ H.le H' := by
  obtain ⟨va, vq, rfl, hr⟩ := h
  obtain ⟨cs, cq, H', rfl, rfl, h1, h2, h3, h4⟩ := hr.give
  exact ⟨cs, cq, H', rfl, h1, h2, h3, h4⟩

theorem begun_runs (hp : Hp w0 w H M) : Runs Try.prog 22 [] w fun v w' => v = .bool true ∧ Hp w0 w' H M := by
  apply r22
  refine wp_call (new_runs hp kp0 (by decide)) fun v1 w1 h1 => ?_
  obtain ⟨cs1, H1, rfl, hr1, hp1, hle1⟩ := h1
  have hr1' := hr1
  obtain ⟨x1, x2, x3, x4, x5, x6, x7, rfl, hx⟩ := hr1
  ((repeat apply Exists.intro); refine ⟨rfl, ?_⟩)
  refine wp_keep hp1 (by rfl) (by simp [Value.oneCell']) fun p2 w2 H2 hp2 hle2 f2 => ?_
  (refine wp_load (hp2.loadH f2 (by simp)) ?_; (repeat apply Exists.intro); refine ⟨rfl, ?_⟩)
  refine wp_call ((timeout_runs hp2 (hr1'.mono hle2) (fit0 3 (by decide))).mono fun v w' h => top_give h) fun v3 w3 h3 => ?_
  obtain ⟨cs3, cq3, H3, rfl, hr3, hq3, hp3, hle3⟩ := h3
  obtain ⟨a1, a2, a3, a4, a5, a6, a7, rfl, ha⟩ := hr3
  obtain ⟨b1, b2, b3, rfl, hb1, hb2, hb3⟩ := hq3
  ((repeat apply Exists.intro); refine ⟨rfl, ?_⟩)
  refine wp_keep2 hp3 (by rfl) (by rfl) (by simp [Value.oneCell']) (by simp [Value.oneCell']) fun p4 p5 w4 H4 hp4 hle4 f4 f5 => ?_
  refine wp_call (new_runs hp4 kp0 (by decide)) fun v6 w6 h6 => ?_
  obtain ⟨cs6, H6, rfl, hr6, hp6, hle6⟩ := h6
  have hr6' := hr6
  obtain ⟨y1, y2, y3, y4, y5, y6, y7, rfl, hy⟩ := hr6
  ((repeat apply Exists.intro); refine ⟨rfl, ?_⟩)
  refine wp_call ((timeout_runs hp6 hr6' (fit0 1 (by decide))).mono fun v w' h => top_give h) fun v7 w7 h7 => ?_
  obtain ⟨cs7, cq7, H7, rfl, hr7, hq7, hp7, hle7⟩ := h7
  have hr7' := hr7
  obtain ⟨c1, c2, c3, c4, c5, c6, c7, rfl, hc⟩ := hr7
  obtain ⟨d1, d2, d3, rfl, hd1, hd2, hd3⟩ := hq7
  ((repeat apply Exists.intro); refine ⟨rfl, ?_⟩)
  refine wp_keep2 hp7 (by rfl) (by rfl) (by simp [Value.oneCell']) (by simp [Value.oneCell']) fun p8 p9 w8 H8 hp8 hle8 f8 f9 => ?_
  (refine wp_load (hp8.loadH f8 (by simp)) ?_; (repeat apply Exists.intro); refine ⟨rfl, ?_⟩)
  refine wp_call (last_runs hp8 hp8.le_uni (hr7'.mono hle8) (by decide) (by decide)) fun v10 w10 h10 => ?_
  obtain ⟨rfl, hp10⟩ := h10
  ((repeat apply Exists.intro); refine ⟨rfl, ?_⟩)
  (refine wp_load (hp10.loadH f8 (by simp)) ?_; (repeat apply Exists.intro); refine ⟨rfl, ?_⟩)
  refine wp_call (termAt_runs (i := 1) hp10 hp10.le_uni (hr7'.mono hle8) (by decide) (by decide)) fun v11 w11 h11 => ?_
  obtain ⟨rfl, hp11⟩ := h11
  ((repeat apply Exists.intro); refine ⟨rfl, ?_⟩)
  have l2 := ((hle3.trans hle4).trans hle6).trans (hle7.trans hle8)
  (refine wp_load (hp11.loadH (l2 _ _ f2) (by simp)) ?_; (repeat apply Exists.intro); refine ⟨rfl, ?_⟩)
  refine wp_call ((propose_runs hp11 ((hr1'.mono hle2).mono l2) (fit0 3 (by decide)) (Bs.nil _)).mono fun v w' h => top3_give h) fun v12 w12 h12 => ?_
  obtain ⟨cs12, cq12, H12, rfl, hr12, hq12, hp12, hle12⟩ := h12
  obtain ⟨e1, e2, e3, e4, e5, e6, e7, rfl, he⟩ := hr12
  obtain ⟨g1, g2, g3, rfl, hg1, hg2, hg3⟩ := hq12
  ((repeat apply Exists.intro); refine ⟨rfl, ?_⟩)
  refine wp_keep2 hp12 (by rfl) (by rfl) (by simp [Value.oneCell']) (by simp [Value.oneCell']) fun p13 p14 w13 H13 hp13 hle13 f13 f14 => ?_
  have l4 := ((hle6.trans hle7).trans hle8).trans (hle12.trans hle13)
  have l8 := hle12.trans hle13
  have n1 := hb1.1
  have n2 := hb2.1
  have n3 := hd1.1
  rw [show (timeout (newR 1 3 k0)).q.save.length = 1 by decide] at n1
  rw [show (timeout (newR 1 3 k0)).q.send.length = 2 by decide] at n2
  rw [show (timeout (newR 1 1 k0)).q.save.length = 2 by decide] at n3
  (refine wp_load (hp13.loadH (l4 _ _ f4) (by simp)) ?_; (repeat apply Exists.intro); refine ⟨rfl, ?_⟩)
  refine wp_bif (fun _ => ?_) fun h => absurd h (by decide)
  (refine wp_load (hp13.loadH (l4 _ _ f4) (by simp)) ?_; (repeat apply Exists.intro); refine ⟨rfl, ?_⟩)
  refine wp_bif (fun _ => ?_) fun h => absurd h (by decide)
  (refine wp_load (hp13.loadH (l4 _ _ f5) (by simp)) ?_; (repeat apply Exists.intro); refine ⟨rfl, ?_⟩)
  refine wp_bif (fun _ => ?_) fun h => absurd h (by rw [n2]; decide)
  (refine wp_load (hp13.loadH (l4 _ _ f5) (by simp)) ?_; (repeat apply Exists.intro); refine ⟨rfl, ?_⟩)
  refine wp_bif (fun _ => ?_) fun h => absurd h (by rw [n1]; decide)
  (refine wp_load (hp13.loadH (l8 _ _ f8) (by simp)) ?_; (repeat apply Exists.intro); refine ⟨rfl, ?_⟩)
  refine wp_bif (fun _ => ?_) fun h => absurd h (by decide)
  (refine wp_load (hp13.loadH (l8 _ _ f8) (by simp)) ?_; (repeat apply Exists.intro); refine ⟨rfl, ?_⟩)
  refine wp_bif (fun _ => ?_) fun h => absurd h (by decide)
  (refine wp_load (hp13.loadH (l8 _ _ f9) (by simp)) ?_; (repeat apply Exists.intro); refine ⟨rfl, ?_⟩)
  refine wp_bif (fun _ => ?_) fun h => absurd h (by rw [n3]; decide)
  refine wp_bif (fun _ => ?_) fun h => absurd h (by decide)
  refine wp_bif (fun _ => ?_) fun h => absurd h (by decide)
  refine wp_bif (fun _ => ?_) fun h => absurd h (by decide)
  refine ⟨rfl, hp13.lessH ?_⟩
  exact (((hle1.trans hle2).trans hle3).trans hle4).trans l4
end
end Go.Proofs.Ytnbfffmdplcajaa
