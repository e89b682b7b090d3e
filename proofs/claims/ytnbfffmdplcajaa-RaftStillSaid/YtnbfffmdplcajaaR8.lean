/- Contracts: begin, end, may; how the tops end. -/
import Derived.Test.YtnbfffmdplcajaaR7
namespace Go.Vc.Rf
theorem Low.notin {M : Mp} {s : Nat} {cs : List Value} {g : Gs} (low : Low M s cs g) {p : Nat} (h : M p = none) : p ∉ g.own s := fun hb => by
  rcases Gs.mem_own.1 hb with e | ⟨i, hi, h2⟩
  · subst e; rw [low.var] at h; cases h
  · exact (low.own i hi).ne _ h2 h
theorem Low.putNe {M : Mp} {s : Nat} {cs : List Value} {g : Gs} (low : Low M s cs g) {p : Nat} {c : List Value} (h : p ∉ g.own s) : Low (M.put p c) s cs g :=
  low.frame fun _ hb => Mp.put_other fun e => h (e ▸ hb)
end Go.Vc.Rf
namespace Go.Proofs.Ytnbfffmdplcajaa
open Go.Vc Go.Vc.Rf

theorem advKeep {M M' : Mp} {o : List Nat} (h : ∀ b, M b ≠ none → M' b = M b) : Adv M o M' o := ⟨fun b hb _ => h b hb, fun _ h => .inl h⟩

/-- A raft and what comes of a step, of blocks of their own, handed out. -/
def Res (w0 : World) (H M : Mp) (r : Raft) (q : Out) (va vq : Value) (w' : World) : Prop :=
  ∃ ss g H' M', va = .agg (cellsG r ss g).toArray ∧ vq = .agg #[(g 6).v, (g 7).v, (g 8).v] ∧ Hp w0 w' H' M' ∧ H.le H' ∧ Un M M' g ∧ Rf.Sem H' r q ss g
def Top (w0 : World) (H M : Mp) (x : Sp) (v : Value) (w' : World) : Prop := ∃ va vq, v = .tuple #[va, vq] ∧ Res w0 H M x.r x.q va vq w'
def Top3 (w0 : World) (H M : Mp) (x : Sp) (b : Bool) (v : Value) (w' : World) : Prop := ∃ va vq, v = .tuple #[va, vq, .bool b] ∧ Res w0 H M x.r x.q va vq w'

/-- Given up. -/
theorem Res.give {w0 : World} {H M : Mp} {r : Raft} {q : Out} {va vq : Value} {w' : World} (h : Res w0 H M r q va vq w') :
    ∃ cs cq H', va = .agg cs.toArray ∧ vq = .agg cq.toArray ∧ Ra H' cs r ∧ Ou H' cq q ∧ Hp w0 w' H' M ∧ H.le H' := by
  obtain ⟨ss, g, H1, M1, rfl, rfl, hp, hle, u, sem⟩ := h
  have hp2 := hp.give u.adv
  have hl := hp.froz_le ((List.range 9).flatMap fun i => (g i).o)
  have hs : ∀ i, i < 9 → SlC (H1.froz M1 ((List.range 9).flatMap fun i => (g i).o)) (g i).sl.a (g i).cells := fun i hi =>
    (u.own i hi).froz fun b hb => by simp only [List.mem_flatMap, List.mem_range]; exact ⟨i, hi, hb⟩
  refine ⟨_, [(g 6).v, (g 7).v, (g 8).v], _, rfl, rfl, ⟨_, _, _, _, _, _, _, rfl, ?_⟩, ⟨_, _, _, rfl, ?_, ?_, ?_⟩, hp2, hle.trans hl⟩
  · have sm := sem.mono hl
    exact ⟨sm.state, own_sl En.len (by omega) (u.own 0 (by omega)) (hs 0 (by omega)) sm.log, own_sl Bo.len (by omega) (u.own 1 (by omega)) (hs 1 (by omega)) sm.votes,
      own_sl Nu.len (by omega) (u.own 2 (by omega)) (hs 2 (by omega)) sm.next, own_sl Nu.len (by omega) (u.own 3 (by omega)) (hs 3 (by omega)) sm.mat,
      own_sl Nu.len (by omega) (u.own 4 (by omega)) (hs 4 (by omega)) sm.acks, own_sl Re.len (by omega) (u.own 5 (by omega)) (hs 5 (by omega)) sm.reads⟩
  · exact own_sl Rc.len (by omega) (u.own 6 (by omega)) (hs 6 (by omega)) (sem.mono hl).save
  · exact own_sl Ms.len (by omega) (u.own 7 (by omega)) (hs 7 (by omega)) (sem.mono hl).send
  · exact own_sl Re.len (by omega) (u.own 8 (by omega)) (hs 8 (by omega)) sem.ready

theorem Cp.give {w0 : World} {H M : Mp} {r : Raft} {v : Value} {w' : World} (h : Cp w0 H M r v w') : ∃ cs H', v = .agg cs.toArray ∧ Ra H' cs r ∧ Hp w0 w' H' M ∧ H.le H' := by
  obtain ⟨H1, M1, ss, g, rfl, hp, hle, u, sem, _⟩ := h
  have hp2 := hp.give u.adv
  have hl := hp.froz_le ((List.range 9).flatMap fun i => (g i).o)
  have hs : ∀ i, i < 9 → SlC (H1.froz M1 ((List.range 9).flatMap fun i => (g i).o)) (g i).sl.a (g i).cells := fun i hi =>
    (u.own i hi).froz fun b hb => by simp only [List.mem_flatMap, List.mem_range]; exact ⟨i, hi, hb⟩
  refine ⟨_, _, rfl, ⟨_, _, _, _, _, _, _, rfl, ?_⟩, hp2, hle.trans hl⟩
  exact ⟨sem.state.mono hl, own_sl En.len (by omega) (u.own 0 (by omega)) (hs 0 (by omega)) (sem.log.mono (En.mono hl)), own_sl Bo.len (by omega) (u.own 1 (by omega)) (hs 1 (by omega)) sem.votes,
      own_sl Nu.len (by omega) (u.own 2 (by omega)) (hs 2 (by omega)) sem.next, own_sl Nu.len (by omega) (u.own 3 (by omega)) (hs 3 (by omega)) sem.mat,
      own_sl Nu.len (by omega) (u.own 4 (by omega)) (hs 4 (by omega)) sem.acks, own_sl Re.len (by omega) (u.own 5 (by omega)) (hs 5 (by omega)) sem.reads⟩

section
variable {w0 w : World} {H M U : Mp} {s : Nat} {o : List Nat} {x : Sp} {k : Nat}

theorem begin_runs {r : Raft} {cs : List Value} (hp : Hp w0 w H M) (hr : Ra H cs r) (hc : Cpy r) :
    Runs Try.prog 53 [.agg cs.toArray] w fun v w' => ∃ s, v = .pointer (some ⟨s, 0, none⟩) ∧ ∃ H' M' o', Hp w0 w' H' M' ∧ H.le H' ∧ Adv M [] M' o' ∧ St H' M' s o' r Out.none := by
  obtain ⟨ss, ls, vs, ns, ms, ak, rs, rfl, hr⟩ := hr
  apply r53
  refine wp_newH hp fun p1 w1 H1 hp1 hle1 f1 => ?_
  (refine wp_load (hp1.loadH f1 (by simp)) ?_; (repeat apply Exists.intro); refine ⟨rfl, ?_⟩)
  refine wp_call (copied_runs (r := r) hp1 ⟨_, _, _, _, _, _, _, rfl, hr.mono hle1⟩ hc) fun v2 w2 h2 => ?_
  obtain ⟨H2, M2, ss2, g, rfl, hp2, hle2, u, sem, hg⟩ := h2
  ((repeat apply Exists.intro); refine ⟨rfl, ?_⟩)
  refine wp_new hp2 fun p w3 hp3 hM3 _ => ?_
  have hno : ∀ i, i < 9 → ∀ b ∈ (g i).o, b ≠ p := fun i hi b hb e => (u.own i hi).ne b hb (e ▸ hM3)
  have low : Low (M2.put p (cells20 r ss2 g)) p (cells20 r ss2 g) g := ⟨Mp.put_same _ _ _, fun i hi => (u.own i hi).frame fun b hb => Mp.put_other (hno i hi b hb), u.apart, fun i hi h => hno i hi p h rfl⟩
  have e20 : cells20 r ss2 g = (cellsG r ss2 g) ++ [.slice none 0 0, .slice none 0 0, .slice none 0 0] := by
    simp [cells20, cellsG, cells17, Comp.v, hg 6 (by omega) (by omega), hg 7 (by omega) (by omega), hg 8 (by omega) (by omega), nilC]
  have hp4 : Hp w0 w3 H2 (M2.put p (cells20 r ss2 g)) := by rw [e20]; exact hp3
  refine ⟨p, rfl, H2, _, _, hp4, hle1.trans hle2, ⟨fun b hb _ => ?_, fun b hb => ?_⟩, St.of (ss := ss2) low rfl ⟨sem.state, sem.log, sem.votes, sem.next, sem.mat, sem.acks, sem.reads, ?_, ?_, ?_⟩⟩
  · rw [Mp.put_other fun e => (by subst e; rw [u.keep _ hb] at hM3; exact hb hM3)]
    exact u.keep b hb
  · right
    rcases Gs.mem_own.1 hb with e | ⟨i, hi, h⟩
    · subst e
      cases hm : M b with
      | none => rfl
      | some c =>
        have := u.keep b (by rw [hm]; simp)
        rw [hM3, hm] at this; cases this
    · exact u.fresh i hi b h
  · rw [hg 6 (by omega) (by omega)]; rfl
  · rw [hg 7 (by omega) (by omega)]; rfl
  · rw [hg 8 (by omega) (by omega)]; rfl

theorem may_runs {r : Raft} {cs : List Value} (hp : Hp w0 w H M) (hr : Ra H cs r) : Runs Try.prog 59 [.agg cs.toArray] w fun v w' => v = .bool (mayR r) ∧ Hp w0 w' H M := by
  obtain ⟨ss, ls, vs, ns, ms, ak, rs, rfl, hr⟩ := hr
  have e1 := hr.next.1
  have e2 := hr.mat.1
  have e3 := hr.acks.1
  have e4 := hr.votes.1
  apply r59
  refine wp_newH hp fun p1 w1 H1 hp1 hle1 f1 => ?_
  have hp0 := hp1.lessH hle1
  (refine wp_load (hp1.loadH f1 (by simp)) ?_; (repeat apply Exists.intro); refine ⟨rfl, ?_⟩)
  refine wp_bif (fun h1 => ?_) fun h1 => ?_
  · refine ⟨?_, hp0⟩
    have : ¬ 1 ≤ r.id := by have := of_decide_eq_true h1; omega
    simp [mayR, this]
  (refine wp_load (hp1.loadH f1 (by simp)) ?_; (repeat apply Exists.intro); refine ⟨rfl, ?_⟩)
  (refine wp_load (hp1.loadH f1 (by simp)) ?_; (repeat apply Exists.intro); refine ⟨rfl, ?_⟩)
  refine wp_bif (fun h2 => ?_) fun h2 => ?_
  · refine ⟨?_, hp0⟩
    have : ¬ r.id ≤ r.n := by have := of_decide_eq_true h2; omega
    simp [mayR, this]
  (refine wp_load (hp1.loadH f1 (by simp)) ?_; (repeat apply Exists.intro); refine ⟨rfl, ?_⟩)
  refine wp_bif (fun h3 => ?_) fun h3 => ?_
  · refine ⟨?_, hp0⟩
    have : ¬ r.n ≤ 7 := by have := of_decide_eq_true h3; omega
    simp [mayR, this]
  have g1 : 1 ≤ r.id := by have := of_decide_eq_false h1; omega
  have g2 : r.id ≤ r.n := by have := of_decide_eq_false h2; omega
  have g3 : r.n ≤ 7 := by have := of_decide_eq_false h3; omega
  (refine wp_load (hp1.loadH f1 (by simp)) ?_; (repeat apply Exists.intro); refine ⟨rfl, ?_⟩)
  refine wp_bif (fun h4 => ?_) fun h4 => ?_
  · have g4 : r.role = 2 := by simpa using h4
    (refine wp_load (hp1.loadH f1 (by simp)) ?_; (repeat apply Exists.intro); refine ⟨rfl, ?_⟩)
    (refine wp_load (hp1.loadH f1 (by simp)) ?_; (repeat apply Exists.intro); refine ⟨rfl, ?_⟩)
    refine wp_bif (fun h5 => ?_) fun h5 => ?_
    rotate_left
    · refine ⟨?_, hp0⟩
      have : ¬ (r.next.length : Int) = r.n := by rw [← e1]; simpa using h5
      simp [mayR, g4, this]
    have g5 : (r.next.length : Int) = r.n := by rw [← e1]; simpa using h5
    (refine wp_load (hp1.loadH f1 (by simp)) ?_; (repeat apply Exists.intro); refine ⟨rfl, ?_⟩)
    (refine wp_load (hp1.loadH f1 (by simp)) ?_; (repeat apply Exists.intro); refine ⟨rfl, ?_⟩)
    refine wp_bif (fun h6 => ?_) fun h6 => ?_
    rotate_left
    · refine ⟨?_, hp0⟩
      have : ¬ (r.mat.length : Int) = r.n := by rw [← e2]; simpa using h6
      simp [mayR, g4, this]
    have g6 : (r.mat.length : Int) = r.n := by rw [← e2]; simpa using h6
    (refine wp_load (hp1.loadH f1 (by simp)) ?_; (repeat apply Exists.intro); refine ⟨rfl, ?_⟩)
    (refine wp_load (hp1.loadH f1 (by simp)) ?_; (repeat apply Exists.intro); refine ⟨rfl, ?_⟩)
    refine ⟨?_, hp0⟩
    rw [e3]
    simp only [mayR, g1, g2, g3, g4, g5, g6, decide_true, Bool.and_self, if_true, Bool.true_and, Value.bool.injEq]
    rfl
  · have g4 : ¬ r.role = 2 := by simpa using h4
    (refine wp_load (hp1.loadH f1 (by simp)) ?_; (repeat apply Exists.intro); refine ⟨rfl, ?_⟩)
    refine wp_bif (fun h5 => ?_) fun h5 => ?_
    · have g5 : r.role = 1 := by simpa using h5
      (refine wp_load (hp1.loadH f1 (by simp)) ?_; (repeat apply Exists.intro); refine ⟨rfl, ?_⟩)
      (refine wp_load (hp1.loadH f1 (by simp)) ?_; (repeat apply Exists.intro); refine ⟨rfl, ?_⟩)
      refine ⟨?_, hp0⟩
      rw [e4]
      simp only [mayR, g1, g2, g3, g5, decide_true, Bool.and_self, if_true, Bool.true_and, Value.bool.injEq]
      rfl
    · have g5 : ¬ r.role = 1 := by simpa using h5
      refine ⟨?_, hp0⟩
      simp [mayR, g1, g2, g3, g4, g5]

theorem end_runs (hp : Hp w0 w H M) (st : St H M s o x.r x.q) :
    Runs Try.prog 58 [.pointer (some ⟨s, 0, none⟩)] w fun v w' => ∃ ss g M', v = .tuple #[.agg (cellsG x.r ss g).toArray, .agg #[(g 6).v, (g 7).v, (g 8).v]] ∧ Hp w0 w' H M' ∧ Low M' s (cells20 x.r ss g) g ∧ Rf.Sem H x.r x.q ss g ∧ o = g.own s ∧ Adv M o M' o := by
  obtain ⟨ss, g, rfl, low, sem⟩ := st.ex
  apply r58
  refine wp_new hp fun p1 w1 hp1 hM1 _ => wp_new hp1 fun p2 w2 hp2 hM2 _ => ?_
  have hne : p1 ≠ p2 := fun e => by subst e; simp at hM2
  have hM2' : M p2 = none := by rwa [Mp.put_other (Ne.symm hne)] at hM2
  have n1 := low.notin hM1
  have n2 := low.notin hM2'
  have low2 := fun c1 c2 => (low.putNe (c := c1) n1).putNe (c := c2) n2
  have hpd := hp2.drew
  (refine wp_load (hpd.loadM (low2 _ _).var (by simp [cells20])) ?_; (repeat apply Exists.intro); refine ⟨rfl, ?_⟩)
  (refine wp_load (hpd.loadM (low2 _ _).var (by simp [cells20])) ?_; (repeat apply Exists.intro); refine ⟨rfl, ?_⟩)
  refine wp_store hpd ((Mp.put_other hne).trans (Mp.put_same _ _ _)) (by simp) (by simp [Value.oneCell']) fun w3 hp3 => ?_
  have low3 := fun c1 c2 c3 => (low2 c1 c2).putNe (c := c3) n1
  refine ⟨fun h hh => ?_, ?_⟩
  · simp only [List.mem_singleton] at hh; subst hh; exact hp3.loadM (low3 _ _ _).var (by simp [cells20])
  refine wp_store hp3 ((Mp.put_other (Ne.symm hne)).trans (Mp.put_same _ _ _)) (by simp) (by simp [Value.oneCell']) fun w4 hp4 => ?_
  have low4 := fun c1 c2 c3 c4 => (low3 c1 c2 c3).putNe (c := c4) n2
  (refine wp_load (hp4.loadM ((Mp.put_other hne).trans (Mp.put_same _ _ _)) (by simp [splice])) ?_; (repeat apply Exists.intro); refine ⟨rfl, ?_⟩)
  (refine wp_load (hp4.loadM (Mp.put_same _ _ _) (by simp [splice])) ?_; (repeat apply Exists.intro); refine ⟨rfl, ?_⟩)
  refine ⟨ss, g, _, rfl, hp4, low4 _ _ _ _, sem, rfl, advKeep fun b hb => ?_⟩
  have k1 : b ≠ p1 := fun e => hb (e ▸ hM1)
  have k2 : b ≠ p2 := fun e => hb (e ▸ hM2')
  rw [Mp.put_other k2, Mp.put_other k1, Mp.put_other k2, Mp.put_other k1]

/-- The two variables that a top hands out of. -/
structure Rv (M M' : Mp) (o : List Nat) (p2 p3 : Nat) : Prop where
  z2 : ∃ z, z.length = 17 ∧ M' p2 = some z
  z3 : ∃ z, z.length = 3 ∧ M' p3 = some z
  n2 : p2 ∉ o
  n3 : p3 ∉ o
  ne : p2 ≠ p3
  m2 : M p2 = none
  m3 : M p3 = none
  keep : ∀ b, M b ≠ none → M' b = M b
  fresh : ∀ b ∈ o, M b = none

theorem Rv.step {M M' M2 : Mp} {o o2 : List Nat} {p2 p3 : Nat} (v : Rv M M' o p2 p3) (ha : Adv M' o M2 o2) : Rv M M2 o2 p2 p3 := by
  obtain ⟨⟨a, ha1, ha2⟩, ⟨b, hb1, hb2⟩, n2, n3, ne, m2, m3, keep, fresh⟩ := v
  have out : ∀ p cs, M' p = some cs → p ∉ o → p ∉ o2 := fun p cs h hn h2 => by
    rcases ha.fresh p h2 with e | e
    · exact hn e
    · rw [h] at e; cases e
  refine ⟨⟨a, ha1, (ha.keep p2 (Mp.ne_of ha2) n2).trans ha2⟩, ⟨b, hb1, (ha.keep p3 (Mp.ne_of hb2) n3).trans hb2⟩, out _ _ ha2 n2, out _ _ hb2 n3, ne, m2, m3, fun c hc => ?_, fun c hc => ?_⟩
  · have h1 := keep c hc
    rw [ha.keep c (by rw [h1]; exact hc) fun h => hc (fresh c h), h1]
  · rcases ha.fresh c hc with e | e
    · exact fresh c e
    · cases hm : M c with
      | none => rfl
      | some cs =>
        have := keep c (by rw [hm]; simp)
        rw [e, hm] at this; cases this

theorem Rv.start {p2 p3 : Nat} {za zb : List Value} (h2 : M p2 = none) (h3 : (M.put p2 za) p3 = none) (ha : za.length = 17) (hb : zb.length = 3) : Rv M ((M.put p2 za).put p3 zb) [] p2 p3 := by
  have hne : p2 ≠ p3 := fun e => by subst e; simp at h3
  have h3' : M p3 = none := by rwa [Mp.put_other (Ne.symm hne)] at h3
  refine ⟨⟨za, ha, (Mp.put_other hne).trans (Mp.put_same _ _ _)⟩, ⟨zb, hb, Mp.put_same _ _ _⟩, by simp, by simp, hne, h2, h3', fun b hb => ?_, fun b hb => (by cases hb)⟩
  rw [Mp.put_other fun e => hb (by rw [e]; exact h3'), Mp.put_other fun e => hb (by rw [e]; exact h2)]

theorem un_of {M M' M2 : Mp} {o : List Nat} {p2 p3 : Nat} {s : Nat} {cs : List Value} {g : Gs} (v : Rv M M' o p2 p3) (e : o = g.own s) (low : Low M' s cs g) (hf : ∀ b, b ≠ p2 → b ≠ p3 → M2 b = M' b) : Un M M2 g := by
  subst e
  refine ⟨fun i hi => (low.own i hi).frame fun b hb => hf b (fun e => v.n2 (e ▸ Gs.mem_own.2 (.inr ⟨i, hi, hb⟩))) (fun e => v.n3 (e ▸ Gs.mem_own.2 (.inr ⟨i, hi, hb⟩))), low.apart, fun i hi b hb => v.fresh b (Gs.mem_own.2 (.inr ⟨i, hi, hb⟩)), fun b hb => ?_⟩
  rw [hf b (fun e => hb (e ▸ v.m2)) (fun e => hb (e ▸ v.m3)), v.keep b hb]


def tailV (s p2 p3 : Nat) : VC :=
 .call 58 ([.pointer (some ⟨s, 0, none⟩)]) fun v26 =>
  .exI fun i27 =>
  .exI fun i28 =>
  .exI fun i29 =>
  .exI fun i30 =>
  .exI fun i31 =>
  .exI fun i32 =>
  .exS fun a33 n33 c33 =>
  .exS fun a34 n34 c34 =>
  .exI fun i35 =>
  .exI fun i36 =>
  .exI fun i37 =>
  .exS fun a38 n38 c38 =>
  .exS fun a39 n39 c39 =>
  .exS fun a40 n40 c40 =>
  .exS fun a41 n41 c41 =>
  .exI fun i42 =>
  .exS fun a43 n43 c43 =>
  .exS fun a44 n44 c44 =>
  .exS fun a45 n45 c45 =>
  .exS fun a46 n46 c46 =>
  .isL [v26] [.tuple #[.agg #[.int .u64 i27, .int .i64 i28, .int .i64 i29, .int .i64 i30, .int .u64 i31, .int .u64 i32, .slice a33 n33 c33, .slice a34 n34 c34, .int .u64 i35, .int .i64 i36, .int .i64 i37, .slice a38 n38 c38, .slice a39 n39 c39, .slice a40 n40 c40, .slice a41 n41 c41, .int .u64 i42, .slice a43 n43 c43], .agg #[.slice a44 n44 c44, .slice a45 n45 c45, .slice a46 n46 c46]]] <|
  .store ⟨p2, 0, none⟩ [.int .u64 i27, .int .i64 i28, .int .i64 i29, .int .i64 i30, .int .u64 i31, .int .u64 i32, .slice a33 n33 c33, .slice a34 n34 c34, .int .u64 i35, .int .i64 i36, .int .i64 i37, .slice a38 n38 c38, .slice a39 n39 c39, .slice a40 n40 c40, .slice a41 n41 c41, .int .u64 i42, .slice a43 n43 c43] <|
  .store ⟨p3, 0, none⟩ [.slice a44 n44 c44, .slice a45 n45 c45, .slice a46 n46 c46] <|
  .load ⟨p2, 0, none⟩ 17 fun v47 =>
  .exI fun i48 =>
  .exI fun i49 =>
  .exI fun i50 =>
  .exI fun i51 =>
  .exI fun i52 =>
  .exI fun i53 =>
  .exS fun a54 n54 c54 =>
  .exS fun a55 n55 c55 =>
  .exI fun i56 =>
  .exI fun i57 =>
  .exI fun i58 =>
  .exS fun a59 n59 c59 =>
  .exS fun a60 n60 c60 =>
  .exS fun a61 n61 c61 =>
  .exS fun a62 n62 c62 =>
  .exI fun i63 =>
  .exS fun a64 n64 c64 =>
  .isL v47 [.int .u64 i48, .int .i64 i49, .int .i64 i50, .int .i64 i51, .int .u64 i52, .int .u64 i53, .slice a54 n54 c54, .slice a55 n55 c55, .int .u64 i56, .int .i64 i57, .int .i64 i58, .slice a59 n59 c59, .slice a60 n60 c60, .slice a61 n61 c61, .slice a62 n62 c62, .int .u64 i63, .slice a64 n64 c64] <|
  .load ⟨p3, 0, none⟩ 3 fun v65 =>
  .exS fun a66 n66 c66 =>
  .exS fun a67 n67 c67 =>
  .exS fun a68 n68 c68 =>
  .isL v65 [.slice a66 n66 c66, .slice a67 n67 c67, .slice a68 n68 c68] <|
  .ret (.tuple #[.agg #[.int .u64 i48, .int .i64 i49, .int .i64 i50, .int .i64 i51, .int .u64 i52, .int .u64 i53, .slice a54 n54 c54, .slice a55 n55 c55, .int .u64 i56, .int .i64 i57, .int .i64 i58, .slice a59 n59 c59, .slice a60 n60 c60, .slice a61 n61 c61, .slice a62 n62 c62, .int .u64 i63, .slice a64 n64 c64], .agg #[.slice a66 n66 c66, .slice a67 n67 c67, .slice a68 n68 c68]])
def tail3V (s p2 p3 : Nat) : VC :=
 .draw <|
 .load ⟨s, 0, none⟩ 17 fun v93 =>
 .exI fun i94 =>
 .exI fun i95 =>
 .exI fun i96 =>
 .exI fun i97 =>
 .exI fun i98 =>
 .exI fun i99 =>
 .exS fun a100 n100 c100 =>
 .exS fun a101 n101 c101 =>
 .exI fun i102 =>
 .exI fun i103 =>
 .exI fun i104 =>
 .exS fun a105 n105 c105 =>
 .exS fun a106 n106 c106 =>
 .exS fun a107 n107 c107 =>
 .exS fun a108 n108 c108 =>
 .exI fun i109 =>
 .exS fun a110 n110 c110 =>
 .isL v93 [.int .u64 i94, .int .i64 i95, .int .i64 i96, .int .i64 i97, .int .u64 i98, .int .u64 i99, .slice a100 n100 c100, .slice a101 n101 c101, .int .u64 i102, .int .i64 i103, .int .i64 i104, .slice a105 n105 c105, .slice a106 n106 c106, .slice a107 n107 c107, .slice a108 n108 c108, .int .u64 i109, .slice a110 n110 c110] <|
 .load ⟨s, 17, none⟩ 3 fun v111 =>
 .exS fun a112 n112 c112 =>
 .exS fun a113 n113 c113 =>
 .exS fun a114 n114 c114 =>
 .isL v111 [.slice a112 n112 c112, .slice a113 n113 c113, .slice a114 n114 c114] <|
 .store ⟨p2, 0, none⟩ [.int .u64 i94, .int .i64 i95, .int .i64 i96, .int .i64 i97, .int .u64 i98, .int .u64 i99, .slice a100 n100 c100, .slice a101 n101 c101, .int .u64 i102, .int .i64 i103, .int .i64 i104, .slice a105 n105 c105, .slice a106 n106 c106, .slice a107 n107 c107, .slice a108 n108 c108, .int .u64 i109, .slice a110 n110 c110] <|
 .hold [(⟨s, 17, none⟩, [.slice a112 n112 c112, .slice a113 n113 c113, .slice a114 n114 c114])] <|
 .store ⟨p3, 0, none⟩ [.slice a112 n112 c112, .slice a113 n113 c113, .slice a114 n114 c114] <|
 .load ⟨p2, 0, none⟩ 17 fun v115 =>
 .exI fun i116 =>
 .exI fun i117 =>
 .exI fun i118 =>
 .exI fun i119 =>
 .exI fun i120 =>
 .exI fun i121 =>
 .exS fun a122 n122 c122 =>
 .exS fun a123 n123 c123 =>
 .exI fun i124 =>
 .exI fun i125 =>
 .exI fun i126 =>
 .exS fun a127 n127 c127 =>
 .exS fun a128 n128 c128 =>
 .exS fun a129 n129 c129 =>
 .exS fun a130 n130 c130 =>
 .exI fun i131 =>
 .exS fun a132 n132 c132 =>
 .isL v115 [.int .u64 i116, .int .i64 i117, .int .i64 i118, .int .i64 i119, .int .u64 i120, .int .u64 i121, .slice a122 n122 c122, .slice a123 n123 c123, .int .u64 i124, .int .i64 i125, .int .i64 i126, .slice a127 n127 c127, .slice a128 n128 c128, .slice a129 n129 c129, .slice a130 n130 c130, .int .u64 i131, .slice a132 n132 c132] <|
 .load ⟨p3, 0, none⟩ 3 fun v133 =>
 .exS fun a134 n134 c134 =>
 .exS fun a135 n135 c135 =>
 .exS fun a136 n136 c136 =>
 .isL v133 [.slice a134 n134 c134, .slice a135 n135 c135, .slice a136 n136 c136] <|
 .ret (.tuple #[.agg #[.int .u64 i116, .int .i64 i117, .int .i64 i118, .int .i64 i119, .int .u64 i120, .int .u64 i121, .slice a122 n122 c122, .slice a123 n123 c123, .int .u64 i124, .int .i64 i125, .int .i64 i126, .slice a127 n127 c127, .slice a128 n128 c128, .slice a129 n129 c129, .slice a130 n130 c130, .int .u64 i131, .slice a132 n132 c132], .agg #[.slice a134 n134 c134, .slice a135 n135 c135, .slice a136 n136 c136], .bool true])
def noV (p2 p3 : Nat) : VC :=
 .store ⟨p2, 0, none⟩ [.int .u64 0, .int .i64 0, .int .i64 0, .int .i64 0, .int .u64 0, .int .u64 0, .slice none 0 0, .slice none 0 0, .int .u64 0, .int .i64 0, .int .i64 0, .slice none 0 0, .slice none 0 0, .slice none 0 0, .slice none 0 0, .int .u64 0, .slice none 0 0] <|
  .store ⟨p3, 0, none⟩ [.slice none 0 0, .slice none 0 0, .slice none 0 0] <|
  .load ⟨p2, 0, none⟩ 17 fun v26 =>
  .exI fun i27 =>
  .exI fun i28 =>
  .exI fun i29 =>
  .exI fun i30 =>
  .exI fun i31 =>
  .exI fun i32 =>
  .exS fun a33 n33 c33 =>
  .exS fun a34 n34 c34 =>
  .exI fun i35 =>
  .exI fun i36 =>
  .exI fun i37 =>
  .exS fun a38 n38 c38 =>
  .exS fun a39 n39 c39 =>
  .exS fun a40 n40 c40 =>
  .exS fun a41 n41 c41 =>
  .exI fun i42 =>
  .exS fun a43 n43 c43 =>
  .isL v26 [.int .u64 i27, .int .i64 i28, .int .i64 i29, .int .i64 i30, .int .u64 i31, .int .u64 i32, .slice a33 n33 c33, .slice a34 n34 c34, .int .u64 i35, .int .i64 i36, .int .i64 i37, .slice a38 n38 c38, .slice a39 n39 c39, .slice a40 n40 c40, .slice a41 n41 c41, .int .u64 i42, .slice a43 n43 c43] <|
  .load ⟨p3, 0, none⟩ 3 fun v44 =>
  .exS fun a45 n45 c45 =>
  .exS fun a46 n46 c46 =>
  .exS fun a47 n47 c47 =>
  .isL v44 [.slice a45 n45 c45, .slice a46 n46 c46, .slice a47 n47 c47] <|
  .ret (.tuple #[.agg #[.int .u64 i27, .int .i64 i28, .int .i64 i29, .int .i64 i30, .int .u64 i31, .int .u64 i32, .slice a33 n33 c33, .slice a34 n34 c34, .int .u64 i35, .int .i64 i36, .int .i64 i37, .slice a38 n38 c38, .slice a39 n39 c39, .slice a40 n40 c40, .slice a41 n41 c41, .int .u64 i42, .slice a43 n43 c43], .agg #[.slice a45 n45 c45, .slice a46 n46 c46, .slice a47 n47 c47], .bool false])

variable {env : Nat → List Value → World → Prop} {H0 M0 : Mp} {p2 p3 : Nat}
theorem tail_wp (hp : Hp w0 w H M) (hle : H0.le H) (st : St H M s o x.r x.q) (v : Rv M0 M o p2 p3) : (tailV s p2 p3).wp Try.prog (Top w0 H0 M0 x) env w := by
  refine wp_call (end_runs hp st) fun v1 w1 h1 => ?_
  obtain ⟨ss, g, M1, rfl, hp1, low, sem, e, ha⟩ := h1
  ((repeat apply Exists.intro); refine ⟨rfl, ?_⟩)
  have v1 := v.step ha
  obtain ⟨z2, hz2, m2⟩ := v1.z2
  obtain ⟨z3, hz3, m3⟩ := v1.z3
  refine wp_store hp1 m2 (by simp [hz2]) (by simp [Value.oneCell']) fun w2 hp2 => ?_
  refine wp_store hp2 ((Mp.put_other (Ne.symm v.ne)).trans m3) (by simp [hz3]) (by simp [Value.oneCell']) fun w3 hp3 => ?_
  rw [splice_all (by simp [hz2]), splice_all (by simp [hz3])] at hp3
  (refine wp_load (hp3.loadM ((Mp.put_other v.ne).trans (Mp.put_same _ _ _)) (by simp)) ?_; (repeat apply Exists.intro); refine ⟨rfl, ?_⟩)
  (refine wp_load (hp3.loadM (Mp.put_same _ _ _) (by simp)) ?_; (repeat apply Exists.intro); refine ⟨rfl, ?_⟩)
  exact ⟨_, _, rfl, ss, g, H, _, rfl, rfl, hp3, hle, un_of v1 e low fun b h2 h3 => by rw [Mp.put_other h3, Mp.put_other h2], sem⟩

theorem tail3_wp (hp : Hp w0 w H M) (hle : H0.le H) (st : St H M s o x.r x.q) (v : Rv M0 M o p2 p3) : (tail3V s p2 p3).wp Try.prog (Top3 w0 H0 M0 x true) env w := by
  obtain ⟨ss, g, rfl, low, sem⟩ := st.ex
  have hpd := hp.drew
  (refine wp_load (hpd.loadM low.var (by simp [cells20])) ?_; (repeat apply Exists.intro); refine ⟨rfl, ?_⟩)
  (refine wp_load (hpd.loadM low.var (by simp [cells20])) ?_; (repeat apply Exists.intro); refine ⟨rfl, ?_⟩)
  obtain ⟨z2, hz2, m2⟩ := v.z2
  obtain ⟨z3, hz3, m3⟩ := v.z3
  refine wp_store hpd m2 (by simp [hz2]) (by simp [Value.oneCell']) fun w2 hp2 => ?_
  refine ⟨fun h hh => ?_, ?_⟩
  · simp only [List.mem_singleton] at hh; subst hh; exact hp2.loadM (low.putNe v.n2).var (by simp [cells20])
  refine wp_store hp2 ((Mp.put_other (Ne.symm v.ne)).trans m3) (by simp [hz3]) (by simp [Value.oneCell']) fun w3 hp3 => ?_
  rw [splice_all (by simp [hz2]), splice_all (by simp [hz3])] at hp3
  (refine wp_load (hp3.loadM ((Mp.put_other v.ne).trans (Mp.put_same _ _ _)) (by simp)) ?_; (repeat apply Exists.intro); refine ⟨rfl, ?_⟩)
  (refine wp_load (hp3.loadM (Mp.put_same _ _ _) (by simp)) ?_; (repeat apply Exists.intro); refine ⟨rfl, ?_⟩)
  exact ⟨_, _, rfl, ss, g, H, _, rfl, rfl, hp3, hle, un_of v rfl low fun b h2 h3 => by rw [Mp.put_other h3, Mp.put_other h2], sem⟩

theorem no_wp (hp : Hp w0 w H M) (hle : H0.le H) (v : Rv M0 M o p2 p3) : (noV p2 p3).wp Try.prog (Top3 w0 H0 M0 ⟨Raft.none, Out.none⟩ false) env w := by
  obtain ⟨z2, hz2, m2⟩ := v.z2
  obtain ⟨z3, hz3, m3⟩ := v.z3
  refine wp_store hp m2 (by simp [hz2]) (by simp [Value.oneCell']) fun w2 hp2 => ?_
  refine wp_store hp2 ((Mp.put_other (Ne.symm v.ne)).trans m3) (by simp [hz3]) (by simp [Value.oneCell']) fun w3 hp3 => ?_
  rw [splice_all (by simp [hz2]), splice_all (by simp [hz3])] at hp3
  (refine wp_load (hp3.loadM ((Mp.put_other v.ne).trans (Mp.put_same _ _ _)) (by simp)) ?_; (repeat apply Exists.intro); refine ⟨rfl, ?_⟩)
  (refine wp_load (hp3.loadM (Mp.put_same _ _ _) (by simp)) ?_; (repeat apply Exists.intro); refine ⟨rfl, ?_⟩)
  refine ⟨_, _, rfl, ⟨none, 0, 0⟩, fun _ => nilC, H, _, rfl, rfl, hp3, hle, ?_, ⟨Bs.nil _, rfl, rfl, rfl, rfl, rfl, rfl, rfl, rfl, rfl⟩⟩
  refine Un.base (fun b hb => ?_) (Un.start _)
  rw [Mp.put_other fun e => hb (by rw [e]; exact v.m3), Mp.put_other fun e => hb (by rw [e]; exact v.m2), v.keep b hb]
end
end Go.Proofs.Ytnbfffmdplcajaa
