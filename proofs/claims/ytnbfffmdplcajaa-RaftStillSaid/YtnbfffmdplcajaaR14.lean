/- Contracts: Got, Compact. -/
import Derived.Test.YtnbfffmdplcajaaR13
namespace Go.Proofs.Ytnbfffmdplcajaa
open Go.Vc Go.Vc.Rf

section
variable {w0 w : World} {H M U : Mp} {s : Nat} {o : List Nat} {x : Sp} {k : Nat} {R : Value → World → Prop} {env : Nat → List Value → World → Prop}

/-- Where Got stands once the term is followed. -/
def gotAt (r : Raft) (m : Msg) : Sp := if r.term < m.term then (Rf.start r).follows m.term else Rf.start r
theorem got_mine {r : Raft} {m : Msg} (h : mine r m = true) :
    got r m = if m.kind = 1 then (gotAt r m).asked m else if m.kind = 2 then (gotAt r m).voted m else if m.kind = 3 then (gotAt r m).appends m else if m.kind = 5 then (gotAt r m).snaps m else (gotAt r m).done m := by
  unfold got
  rw [if_neg (by rw [h]; simp)]
  rfl
theorem mine_of {r : Raft} {m : Msg} (h : mine r m = true) : mayR r = true ∧ 1 ≤ m.frm ∧ m.frm ≤ r.n ∧ m.frm ≠ r.id ∧ m.dest = r.id ∧ 1 ≤ m.kind ∧ m.kind ≤ 5 := by
  simp only [mine, Bool.and_eq_true, decide_eq_true_eq, bne_iff_ne, ne_eq, beq_iff_eq] at h
  obtain ⟨⟨⟨⟨⟨⟨h1, h2⟩, h3⟩, h4⟩, h5⟩, h6⟩, h7⟩ := h
  exact ⟨h1, h2, h3, h4, h5, h6, h7⟩
theorem mine_mk {r : Raft} {m : Msg} (h1 : mayR r = true) (h2 : 1 ≤ m.frm) (h3 : m.frm ≤ r.n) (h4 : m.frm ≠ r.id) (h5 : m.dest = r.id) (h6 : 1 ≤ m.kind) (h7 : m.kind ≤ 5) : mine r m = true := by
  simp [mine, h1, h2, h3, h4, h5, h6, h7]
theorem bd_gotAt {r : Raft} {m : Msg} (hb : Bd 100 (Rf.start r)) (lm : Lm m) : Bd 101 (gotAt r m) := by
  have l1 := lm.term0
  have l2 := lm.term
  unfold gotAt
  split
  · refine Bd.hard (Bd.bare (x := ⟨{ r with term := m.term, vote := 0, role := 0, lead := 0 }, Out.none⟩) ?_)
    exact ⟨hb.idx, hb.last, l1, by show m.term ≤ _; omega, hb.round0, hb.round, hb.mat, hb.next, hb.log, hb.reads, hb.n, hb.save, hb.send, hb.ready⟩
  · exact hb.mono (by omega)

set_option maxHeartbeats 1000000 in
theorem got_runs {r : Raft} {m : Msg} {cs cm : List Value} (hp : Hp w0 w H M) (hr : Ra H cs r) (hm : Ms H cm m) (hf : Fit r) (lm : Lm m) : Runs Try.prog 38 [.agg cs.toArray, .agg cm.toArray] w (Top w0 H M (got r m)) := by
  have hr0 := hr
  have hm0 := hm
  obtain ⟨ss, ls, vs, ns, ms, ak, rs, rfl, hr⟩ := hr
  obtain ⟨a1, n1, c1, a2, n2, c2, rfl, he, hs⟩ := hm
  apply r38
  refine wp_newH hp fun p1 w1 H1 hp1 hle1 f1 => ?_
  refine wp_newH hp1 fun p2 w2 H2 hp2 hle2 f2 => ?_
  refine wp_new hp2 fun p3 w3 hp3 hM3 _ => wp_new hp3 fun p4 w4 hp4 hM4 _ => ?_
  have rv0 := Rv.start (zb := [.slice none 0 0, .slice none 0 0, .slice none 0 0]) hM3 hM4 rfl rfl
  have l12 := hle1.trans hle2
  replace f1 := hle2 _ _ f1
  (refine wp_load (hp4.loadH f1 (by simp)) ?_; (repeat apply Exists.intro); refine ⟨rfl, ?_⟩)
  refine wp_call (begin_runs hp4 (hr0.mono l12) hf.cpy) fun v5 w5 h5 => ?_
  obtain ⟨s, rfl, H5, M5, o5, hp5, hle5, ha5, st5⟩ := h5
  ((repeat apply Exists.intro); refine ⟨rfl, ?_⟩)
  have rv5 := rv0.step ha5
  have hle := l12.trans hle5
  replace f1 := hle5 _ _ f1
  replace f2 := hle5 _ _ f2
  obtain ⟨sx, gx, ex, lowx, semx⟩ := id st5.ex
  subst ex
  have hpd := hp5.drew
  (refine wp_load (hpd.loadH f1 (by simp)) ?_; (repeat apply Exists.intro); refine ⟨rfl, ?_⟩)
  refine wp_call (may_runs hpd (hr0.mono hle)) fun v6 w6 h6 => ?_
  obtain ⟨rfl, hp6⟩ := h6
  ((repeat apply Exists.intro); refine ⟨rfl, ?_⟩)
  have no : ∀ {w' : World}, Hp w0 w' H5 M5 → mine r m = false → (tailV s p3 p4).wp Try.prog (Top w0 H M (got r m)) (fun _ _ _ => False) w' := fun hp' h => by
    have e : got r m = Rf.start r := if_pos h
    rw [e]
    exact tail_wp (x := Rf.start r) hp' hle st5 rv5
  refine wp_bif (fun h => no hp6 ?_) fun h => ?_
  · have : mayR r = false := by simpa using h
    simp [mine, this]
  have g1 : mayR r = true := by simpa using h
  (refine wp_load (hp6.loadH f2 (by simp)) ?_; (repeat apply Exists.intro); refine ⟨rfl, ?_⟩)
  refine wp_bif (fun h => no hp6 ?_) fun h => ?_
  · have : ¬ 1 ≤ m.frm := by have := of_decide_eq_true h; omega
    simp [mine, this]
  have g2 : 1 ≤ m.frm := by have := of_decide_eq_false h; omega
  (refine wp_load (hp6.loadH f2 (by simp)) ?_; (repeat apply Exists.intro); refine ⟨rfl, ?_⟩)
  (refine wp_load (hp6.loadM lowx.var (by simp [cells20])) ?_; (repeat apply Exists.intro); refine ⟨rfl, ?_⟩)
  refine wp_bif (fun h => no hp6 ?_) fun h => ?_
  · have : ¬ m.frm ≤ r.n := by have := of_decide_eq_true h; omega
    simp [mine, this]
  have g3 : m.frm ≤ r.n := by have := of_decide_eq_false h; omega
  (refine wp_load (hp6.loadH f2 (by simp)) ?_; (repeat apply Exists.intro); refine ⟨rfl, ?_⟩)
  (refine wp_load (hp6.loadM lowx.var (by simp [cells20])) ?_; (repeat apply Exists.intro); refine ⟨rfl, ?_⟩)
  refine wp_bif (fun h => no hp6 ?_) fun h => ?_
  · have : m.frm = r.id := by simpa using h
    simp [mine, this]
  have g4 : m.frm ≠ r.id := by simpa using h
  (refine wp_load (hp6.loadH f2 (by simp)) ?_; (repeat apply Exists.intro); refine ⟨rfl, ?_⟩)
  (refine wp_load (hp6.loadM lowx.var (by simp [cells20])) ?_; (repeat apply Exists.intro); refine ⟨rfl, ?_⟩)
  refine wp_bif (fun h => no hp6 ?_) fun h => ?_
  · have : m.dest ≠ r.id := by simpa using h
    simp [mine, this]
  have g5 : m.dest = r.id := by simpa using h
  (refine wp_load (hp6.loadH f2 (by simp)) ?_; (repeat apply Exists.intro); refine ⟨rfl, ?_⟩)
  refine wp_bif (fun h => no hp6 ?_) fun h => ?_
  · have : ¬ 1 ≤ m.kind := by have := of_decide_eq_true h; omega
    simp [mine, this]
  have g6 : 1 ≤ m.kind := by have := of_decide_eq_false h; omega
  (refine wp_load (hp6.loadH f2 (by simp)) ?_; (repeat apply Exists.intro); refine ⟨rfl, ?_⟩)
  refine wp_bif (fun h => no hp6 ?_) fun h => ?_
  · have : ¬ m.kind ≤ 5 := by have := of_decide_eq_true h; omega
    simp [mine, this]
  have g7 : m.kind ≤ 5 := by have := of_decide_eq_false h; omega
  clear no
  have hmine := mine_mk g1 g2 g3 g4 g5 g6 g7
  have eg := got_mine hmine
  obtain ⟨i1, i2, i3⟩ := mayR_id g1
  have hby := bd_gotAt hf.bd lm
  have yid : (gotAt r m).r.id = r.id := by unfold gotAt; split <;> rfl
  have yn : (gotAt r m).r.n = r.n := by unfold gotAt; split <;> rfl
  have yv : (gotAt r m).r.role = 1 → ((gotAt r m).r.votes.length : Int) = (gotAt r m).r.n := by
    unfold gotAt; split
    · intro hh; cases hh
    · exact mayR_votes g1
  have yl : (gotAt r m).r.role = 2 → Lr (gotAt r m).r := by
    unfold gotAt; split
    · intro hh; cases hh
    · exact mayR_lr g1
  have hyq : (gotAt r m) = if r.term < m.term then (Rf.start r).follows m.term else Rf.start r := rfl
  generalize gotAt r m = y at *
  refine ⟨fun vs w' => vs = [] ∧ ∃ H' M' o', Hp w0 w' H' M' ∧ H5.le H' ∧ Adv M5 (gx.own s) M' o' ∧ St H' M' s o' y.r y.q, ?_, ?_⟩
  · have hp7 := hp6.drew
    (refine wp_load (hp7.loadH f2 (by simp)) ?_; (repeat apply Exists.intro); refine ⟨rfl, ?_⟩)
    (refine wp_load (hp7.loadM lowx.var (by simp [cells20])) ?_; (repeat apply Exists.intro); refine ⟨rfl, ?_⟩)
    refine wp_bif (fun h => ?_) fun h => ?_
    · have gt : r.term < m.term := of_decide_eq_true h
      rw [if_pos gt] at hyq
      (refine wp_load (hp7.loadH f2 (by simp)) ?_; (repeat apply Exists.intro); refine ⟨rfl, ?_⟩)
      refine wp_call (follows_runs (x := Rf.start r) (t := m.term) hp7 st5 (by have := hf.bd.save; omega)) fun v8 w8 h8 => ?_
      obtain ⟨rfl, H8, M8, o8, hp8, hle8, ha8, st8⟩ := h8
      ((repeat apply Exists.intro); refine ⟨rfl, ?_⟩)
      exact ⟨rfl, H8, M8, o8, hp8, hle8, ha8, by rw [hyq]; exact st8⟩
    · have gt : ¬ r.term < m.term := of_decide_eq_false h
      rw [if_neg gt] at hyq
      exact ⟨rfl, H5, M5, _, hp7, Mp.le.refl _, Adv.refl _ _, by rw [hyq]; exact st5⟩
  rintro vs w8 ⟨rfl, H8, M8, o8, hp8, hle8, ha8, st8⟩
  ((repeat apply Exists.intro); refine ⟨rfl, ?_⟩)
  replace f2 := hle8 _ _ f2
  have hm8 := hm0.mono (hle.trans hle8)
  refine ⟨fun vs w' => vs = [] ∧ ∃ H' M' o', Hp w0 w' H' M' ∧ H8.le H' ∧ Adv M8 o8 M' o' ∧ St H' M' s o' (got r m).r (got r m).q, ?_, ?_⟩
  · (refine wp_load (hp8.loadH f2 (by simp)) ?_; (repeat apply Exists.intro); refine ⟨rfl, ?_⟩)
    refine wp_bif (fun h1 => ?_) fun h1 => ?_
    · have k1 : m.kind = 1 := by simpa using h1
      rw [if_pos k1] at eg
      (refine wp_load (hp8.loadH f2 (by simp)) ?_; (repeat apply Exists.intro); refine ⟨rfl, ?_⟩)
      refine wp_call (asked_runs hp8 st8 hm8 hby (by omega)) fun v9 w9 h9 => ?_
      obtain ⟨rfl, H9, M9, o9, hp9, hle9, ha9, st9⟩ := h9
      ((repeat apply Exists.intro); refine ⟨rfl, ?_⟩)
      exact ⟨rfl, H9, M9, o9, hp9, hle9, ha9, by rw [eg]; exact st9⟩
    have k1 : ¬ m.kind = 1 := by simpa using h1
    rw [if_neg k1] at eg
    refine wp_bif (fun h1 => ?_) fun h1 => ?_
    · have k2 : m.kind = 2 := by simpa using h1
      rw [if_pos k2] at eg
      (refine wp_load (hp8.loadH f2 (by simp)) ?_; (repeat apply Exists.intro); refine ⟨rfl, ?_⟩)
      refine wp_call (voted_runs hp8 st8 hm8 hby (by omega) (by omega) (by omega) yv g2 (by omega)) fun v9 w9 h9 => ?_
      obtain ⟨rfl, H9, M9, o9, hp9, hle9, ha9, st9⟩ := h9
      ((repeat apply Exists.intro); refine ⟨rfl, ?_⟩)
      exact ⟨rfl, H9, M9, o9, hp9, hle9, ha9, by rw [eg]; exact st9⟩
    have k2 : ¬ m.kind = 2 := by simpa using h1
    rw [if_neg k2] at eg
    refine wp_bif (fun h1 => ?_) fun h1 => ?_
    · have k3 : m.kind = 3 := by simpa using h1
      rw [if_pos k3] at eg
      (refine wp_load (hp8.loadH f2 (by simp)) ?_; (repeat apply Exists.intro); refine ⟨rfl, ?_⟩)
      refine wp_call (appends_runs hp8 st8 hm8 hby (by omega) lm) fun v9 w9 h9 => ?_
      obtain ⟨rfl, H9, M9, o9, hp9, hle9, ha9, st9⟩ := h9
      ((repeat apply Exists.intro); refine ⟨rfl, ?_⟩)
      exact ⟨rfl, H9, M9, o9, hp9, hle9, ha9, by rw [eg]; exact st9⟩
    have k3 : ¬ m.kind = 3 := by simpa using h1
    rw [if_neg k3] at eg
    refine wp_bif (fun h1 => ?_) fun h1 => ?_
    · have k5 : m.kind = 5 := by simpa using h1
      rw [if_pos k5] at eg
      (refine wp_load (hp8.loadH f2 (by simp)) ?_; (repeat apply Exists.intro); refine ⟨rfl, ?_⟩)
      refine wp_call (snaps_runs hp8 st8 hm8 hby (by omega) lm) fun v9 w9 h9 => ?_
      obtain ⟨rfl, H9, M9, o9, hp9, hle9, ha9, st9⟩ := h9
      ((repeat apply Exists.intro); refine ⟨rfl, ?_⟩)
      exact ⟨rfl, H9, M9, o9, hp9, hle9, ha9, by rw [eg]; exact st9⟩
    have k5 : ¬ m.kind = 5 := by simpa using h1
    rw [if_neg k5] at eg
    refine wp_bif (fun h1 => ?_) fun h1 => ?_
    · (refine wp_load (hp8.loadH f2 (by simp)) ?_; (repeat apply Exists.intro); refine ⟨rfl, ?_⟩)
      refine wp_call (done_runs hp8 st8 hm8 hby (by omega) lm yl g2 (by omega)) fun v9 w9 h9 => ?_
      obtain ⟨rfl, H9, M9, o9, hp9, hle9, ha9, st9⟩ := h9
      ((repeat apply Exists.intro); refine ⟨rfl, ?_⟩)
      exact ⟨rfl, H9, M9, o9, hp9, hle9, ha9, by rw [eg]; exact st9⟩
    · have k4 : ¬ m.kind = 4 := by simpa using h1
      omega
  rintro vs w9 ⟨rfl, H9, M9, o9, hp9, hle9, ha9, st9⟩
  ((repeat apply Exists.intro); refine ⟨rfl, ?_⟩)
  exact tail_wp hp9 ((hle.trans hle8).trans hle9) st9 ((rv5.step ha8).step ha9)

theorem compact_runs {r : Raft} {cs : List Value} {a : Option Addr} {n c : Nat} {d : List UInt8} (hp : Hp w0 w H M) (hr : Ra H cs r) (hf : Fit r) (hd : Bs H a n c d) :
    Runs Try.prog 31 [.agg cs.toArray, .slice a n c] w (Top w0 H M (compact r d)) := by
  have hr0 := hr
  obtain ⟨ss, ls, vs, ns, ms, ak, rs, rfl, hr⟩ := hr
  have hla := hf.bd.last
  change lastI r ≤ _ at hla
  apply r31
  refine wp_newH hp fun p1 w1 H1 hp1 hle1 f1 => ?_
  refine wp_new hp1 fun p2 w2 hp2 hM2 _ => wp_new hp2 fun p3 w3 hp3 hM3 _ => ?_
  have rv0 := Rv.start (zb := [.slice none 0 0, .slice none 0 0, .slice none 0 0]) hM2 hM3 rfl rfl
  (refine wp_load (hp3.loadH f1 (by simp)) ?_; (repeat apply Exists.intro); refine ⟨rfl, ?_⟩)
  refine wp_call (begin_runs hp3 (hr0.mono hle1) hf.cpy) fun v4 w4 h4 => ?_
  obtain ⟨s, rfl, H4, M4, o4, hp4, hle4, ha4, st4⟩ := h4
  ((repeat apply Exists.intro); refine ⟨rfl, ?_⟩)
  have rv4 := rv0.step ha4
  have hle := hle1.trans hle4
  obtain ⟨sx, gx, ex, lowx, semx⟩ := id st4.ex
  subst ex
  have hp5 := hp4.drew
  (refine wp_load (hp5.loadM lowx.var (by simp [cells20])) ?_; (repeat apply Exists.intro); refine ⟨rfl, ?_⟩)
  (refine wp_load (hp5.loadM lowx.var (by simp [cells20])) ?_; (repeat apply Exists.intro); refine ⟨rfl, ?_⟩)
  refine wp_bif (fun h => ?_) fun h => ?_
  rotate_left
  · have hn : ¬ r.snap.idx < r.commit := of_decide_eq_false h
    have e : compact r d = Rf.start r := if_neg hn
    rw [e]
    exact tail_wp (x := Rf.start r) hp5 hle st4 rv4
  have hlt : r.snap.idx < r.commit := of_decide_eq_true h
  have e : compact r d = ((Rf.start r).shift ⟨r.commit, (termAt r r.commit).1, d⟩).save [recS ⟨r.commit, (termAt r r.commit).1, d⟩] := if_pos hlt
  rw [e]
  have hp6 := hp5.drew
  (refine wp_load (hp6.loadM lowx.var (by simp [cells20])) ?_; (repeat apply Exists.intro); refine ⟨rfl, ?_⟩)
  (refine wp_load (hp6.loadM lowx.var (by simp [cells20])) ?_; (repeat apply Exists.intro); refine ⟨rfl, ?_⟩)
  refine wp_call (termAt_runs (i := r.commit) hp6 (Mp.le.refl _) ⟨_, _, _, _, _, _, _, rfl, Low.ra hp6 lowx semx⟩ hf.bd.idx (by omega)) fun v7 w7 h7 => ?_
  obtain ⟨rfl, hp7⟩ := h7
  ((repeat apply Exists.intro); refine ⟨rfl, ?_⟩)
  have hp8 := hp7.drew
  (refine wp_load (hp8.loadM lowx.var (by simp [cells20])) ?_; (repeat apply Exists.intro); refine ⟨rfl, ?_⟩)
  -- what is left, once the snapshot lies there
  have go : ∀ {w' : World} {H' : Mp} {p : Nat} {a' : Option Addr} {n' c' : Nat}, Hp w0 w' H' M4 → H4.le H' → H' p = some [.int .u64 r.commit, .int .u64 (termAt r r.commit).1, .slice a' n' c'] → Bs H' a' n' c' d →
      (VC.load ⟨p, 0, none⟩ 3 fun v => .exI fun i1 => .exI fun i2 => .exS fun a n c => .isL v [.int .u64 i1, .int .u64 i2, .slice a n c] <|
        .call 55 [.pointer (some ⟨s, 0, none⟩), .agg #[.int .u64 i1, .int .u64 i2, .slice a n c]] fun v => .isL [v] [.tuple #[]] <|
        .load ⟨p, 0, none⟩ 3 fun v => .exI fun i1 => .exI fun i2 => .exS fun a n c => .isL v [.int .u64 i1, .int .u64 i2, .slice a n c] <|
        .call 57 [.agg #[.int .u64 i1, .int .u64 i2, .slice a n c]] fun v => .exI fun i1 => .exI fun i2 => .exS fun a n c => .isL [v] [.agg #[.int .u64 i1, .int .u64 i2, .slice a n c]] <|
        .new 59 [.int .i64 4, .int .u64 0, .int .i64 0, .int .u64 0, .slice none 0 0, .int .u64 0, .int .u64 i1, .int .u64 i2, .slice a n c] fun p => .call 56 [.pointer (some ⟨s, 0, none⟩), .slice (some ⟨p, 0, none⟩) 1 1] fun v => .isL [v] [.tuple #[]] <|
        tailV s p2 p3).wp Try.prog (Top w0 H M (((Rf.start r).shift ⟨r.commit, (termAt r r.commit).1, d⟩).save [recS ⟨r.commit, (termAt r r.commit).1, d⟩])) (fun _ _ _ => False) w' := by
    intro w' H' p a' n' c' hp' hl' f' hb'
    (refine wp_load (hp'.loadH f' (by simp)) ?_; (repeat apply Exists.intro); refine ⟨rfl, ?_⟩)
    refine wp_call (shift_runs (x := Rf.start r) (xs := ⟨r.commit, (termAt r r.commit).1, d⟩) hp' (st4.mono hl') hb' hf.bd (by omega)) fun v9 w9 h9 => ?_
    obtain ⟨rfl, H9, M9, o9, hp9, hle9, ha9, st9⟩ := h9
    ((repeat apply Exists.intro); refine ⟨rfl, ?_⟩)
    (refine wp_load (hp9.loadH (hle9 _ _ f') (by simp)) ?_; (repeat apply Exists.intro); refine ⟨rfl, ?_⟩)
    refine wp_call (snap_runs (x := ⟨r.commit, (termAt r r.commit).1, d⟩) hp9 (hb'.mono hle9)) fun v10 w10 h10 => ?_
    obtain ⟨a10, n10, c10, H10, rfl, hb10, hp10, hle10⟩ := h10
    ((repeat apply Exists.intro); refine ⟨rfl, ?_⟩)
    refine wp_save1 (m := recS ⟨r.commit, (termAt r r.commit).1, d⟩) hp10 (st9.mono hle10) (Rc_S (x := ⟨r.commit, (termAt r r.commit).1, d⟩) hb10) (by show (Out.none).save.length ≤ _; simp [Out.none]) fun w11 H11 M11 o11 hp11 hle11 ha11 st11 => ?_
    exact tail_wp hp11 ((((hle.trans hl').trans hle9).trans hle10).trans hle11) st11 ((rv4.step ha9).step ha11)
  refine ⟨?_, ?_⟩
  · refine wp_call (cloneBytes' hp8 (hd.mono hle)) fun v9 w9 h9 => ?_
    obtain ⟨a9, n9, c9, H9, rfl, hp9, hle9, hb9⟩ := h9
    ((repeat apply Exists.intro); refine ⟨rfl, ?_⟩)
    refine ⟨fun h hh => ?_, ?_⟩
    · simp only [List.mem_singleton] at hh; subst hh; exact hp9.loadM lowx.var (by simp [cells20])
    refine wp_keep hp9 (by rfl) (by simp [Value.oneCell']) fun p10 w10 H10 hp10 hle10 f10 => ?_
    exact go hp10 (hle9.trans hle10) f10 (hb9.mono hle10)
  · refine wp_new hp8 fun p9 w9 hp9 hM9 _ => ?_
    refine wp_call (cloneBytes' hp9 (hd.mono hle)) fun v10 w10 h10 => ?_
    obtain ⟨a10, n10, c10, H10, rfl, hp10, hle10, hb10⟩ := h10
    ((repeat apply Exists.intro); refine ⟨rfl, ?_⟩)
    refine ⟨fun h hh => ?_, ?_⟩
    · simp only [List.mem_singleton] at hh; subst hh; exact hp10.loadM (lowx.putNew hM9).var (by simp [cells20])
    refine wp_store1 hp10 (by simp) (by simp [Value.oneCell']) fun w11 hp11 => ?_
    rw [splice_all (by simp)] at hp11
    obtain ⟨hp12, hle12⟩ := hp11.fix hM9
    exact go hp12 (hle10.trans hle12) (Mp.put_same _ _ _) (hb10.mono hle12)
end
end Go.Proofs.Ytnbfffmdplcajaa
