/- Contracts: shift, asked, voted, led, takes. -/
import Derived.Test.YtnbfffmdplcajaaR9
namespace Go.Vc.Rf
section
theorem Own.cut {M : Mp} {k : Nat} {s : Sl3} {cells : List Value} {o : List Nat} (h : Own M k s cells o) {j : Nat} (hj : j ≤ s.n) : Own M k ⟨s.a, j, s.c⟩ (cells.take (j * k)) o := by
  obtain ⟨h1, h2⟩ := h
  have hjk : j * k ≤ s.n * k := Nat.mul_le_mul_right k hj
  refine ⟨by rw [List.length_take]; show min _ _ = j * k; omega, ?_⟩
  rcases h2 with ⟨h3, h4, h5, h6⟩ | ⟨b, cs, h3, h4, h5, h6, h7, h8⟩
  · exact .inl ⟨h3, by show j = 0; omega, h5, h6⟩
  · refine .inr ⟨b, cs, h3, h4, h5, h6, by show j ≤ s.c; omega, ?_⟩
    show cs.take (j * k) = _
    rw [← h8, List.take_take, Nat.min_eq_left hjk]

theorem Low.setNew {M M' : Mp} {s : Nat} {cs : List Value} {g : Gs} (low : Low M s cs g) {i : Nat} (hi : i < 9) {c : Comp} (ho : Own M' (wd i) c.sl c.cells c.o) (ha : Adv M [] M' c.o) : Low M' s cs (g.upd i c) ∧ Adv M (g.own s) M' ((g.upd i c).own s) := by
  have hne : ∀ b ∈ g.own s, M b ≠ none := fun b hb => by
    rcases Gs.mem_own.1 hb with e | ⟨j, hj, h⟩
    · subst e; rw [low.var]; simp
    · exact (low.own j hj).ne b h
  have hnew : ∀ b ∈ c.o, M b = none := fun b hb => (ha.fresh b hb).resolve_left (by simp)
  refine ⟨(low.frame fun b hb => ha.keep b (hne b hb) (by simp)).set hi ho fun b hb h => hne b h (hnew b hb), fun b hb _ => ha.keep b hb (by simp), fun b hb => ?_⟩
  rcases List.mem_append.1 (Gs.own_upd b hb) with h | h
  · exact .inl h
  · exact .inr (hnew b h)
end
end Go.Vc.Rf
namespace Go.Proofs.Ytnbfffmdplcajaa
open Go.Vc Go.Vc.Rf

section
variable {w0 w : World} {H M U : Mp} {s : Nat} {o : List Nat} {x : Sp} {k : Nat} {R : Value → World → Prop} {env : Nat → List Value → World → Prop}

theorem wp_draw {P : Program} {k : VC} (h : k.wp P R env w.drew) : (VC.draw k).wp P R env w := h

/-- One letter made and sent. -/
theorem wp_send1 {cs : List Value} {m : Msg} (hp : Hp w0 w H M) (st : St H M s o x.r x.q) (hm : Ms H cs m) (hb : x.q.send.length ≤ 10000000) {k : VC}
    (hk : ∀ w' H' M' o', Hp w0 w' H' M' → H.le H' → Adv M o M' o' → St H' M' s o' (x.send m).r (x.send m).q → k.wp Try.prog R env w') :
    (VC.new 70 cs fun p => .call 64 [.pointer (some ⟨s, 0, none⟩), .slice (some ⟨p, 0, none⟩) 1 1] fun v => .isL [v] [.tuple #[]] k).wp Try.prog R env w := by
  refine wp_newH hp fun p w1 H1 hp1 hle1 f1 => ?_
  refine wp_call (send_runs (l := [m]) hp1 (st.mono hle1) (Sl.one f1 (hm.mono hle1)) (by simp; omega)) fun v w2 h2 => ?_
  obtain ⟨rfl, H2, M2, o2, hp2, hle2, ha2, st2⟩ := h2
  exact ⟨rfl, hk w2 H2 M2 o2 hp2 (hle1.trans hle2) ha2 st2⟩
theorem wp_save1 {cs : List Value} {m : Rec} (hp : Hp w0 w H M) (st : St H M s o x.r x.q) (hm : Rc H cs m) (hb : x.q.save.length ≤ 10000000) {k : VC}
    (hk : ∀ w' H' M' o', Hp w0 w' H' M' → H.le H' → Adv M o M' o' → St H' M' s o' (x.save [m]).r (x.save [m]).q → k.wp Try.prog R env w') :
    (VC.new 59 cs fun p => .call 56 [.pointer (some ⟨s, 0, none⟩), .slice (some ⟨p, 0, none⟩) 1 1] fun v => .isL [v] [.tuple #[]] k).wp Try.prog R env w := by
  refine wp_newH hp fun p w1 H1 hp1 hle1 f1 => ?_
  refine wp_call (save_runs (l := [m]) hp1 (st.mono hle1) (Sl.one f1 (hm.mono hle1)) (by simp; omega)) fun v w2 h2 => ?_
  obtain ⟨rfl, H2, M2, o2, hp2, hle2, ha2, st2⟩ := h2
  exact ⟨rfl, hk w2 H2 M2 o2 hp2 (hle1.trans hle2) ha2 st2⟩

theorem termAt_in {r : Raft} {i : Int} (h : (termAt r i).2 = true) : r.snap.idx ≤ i ∧ i ≤ lastI r := by
  unfold termAt at h
  split at h
  · rename_i e
    unfold lastI; omega
  · split at h
    · cases h
    · omega

theorem shift_runs {xs : Snp} {a : Option Addr} {n c : Nat} (hp : Hp w0 w H M) (st : St H M s o x.r x.q) (hx : Bs H a n c xs.state) (hb : Bd k x) (hk : k ≤ 1000) :
    Runs Try.prog 55 [.pointer (some ⟨s, 0, none⟩), .agg #[.int .u64 xs.idx, .int .u64 xs.term, .slice a n c]] w fun v w' => v = .tuple #[] ∧ Dd w0 H M s o (x.shift xs) w' := by
  obtain ⟨ss, g, rfl, low, sem⟩ := st.ex
  have hi0 := hb.idx
  have hla := hb.last
  apply r55
  refine wp_newH hp fun p1 w1 H1 hp1 hle1 f1 => ?_
  have hpd := hp1.drew
  have sem1 := sem.mono hle1
  (refine wp_load (hpd.loadM low.var (by simp [cells20])) ?_; (repeat apply Exists.intro); refine ⟨rfl, ?_⟩)
  (refine wp_load (hpd.loadH f1 (by simp)) ?_; (repeat apply Exists.intro); refine ⟨rfl, ?_⟩)
  refine wp_call (termAt_runs (i := xs.idx) hpd (Mp.le.refl _) ⟨_, _, _, _, _, _, _, rfl, Low.ra hpd low sem1⟩ hi0 (by omega)) fun v2 w2 h2 => ?_
  obtain ⟨rfl, hp2⟩ := h2
  ((repeat apply Exists.intro); refine ⟨rfl, ?_⟩)
  have fin : ∀ (w' : World) (H' M' : Mp) (g' : Gs) (l : List Ent), Hp w0 w' H' M' → H1.le H' → Low M' s (cells20 { x.r with log := l } ss g') g' → Rf.Sem H' { x.r with log := l } x.q ss g' → Adv M (g.own s) M' (g'.own s) →
      ({ x.r with log := l, snap := xs } : Raft) = (x.shift xs).r →
      (VC.load ⟨p1, 0, none⟩ 3 fun v => .exI fun i1 => .exI fun i2 => .exS fun a n c => .isL v [.int .u64 i1, .int .u64 i2, .slice a n c] <|
        .call 57 [.agg #[.int .u64 i1, .int .u64 i2, .slice a n c]] fun v => .exI fun i1 => .exI fun i2 => .exS fun a n c => .isL [v] [.agg #[.int .u64 i1, .int .u64 i2, .slice a n c]] <|
        .store ⟨s, 4, none⟩ [.int .u64 i1, .int .u64 i2, .slice a n c] <| .ret (.tuple #[])).wp Try.prog (fun v w' => v = .tuple #[] ∧ Dd w0 H M s (g.own s) (x.shift xs) w') (fun _ _ _ => False) w' := by
    intro w' H' M' g' l hp' hle' low' sem' ha' e
    (refine wp_load (hp'.loadH (hle' _ _ f1) (by simp)) ?_; (repeat apply Exists.intro); refine ⟨rfl, ?_⟩)
    refine wp_call (snap_runs (x := xs) hp' (hx.mono (hle1.trans hle'))) fun v3 w3 h3 => ?_
    obtain ⟨a3, n3, c3, H3, rfl, hb3, hp3, hle3⟩ := h3
    ((repeat apply Exists.intro); refine ⟨rfl, ?_⟩)
    refine wp_storeL hp3 low' (by simp [cells20]) (by simp [Value.oneCell']) fun w4 M4 hp4 low4 a4 => ?_
    have sm := sem'.mono hle3
    refine ⟨rfl, H3, M4, _, hp4, (hle1.trans hle').trans hle3, ha'.trans a4, ?_⟩
    rw [← e]
    exact St.of (ss := ⟨a3, n3, c3⟩) low4 rfl ⟨hb3, sm.log, sm.votes, sm.next, sm.mat, sm.acks, sm.reads, sm.save, sm.send, sm.ready⟩
  have nil : ∀ (w' : World), Hp w0 w' H1 M → ¬ ((termAt x.r xs.idx).2 = true ∧ (termAt x.r xs.idx).1 = xs.term) →
      (VC.store ⟨s, 7, none⟩ [.slice none 0 0] <| VC.load ⟨p1, 0, none⟩ 3 fun v => .exI fun i1 => .exI fun i2 => .exS fun a n c => .isL v [.int .u64 i1, .int .u64 i2, .slice a n c] <|
        .call 57 [.agg #[.int .u64 i1, .int .u64 i2, .slice a n c]] fun v => .exI fun i1 => .exI fun i2 => .exS fun a n c => .isL [v] [.agg #[.int .u64 i1, .int .u64 i2, .slice a n c]] <|
        .store ⟨s, 4, none⟩ [.int .u64 i1, .int .u64 i2, .slice a n c] <| .ret (.tuple #[])).wp Try.prog (fun v w' => v = .tuple #[] ∧ Dd w0 H M s (g.own s) (x.shift xs) w') (fun _ _ _ => False) w' := by
    intro w' hp' hn
    refine wp_storeL hp' low (by simp [cells20]) (by simp [Value.oneCell']) fun w4 M4 hp4 low4 a4 => ?_
    obtain ⟨low5, a5⟩ := low4.clear (i := 0) (by omega)
    exact fin w4 H1 M4 (g.upd 0 nilC) [] hp4 (Mp.le.refl _) low5 ⟨sem1.state, rfl, sem1.votes, sem1.next, sem1.mat, sem1.acks, sem1.reads, sem1.save, sem1.send, sem1.ready⟩ (a4.trans a5) (by simp [Sp.shift, hn])
  refine wp_bif (fun h => ?_) fun h => ?_
  · (refine wp_load (hp2.loadH f1 (by simp)) ?_; (repeat apply Exists.intro); refine ⟨rfl, ?_⟩)
    refine wp_bif (fun h3 => ?_) fun h3 => ?_
    · have ht : (termAt x.r xs.idx).1 = xs.term := by simpa using h3
      obtain ⟨b1, b2⟩ := termAt_in h
      unfold lastI at b2 hla
      have hcur := low.n (i := 0) (by omega) En.len (by decide) sem.log
      have hlog := hb.log
      have hp3 := hp2.drew
      (refine wp_load (hp3.loadM low.var (by simp [cells20])) ?_; (repeat apply Exists.intro); refine ⟨rfl, ?_⟩)
      (refine wp_load (hp3.loadH f1 (by simp)) ?_; (repeat apply Exists.intro); refine ⟨rfl, ?_⟩)
      (refine wp_load (hp3.loadM low.var (by simp [cells20])) ?_; (repeat apply Exists.intro); refine ⟨rfl, ?_⟩)
      have ew : IntKind.u64.wrap (xs.idx - x.r.snap.idx) = xs.idx - x.r.snap.idx := wrap_u64 (by omega) (by omega)
      rw [ew]
      refine ⟨⟨by omega, by omega⟩, ?_⟩
      have hsl := Sl.drop (H := uni H1 M) (p := En H1) (k := (xs.idx - x.r.snap.idx).toNat) En.len (own_sl (U := uni H1 M) En.len (by omega) (low.own 0 (by omega)) (low.own 0 (by omega)).uni sem1.log)
      refine wp_call (entries_runs hp3 (Mp.le.refl _) hsl (by rw [List.length_drop]; omega)) fun v6 w6 h6 => ?_
      obtain ⟨t6, H6, M6, o6, cells6, rfl, hp6, hle6, ho6, hl6, ha6⟩ := h6
      ((repeat apply Exists.intro); refine ⟨rfl, ?_⟩)
      obtain ⟨low6, a6⟩ := low.setNew (i := 0) (c := ⟨t6, cells6, o6⟩) (by omega) ho6 ha6
      have sm := sem1.mono hle6
      refine wp_storeL hp6 low6 (by simp [cells20]) (by simp [Value.oneCell']) fun w7 M7 hp7 low7 a7 => ?_
      exact fin w7 H6 M7 (g.upd 0 ⟨t6, cells6, o6⟩) (x.r.log.drop (xs.idx - x.r.snap.idx).toNat) hp7 hle6 low7 ⟨sm.state, hl6, sm.votes, sm.next, sm.mat, sm.acks, sm.reads, sm.save, sm.send, sm.ready⟩ (a6.trans a7) (by simp [Sp.shift, h, ht])
    · exact nil _ hp2 fun hh => by rw [hh.2] at h3; simp at h3
  · exact nil _ hp2 fun hh => by rw [hh.1] at h; cases h

theorem led_runs {m : Msg} {cs : List Value} (hp : Hp w0 w H M) (st : St H M s o x.r x.q) (hm : Ms H cs m) (hb : Bd k x) (hk : k ≤ 1000) :
    Runs Try.prog 106 [.pointer (some ⟨s, 0, none⟩), .agg cs.toArray] w fun v w' => v = .bool (x.led m).2 ∧ Dd w0 H M s o (x.led m).1 w' := by
  have st0 := st
  obtain ⟨ss, g, rfl, low, sem⟩ := st.ex
  obtain ⟨a1, n1, c1, a2, n2, c2, rfl, he, hs⟩ := hm
  have hsd := hb.send
  apply r106
  refine wp_newH hp fun p1 w1 H1 hp1 hle1 f1 => ?_
  have hpd := hp1.drew
  (refine wp_load (hpd.loadH f1 (by simp)) ?_; (repeat apply Exists.intro); refine ⟨rfl, ?_⟩)
  (refine wp_load (hpd.loadM low.var (by simp [cells20])) ?_; (repeat apply Exists.intro); refine ⟨rfl, ?_⟩)
  refine wp_bif (fun h => ?_) fun h => ?_
  · have hlt : m.term < x.r.term := of_decide_eq_true h
    (refine wp_load (hpd.loadH f1 (by simp)) ?_; (repeat apply Exists.intro); refine ⟨rfl, ?_⟩)
    (refine wp_load (hpd.loadH f1 (by simp)) ?_; (repeat apply Exists.intro); refine ⟨rfl, ?_⟩)
    refine wp_send1 (m := { Msg.none with kind := 4, dest := m.frm, round := m.round }) hpd (st0.mono hle1) ⟨_, _, _, _, _, _, rfl, Sl.nil _ _, Bs.nil _⟩ (by omega) fun w2 H2 M2 o2 hp2 hle2 ha2 st2 => ?_
    have e : x.led m = (x.send { Msg.none with kind := 4, dest := m.frm, round := m.round }, false) := if_pos hlt
    rw [e]
    exact ⟨rfl, H2, M2, o2, hp2, hle1.trans hle2, ha2, st2⟩
  · have hlt : ¬ m.term < x.r.term := of_decide_eq_false h
    have hpe := hpd.drew
    (refine wp_load (hpe.loadH f1 (by simp)) ?_; (repeat apply Exists.intro); refine ⟨rfl, ?_⟩)
    refine wp_storeL hpe low (by simp [cells20]) (by simp [Value.oneCell']) fun w2 M2 hp2 low2 a2 => ?_
    refine ⟨fun h hh => ?_, ?_⟩
    · simp only [List.mem_singleton] at hh; subst hh; exact hp2.loadH f1 (by simp)
    refine wp_storeL hp2 low2 (by simp [cells20, splice]) (by simp [Value.oneCell']) fun w3 M3 hp3 low3 a3 => ?_
    have sm := sem.mono hle1
    have st3 : St H1 M3 s _ ({ x.r with role := 0, lead := m.frm } : Raft) x.q := St.of (ss := ss) low3 rfl ⟨sm.state, sm.log, sm.votes, sm.next, sm.mat, sm.acks, sm.reads, sm.save, sm.send, sm.ready⟩
    refine wp_call (bare_runs (x := ⟨{ x.r with role := 0, lead := m.frm }, x.q⟩) hp3 st3) fun v4 w4 h4 => ?_
    obtain ⟨rfl, h4⟩ := h4
    ((repeat apply Exists.intro); refine ⟨rfl, ?_⟩)
    have e : x.led m = (({ x with r := { x.r with role := 0, lead := m.frm } } : Sp).bare, true) := if_neg hlt
    rw [e]
    exact ⟨rfl, Dd.more hle1 (a2.trans a3) h4⟩

theorem voted_runs {m : Msg} {cs : List Value} (hp : Hp w0 w H M) (st : St H M s o x.r x.q) (hm : Ms H cs m) (hb : Bd k x) (hk : k ≤ 800)
    (h1 : 1 ≤ x.r.id) (h2 : x.r.id ≤ x.r.n) (hv : x.r.role = 1 → (x.r.votes.length : Int) = x.r.n) (f0 : 1 ≤ m.frm) (f1 : m.frm ≤ x.r.n) :
    Runs Try.prog 73 [.pointer (some ⟨s, 0, none⟩), .agg cs.toArray] w fun v w' => v = .tuple #[] ∧ Dd w0 H M s o (x.voted m) w' := by
  have st0 := st
  obtain ⟨ss, g, rfl, low, sem⟩ := st.ex
  obtain ⟨a1, n1, c1, a2, n2, c2, rfl, he, hs⟩ := hm
  have hn := hb.n
  apply r73
  refine wp_newH hp fun p1 w1 H1 hp1 hle1 g1 => ?_
  have hpd := hp1.drew
  have no : ∀ w', Hp w0 w' H1 M → ¬ (x.r.role = 1 ∧ m.term = x.r.term ∧ m.ok = true) → Value.tuple #[] = .tuple #[] ∧ Dd w0 H M s (g.own s) (x.voted m) w' := fun w' hp' hn => by
    have e : x.voted m = x := if_neg hn
    rw [e]
    exact ⟨rfl, H1, M, _, hp', hle1, Adv.refl _ _, st0.mono hle1⟩
  (refine wp_load (hpd.loadM low.var (by simp [cells20])) ?_; (repeat apply Exists.intro); refine ⟨rfl, ?_⟩)
  refine wp_bif (fun h => ?_) fun h => no _ hpd fun hh => by rw [hh.1] at h; simp at h
  have hro : x.r.role = 1 := by simpa using h
  (refine wp_load (hpd.loadH g1 (by simp)) ?_; (repeat apply Exists.intro); refine ⟨rfl, ?_⟩)
  (refine wp_load (hpd.loadM low.var (by simp [cells20])) ?_; (repeat apply Exists.intro); refine ⟨rfl, ?_⟩)
  refine wp_bif (fun h => ?_) fun h => no _ hpd fun hh => by rw [hh.2.1] at h; simp at h
  have hte : m.term = x.r.term := by simpa using h
  (refine wp_load (hpd.loadH g1 (by simp)) ?_; (repeat apply Exists.intro); refine ⟨rfl, ?_⟩)
  refine wp_bif (fun h => ?_) fun h => no _ hpd fun hh => by rw [hh.2.2] at h; simp at h
  have hpe := hpd.drew
  have hvl := hv hro
  (refine wp_load (hpe.loadM low.var (by simp [cells20])) ?_; (repeat apply Exists.intro); refine ⟨rfl, ?_⟩)
  (refine wp_load (hpe.loadH g1 (by simp)) ?_; (repeat apply Exists.intro); refine ⟨rfl, ?_⟩)
  have ei : IntKind.i64.wrap (m.frm - 1) = m.frm - 1 := wrap_i64 (by omega) (by omega)
  rw [ei]
  refine wp_setL 1 (by omega) rfl hpe low (p := Bo) sem.votes Bo.len (by omega) (by omega) (y := true) rfl rfl fun w2 M2 cells2 hp2 low2 hl2 a2 => ?_
  have sm := sem.mono hle1
  have st2 : St H1 M2 s _ ({ x with r := { x.r with votes := x.r.votes.set (m.frm - 1).toNat true } } : Sp).r x.q := St.of (ss := ss) low2 rfl ⟨sm.state, sm.log, hl2, sm.next, sm.mat, sm.acks, sm.reads, sm.save, sm.send, sm.ready⟩
  have hb2 : Bd k ({ x with r := { x.r with votes := x.r.votes.set (m.frm - 1).toNat true } } : Sp) := ⟨hb.idx, hb.last, hb.term0, hb.term, hb.round0, hb.round, hb.mat, hb.next, hb.log, hb.reads, hb.n, hb.save, hb.send, hb.ready⟩
  refine wp_call (elects_runs (x := { x with r := { x.r with votes := x.r.votes.set (m.frm - 1).toNat true } }) hp2 st2 hb2 hk (by simpa using hvl) h1 h2) fun v3 w3 h3 => ?_
  obtain ⟨rfl, h3⟩ := h3
  ((repeat apply Exists.intro); refine ⟨rfl, ?_⟩)
  have e : x.voted m = ({ x with r := { x.r with votes := x.r.votes.set (m.frm - 1).toNat true } } : Sp).elects := if_pos ⟨hro, hte, h⟩
  rw [e]
  exact ⟨rfl, Dd.more hle1 a2 h3⟩
end
end Go.Proofs.Ytnbfffmdplcajaa
