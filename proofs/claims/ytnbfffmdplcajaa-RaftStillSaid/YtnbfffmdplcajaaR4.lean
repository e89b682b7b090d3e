/- Contracts: put, what majorities are asked for, counts, answers. -/
import Derived.Test.YtnbfffmdplcajaaR3
import Derived.Test.YtnbfffmdplcajaaBds
namespace Go.Proofs.Ytnbfffmdplcajaa
open Go.Vc Go.Vc.Rf

section
variable {w0 w : World} {H M U : Mp} {s : Nat} {o : List Nat} {x : Sp} {k : Nat}

theorem put_runs {a : Option Addr} {n c : Nat} {d : List UInt8} (hp : Hp w0 w H M) (st : St H M s o x.r x.q) (hd : Bs H a n c d) (hb : Bd k x) (hk : k ≤ 1000) :
    Runs Try.prog 65 [.pointer (some ⟨s, 0, none⟩), .slice a n c] w fun v w' => v = .tuple #[] ∧ Dd w0 H M s o (x.put d) w' := by
  obtain ⟨ss, g, rfl, low, sem⟩ := st.ex
  apply r65
  refine ⟨fun vs w' => ∃ (p : Nat) (H' : Mp) (a' : Option Addr) (n' c' : Nat), vs = [.pointer (some ⟨p, 0, none⟩)] ∧ Hp w0 w' H' M ∧ H.le H' ∧ H' p = some [.int .u64 x.r.term, .slice a' n' c'] ∧ Bs H' a' n' c' d, ?_, ?_⟩
  · have hpd := hp.drew
    (refine wp_load (hpd.loadM low.var (by simp [cells20])) ?_; (repeat apply Exists.intro); refine ⟨rfl, ?_⟩)
    refine ⟨?_, ?_⟩
    · refine wp_call (cloneBytes' hpd hd) fun v1 w1 h1 => ?_
      obtain ⟨a1, n1, c1, H1, rfl, hp1, hle1, hb1⟩ := h1
      ((repeat apply Exists.intro); refine ⟨rfl, ?_⟩)
      refine ⟨fun h hh => ?_, ?_⟩
      · simp only [List.mem_singleton] at hh
        subst hh
        exact hp1.loadM low.var (by simp [cells20])
      refine wp_keep hp1 (by rfl) (by simp [Value.oneCell']) fun p w2 H2 hp2 hle2 f2 => ?_
      exact ⟨p, H2, a1, n1, c1, rfl, hp2, hle1.trans hle2, f2, hb1.mono hle2⟩
    · refine wp_new hpd fun p w1 hp1 hM1 hH1 => ?_
      refine wp_call (cloneBytes' hp1 hd) fun v2 w2 h2 => ?_
      obtain ⟨a1, n1, c1, H1, rfl, hp2, hle1, hb1⟩ := h2
      ((repeat apply Exists.intro); refine ⟨rfl, ?_⟩)
      refine ⟨fun h hh => ?_, ?_⟩
      · simp only [List.mem_singleton] at hh
        subst hh
        exact hp2.loadM (low.putNew hM1).var (by simp [cells20])
      refine wp_store1 hp2 (by simp) (by simp [Value.oneCell']) fun w3 hp3 => ?_
      obtain ⟨hp4, hle4⟩ := hp3.fix hM1
      exact ⟨p, _, a1, n1, c1, rfl, hp4, hle1.trans hle4, Mp.put_same _ _ _, hb1.mono hle4⟩
  · rintro vs w1 ⟨p, H1, a1, n1, c1, rfl, hp1, hle1, f1, hb1⟩
    ((repeat apply Exists.intro); refine ⟨rfl, ?_⟩)
    have hpd := hp1.drew
    (refine wp_load (hpd.loadM low.var (by simp [cells20])) ?_; (repeat apply Exists.intro); refine ⟨rfl, ?_⟩)
    (refine wp_load (hpd.loadH f1 (by simp)) ?_; (repeat apply Exists.intro); refine ⟨rfl, ?_⟩)
    refine wp_newH hpd fun p2 w2 H2 hp2 hle2 f2 => ?_
    have hcur := low.n (i := 0) (by omega) En.len (by decide) sem.log
    have hlog := hb.log
    refine wp_appendL 0 (by omega) hp2 low rfl (hp2.read1 f2 rfl) rfl (by simp [Value.oneCell']) (by omega) (by omega) fun s' M' o' w' hp' low' hn' ha => ?_
    refine wp_storeL hp' low' (by simp [cells20]) (by simp [Value.oneCell']) fun w3 M3 hp3 low3 a3 => ?_
    have hpd3 := hp3.drew
    (refine wp_load (hpd3.loadH (hle2 _ _ f1) (by simp)) ?_; (repeat apply Exists.intro); refine ⟨rfl, ?_⟩)
    have hle := hle1.trans hle2
    have st3 : St H2 M3 s _ (x.log (x.r.log ++ [⟨x.r.term, d⟩])).r x.q := St.of (ss := ss) low3 rfl ⟨sem.state.mono hle, (sem.log.mono (En.mono hle)).append (LL.one ⟨a1, n1, c1, rfl, hb1.mono hle2⟩), sem.votes, sem.next, sem.mat, sem.acks, sem.reads, sem.save.mono (Rc.mono hle), sem.send.mono (Ms.mono hle), sem.ready⟩
    refine wp_call (cloneBytes' hpd3 (hd.mono hle)) fun v4 w4 h4 => ?_
    obtain ⟨a4, n4, c4, H4, rfl, hp4, hle4, hb4⟩ := h4
    ((repeat apply Exists.intro); refine ⟨rfl, ?_⟩)
    refine ⟨fun h hh => ?_, ?_⟩
    · simp only [List.mem_singleton] at hh
      subst hh
      exact hp4.loadH (hle4 _ _ (hle2 _ _ f1)) (by simp)
    refine wp_newH hp4 fun p5 w5 H5 hp5 hle5 f5 => ?_
    have hsv := hb.save
    refine wp_call (save_runs (x := x.log (x.r.log ++ [⟨x.r.term, d⟩])) (l := [recE ⟨x.r.term, d⟩]) hp5 (st3.mono (hle4.trans hle5)) (Sl.one f5 (Rc_E (hb4.mono hle5))) (by simp [Sp.log]; omega)) fun v6 w6 h6 => ?_
    obtain ⟨rfl, h6⟩ := h6
    ((repeat apply Exists.intro); refine ⟨rfl, ?_⟩)
    exact ⟨rfl, Dd.more (hle.trans (hle4.trans hle5)) (ha.trans a3) h6⟩

/-! what a majority is asked for -/
theorem asks99 {p1 : Nat} {r : Raft} {q : Out} (st : St H M s o r q) (hf : H p1 = some [.pointer (some ⟨s, 0, none⟩)]) (hv : (r.votes.length : Int) = r.n) :
    Asks w0 H M r 99 #[.pointer (some ⟨p1, 0, none⟩)] fun i => r.votes.getD i.toNat false := by
  intro H' w' hle hp i hi
  obtain ⟨ss, g, rfl, low, sem⟩ := st.ex
  obtain ⟨h1, h2, _⟩ := others_mem hi
  apply r99
  (refine wp_load (hp.loadH (hle _ _ hf) (by simp)) ?_; (repeat apply Exists.intro); refine ⟨rfl, ?_⟩)
  (refine wp_load (hp.loadM low.var (by simp [cells20])) ?_; (repeat apply Exists.intro); refine ⟨rfl, ?_⟩)
  refine wp_idx Bo.len (by omega) hp (Mp.le.refl _) (Low.ra hp low (sem.mono hle)).votes false 1 (by omega) (by omega) (by omega) fun cs hcs => ?_
  cases hcs
  ((repeat apply Exists.intro); refine ⟨rfl, ?_⟩)
  exact ⟨rfl, hp⟩

theorem asks101 {p1 p2 : Nat} {r : Raft} {q : Out} {j : Int} (st : St H M s o r q) (hf : H p1 = some [.pointer (some ⟨s, 0, none⟩)]) (hf2 : H p2 = some [.int .u64 j]) (hv : (r.mat.length : Int) = r.n) :
    Asks w0 H M r 101 #[.pointer (some ⟨p1, 0, none⟩), .pointer (some ⟨p2, 0, none⟩)] fun i => decide (j ≤ nth r.mat i) := by
  intro H' w' hle hp i hi
  obtain ⟨ss, g, rfl, low, sem⟩ := st.ex
  obtain ⟨h1, h2, _⟩ := others_mem hi
  apply r101
  have hpd := hp.drew
  (refine wp_load (hpd.loadH (hle _ _ hf) (by simp)) ?_; (repeat apply Exists.intro); refine ⟨rfl, ?_⟩)
  (refine wp_load (hpd.loadM low.var (by simp [cells20])) ?_; (repeat apply Exists.intro); refine ⟨rfl, ?_⟩)
  refine wp_idx Nu.len (by omega) hpd (Mp.le.refl _) (Low.ra hpd low (sem.mono hle)).mat 0 1 (by omega) (by omega) (by omega) fun cs hcs => ?_
  cases hcs
  ((repeat apply Exists.intro); refine ⟨rfl, ?_⟩)
  (refine wp_load (hpd.loadH (hle _ _ hf2) (by simp)) ?_; (repeat apply Exists.intro); refine ⟨rfl, ?_⟩)
  exact ⟨rfl, hpd⟩

theorem asks111 {p1 p2 : Nat} {r : Raft} {q : Out} {y : Rd} (st : St H M s o r q) (hf : H p1 = some [.pointer (some ⟨s, 0, none⟩)]) (hf2 : H p2 = some [.int .u64 y.id, .int .u64 y.idx, .int .u64 y.round]) (hv : (r.acks.length : Int) = r.n) :
    Asks w0 H M r 111 #[.pointer (some ⟨p1, 0, none⟩), .pointer (some ⟨p2, 0, none⟩)] fun i => decide (y.round ≤ nth r.acks i) := by
  intro H' w' hle hp i hi
  obtain ⟨ss, g, rfl, low, sem⟩ := st.ex
  obtain ⟨h1, h2, _⟩ := others_mem hi
  apply r111
  have hpd := hp.drew
  (refine wp_load (hpd.loadH (hle _ _ hf) (by simp)) ?_; (repeat apply Exists.intro); refine ⟨rfl, ?_⟩)
  (refine wp_load (hpd.loadM low.var (by simp [cells20])) ?_; (repeat apply Exists.intro); refine ⟨rfl, ?_⟩)
  refine wp_idx Nu.len (by omega) hpd (Mp.le.refl _) (Low.ra hpd low (sem.mono hle)).acks 0 1 (by omega) (by omega) (by omega) fun cs hcs => ?_
  cases hcs
  ((repeat apply Exists.intro); refine ⟨rfl, ?_⟩)
  (refine wp_load (hpd.loadH (hle _ _ hf2) (by simp)) ?_; (repeat apply Exists.intro); refine ⟨rfl, ?_⟩)
  exact ⟨rfl, hpd⟩

theorem counts_runs (hp : Hp w0 w H M) (st : St H M s o x.r x.q) (hb : Bd k x) (hk : k ≤ 1000) (hm : (x.r.mat.length : Int) = x.r.n) :
    Runs Try.prog 66 [.pointer (some ⟨s, 0, none⟩)] w fun v w' => v = .tuple #[] ∧ Dd w0 H M s o x.counts w' := by
  have st0 := st
  obtain ⟨ss, g, rfl, low, sem⟩ := st.ex
  have hi0 := hb.idx
  have hla := hb.last
  unfold lastI at hla
  have hcur := low.n (i := 0) (by omega) En.len (by decide) sem.log
  apply r66
  refine wp_newH hp fun p1 w1 H1 hp1 hle1 f1 => ?_
  (refine wp_load (hp1.loadH f1 (by simp)) ?_; (repeat apply Exists.intro); refine ⟨rfl, ?_⟩)
  (refine wp_load (hp1.loadM low.var (by simp [cells20])) ?_; (repeat apply Exists.intro); refine ⟨rfl, ?_⟩)
  refine ⟨fun vs w' => ∃ (j : Nat) (H' : Mp), vs = [.int .i64 j] ∧ j ≤ x.r.log.length ∧ Hp w0 w' H' M ∧ H1.le H' ∧ countsFrom x.r j = countsFrom x.r x.r.log.length,
    fun vs _ => match vs with | [.int _ q] => q.toNat | _ => 0, ⟨x.r.log.length, H1, by rw [hcur], Nat.le_refl _, hp1, Mp.le.refl _, rfl⟩, ?_⟩
  rintro vs w2 ⟨j, H2, rfl, hj, hp2, hle2, hcf⟩
  have same : ∀ {w' : World} {H' : Mp}, Hp w0 w' H' M → H1.le H' → countsFrom x.r j = x.r.commit → Value.tuple #[] = Value.tuple #[] ∧ Dd w0 H M s (g.own s) x.counts w' := fun h hl he =>
    ⟨rfl, _, M, _, h, hle1.trans hl, Adv.refl _ _, by
      have : x.counts = x := by
        unfold Sp.counts Sp.commit
        rw [← hcf, he]
      rw [this]
      exact st0.mono (hle1.trans hl)⟩
  ((repeat apply Exists.intro); refine ⟨rfl, ?_⟩)
  refine wp_bif (fun h => ?_) fun h => ?_
  · obtain ⟨i, rfl⟩ : ∃ i, j = i + 1 := ⟨j - 1, by simp at h; omega⟩
    (refine wp_load (hp2.loadH (hle2 _ _ f1) (by simp)) ?_; (repeat apply Exists.intro); refine ⟨rfl, ?_⟩)
    (refine wp_load (hp2.loadM low.var (by simp [cells20])) ?_; (repeat apply Exists.intro); refine ⟨rfl, ?_⟩)
    refine wp_keep hp2 (by rfl) (by simp [Value.oneCell']) fun p3 w3 H3 hp3 hle3 f3 => ?_
    have hp4 := hp3.drew
    have l3 := hle2.trans hle3
    (refine wp_load (hp4.loadH f3 (by simp)) ?_; (repeat apply Exists.intro); refine ⟨rfl, ?_⟩)
    (refine wp_load (hp4.loadH (l3 _ _ f1) (by simp)) ?_; (repeat apply Exists.intro); refine ⟨rfl, ?_⟩)
    (refine wp_load (hp4.loadM low.var (by simp [cells20])) ?_; (repeat apply Exists.intro); refine ⟨rfl, ?_⟩)
    have ew : IntKind.u64.wrap (x.r.snap.idx + IntKind.u64.wrap ((i + 1 : Nat) : Int)) = x.r.snap.idx + ((i + 1 : Nat) : Int) := by
      rw [wrap_u64 (x := ((i + 1 : Nat) : Int)) (by omega) (by omega), wrap_u64 (by omega) (by omega)]
    rw [ew] at f3 ⊢
    refine wp_bif (fun h2 => ?_) fun h2 => ?_
    · refine same hp4 l3 ?_
      unfold countsFrom
      rw [if_pos (by simpa using h2)]
    · have hp5 := hp4.drew
      (refine wp_load (hp5.loadH (l3 _ _ f1) (by simp)) ?_; (repeat apply Exists.intro); refine ⟨rfl, ?_⟩)
      (refine wp_load (hp5.loadM low.var (by simp [cells20])) ?_; (repeat apply Exists.intro); refine ⟨rfl, ?_⟩)
      have e7 : IntKind.i64.wrap (((i + 1 : Nat) : Int) - 1) = (i : Int) := by rw [wrap_i64 (by omega) (by omega)]; omega
      rw [e7]
      refine wp_idx En.len (by omega) hp5 (Mp.le.refl _) (Low.ra hp5 low (sem.mono (hle1.trans l3))).log Ent.none 1 (by omega) (by omega) (by omega) fun cs hcs => ?_
      obtain ⟨ea, en, ec, rfl, _⟩ := hcs
      ((repeat apply Exists.intro); refine ⟨rfl, ?_⟩)
      (refine wp_load (hp5.loadH (l3 _ _ f1) (by simp)) ?_; (repeat apply Exists.intro); refine ⟨rfl, ?_⟩)
      (refine wp_load (hp5.loadM low.var (by simp [cells20])) ?_; (repeat apply Exists.intro); refine ⟨rfl, ?_⟩)
      have again : ∀ {w' : World}, Hp w0 w' H3 M → ¬ (((x.r.log.getD i Ent.none).term == x.r.term) = true ∧ countsAt x.r (x.r.snap.idx + ((i + 1 : Nat) : Int)) = true) →
          (∃ (j : Nat) (H' : Mp), [Value.int .i64 (IntKind.i64.wrap (((i + 1 : Nat) : Int) - 1))] = [.int .i64 j] ∧ j ≤ x.r.log.length ∧ Hp w0 w' H' M ∧ H1.le H' ∧ countsFrom x.r j = countsFrom x.r x.r.log.length) ∧ (IntKind.i64.wrap (((i + 1 : Nat) : Int) - 1)).toNat < ((i + 1 : Nat) : Int).toNat := fun h hn => by
        refine ⟨⟨i, H3, by rw [e7], by omega, h, l3, ?_⟩, by rw [e7]; omega⟩
        rw [← hcf]
        conv => rhs; unfold countsFrom
        rw [if_neg (by simpa using h2), if_neg (by simpa using hn)]
      rw [e7] at again
      simp only [Int.toNat_natCast]
      refine wp_bif (fun h4 => ?_) fun h4 => ?_
      · (refine wp_load (hp5.loadH (l3 _ _ f1) (by simp)) ?_; (repeat apply Exists.intro); refine ⟨rfl, ?_⟩)
        refine wp_call (most_runs (s := s) hp5 (st0.mono (hle1.trans l3)) hb.n (asks101 (st0.mono (hle1.trans l3)) (l3 _ _ f1) f3 hm)) fun v6 w6 h6 => ?_
        obtain ⟨rfl, hp6⟩ := h6
        ((repeat apply Exists.intro); refine ⟨rfl, ?_⟩)
        refine wp_bif (fun h7 => ?_) fun h7 => ?_
        · (refine wp_load (hp6.loadH (l3 _ _ f1) (by simp)) ?_; (repeat apply Exists.intro); refine ⟨rfl, ?_⟩)
          (refine wp_load (hp6.loadH f3 (by simp)) ?_; (repeat apply Exists.intro); refine ⟨rfl, ?_⟩)
          refine wp_storeL hp6 low (by simp [cells20]) (by simp [Value.oneCell']) fun w8 M8 hp8 low8 a8 => ?_
          have e9 : countsFrom x.r x.r.log.length = x.r.snap.idx + ((i + 1 : Nat) : Int) := by
            rw [← hcf]
            unfold countsFrom
            rw [if_neg (by simpa using h2), if_pos]
            rw [Bool.and_eq_true]
            exact ⟨h4, h7⟩
          refine ⟨rfl, H3, M8, _, hp8, hle1.trans l3, a8, St.of (ss := ss) low8 ?_ ?_⟩
          · simp [cells20, splice, Sp.counts, Sp.commit, e9]
          · have sm := sem.mono (hle1.trans l3)
            exact ⟨sm.state, sm.log, sm.votes, sm.next, sm.mat, sm.acks, sm.reads, sm.save, sm.send, sm.ready⟩
        · exact again hp6 fun hh => by rw [show countsAt x.r (x.r.snap.idx + ((i + 1 : Nat) : Int)) = false from h7] at hh; simp at hh
      · exact again hp5 fun hh => by rw [h4] at hh; simp at hh
  · have hj0 : j = 0 := by simp at h; omega
    subst hj0
    exact same hp2 hle2 rfl
end
end Go.Proofs.Ytnbfffmdplcajaa
