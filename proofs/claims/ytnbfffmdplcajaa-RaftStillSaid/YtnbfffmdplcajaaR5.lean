/- Contracts: answers, sends, calls. -/
import Derived.Test.YtnbfffmdplcajaaR4
namespace Go.Proofs.Ytnbfffmdplcajaa
open Go.Vc Go.Vc.Rf

section
variable {w0 w : World} {H M U : Mp} {s : Nat} {o : List Nat} {x : Sp} {k : Nat}

theorem answers_runs (hp : Hp w0 w H M) (st : St H M s o x.r x.q) (hb : Bd k x) (hk : k ≤ 1000) (hm : (x.r.acks.length : Int) = x.r.n) :
    Runs Try.prog 103 [.pointer (some ⟨s, 0, none⟩)] w fun v w' => v = .tuple #[] ∧ Dd w0 H M s o x.answers w' := by
  obtain ⟨ss, g, rfl, low, sem⟩ := st.ex
  have hcur := low.n (i := 5) (by omega) Re.len (by decide) sem.reads
  have hrd := hb.reads
  have hry := hb.ready
  apply r103
  refine wp_newH hp fun p1 w1 H1 hp1 hle1 f1 => ?_
  (refine wp_load (hp1.loadH f1 (by simp)) ?_; (repeat apply Exists.intro); refine ⟨rfl, ?_⟩)
  (refine wp_load (hp1.loadM low.var (by simp [cells20])) ?_; (repeat apply Exists.intro); refine ⟨rfl, ?_⟩)
  refine ⟨fun vs w' => ∃ (j : Nat) (t : Sl3) (cells : List Value) (ot : List Nat) (H' M' : Mp) (g' : Gs), vs = [.slice t.a t.n t.c, .int .i64 j] ∧ j ≤ x.r.reads.length ∧ Hp w0 w' H' M' ∧ H1.le H' ∧ Adv M (g.own s) M' (g'.own s ++ ot) ∧
      g' 5 = g 5 ∧ Low M' s (cells20 x.r ss g') g' ∧ Rf.Sem H' x.r { x.q with ready := x.q.ready ++ (x.r.reads.take j).filter (readOk x.r) } ss g' ∧
      Own M' 3 t cells ot ∧ LL Re cells ((x.r.reads.take j).filter fun y => !readOk x.r y) ∧ ∀ b ∈ ot, b ∉ g'.own s,
    fun vs _ => match vs with | [_, .int _ q] => x.r.reads.length - q.toNat | _ => 0,
    ⟨0, ⟨none, 0, 0⟩, [], [], H1, M, g, rfl, Nat.zero_le _, hp1, Mp.le.refl _, (Adv.refl _ _).sub (by simp), rfl, low, by simpa using sem.mono hle1, Own.nil _ _, rfl, by simp⟩, ?_⟩
  rintro vs w2 ⟨j, t, cells, ot, H2, M2, g2, rfl, hj, hp2, hle2, ha2, hg5, low2, sem2, own2, hl2, hd2⟩
  ((repeat apply Exists.intro); refine ⟨rfl, ?_⟩)
  have st2 : St H2 M2 s (g2.own s) x.r { x.q with ready := x.q.ready ++ (x.r.reads.take j).filter (readOk x.r) } := St.of low2 rfl sem2
  refine wp_bif (fun h => ?_) fun h => ?_
  · have hjl : j < x.r.reads.length := by simp at h; omega
    have hra := (Low.ra hp2 low2 sem2).reads
    rw [hg5] at hra
    refine wp_idx Re.len (by omega) hp2 (Mp.le.refl _) hra ⟨0, 0, 0⟩ 3 (by omega) (by omega) (by omega) fun cs hcs => ?_
    have eg : x.r.reads.getD ((j : Int)).toNat ⟨0, 0, 0⟩ = x.r.reads[j] := by
      rw [List.getD_eq_getElem?_getD, Int.toNat_natCast, List.getElem?_eq_getElem hjl]; rfl
    rw [eg] at hcs
    cases hcs
    ((repeat apply Exists.intro); refine ⟨rfl, ?_⟩)
    refine wp_keep hp2 (by rfl) (by simp [Value.oneCell']) fun p3 w3 H3 hp3 hle3 f3 => ?_
    have hp4 := hp3.drew
    have l3 := hle2.trans hle3
    (refine wp_load (hp4.loadH (l3 _ _ f1) (by simp)) ?_; (repeat apply Exists.intro); refine ⟨rfl, ?_⟩)
    (refine wp_load (hp4.loadH (l3 _ _ f1) (by simp)) ?_; (repeat apply Exists.intro); refine ⟨rfl, ?_⟩)
    (refine wp_load (hp4.loadM low2.var (by simp [cells20])) ?_; (repeat apply Exists.intro); refine ⟨rfl, ?_⟩)
    (refine wp_load (hp4.loadH f3 (by simp)) ?_; (repeat apply Exists.intro); refine ⟨rfl, ?_⟩)
    refine wp_call (most_runs hp4 (st2.mono hle3) hb.n (asks111 (y := x.r.reads[j]) (st2.mono hle3) (l3 _ _ f1) f3 hm)) fun v5 w5 h5 => ?_
    obtain ⟨rfl, hp5⟩ := h5
    ((repeat apply Exists.intro); refine ⟨rfl, ?_⟩)
    have etake : x.r.reads.take (j + 1) = x.r.reads.take j ++ [x.r.reads[j]] := List.take_succ_eq_append_getElem hjl
    have ewrap : IntKind.i64.wrap ((j : Int) + 1) = ((j + 1 : Nat) : Int) := by rw [wrap_i64 (by omega) (by omega)]; rfl
    refine wp_bif (fun h6 => ?_) fun h6 => ?_
    · have hok : readOk x.r x.r.reads[j] = true := h6
      have hp6 := hp5.drew
      (refine wp_load (hp6.loadH (l3 _ _ f1) (by simp)) ?_; (repeat apply Exists.intro); refine ⟨rfl, ?_⟩)
      (refine wp_load (hp6.loadH (l3 _ _ f1) (by simp)) ?_; (repeat apply Exists.intro); refine ⟨rfl, ?_⟩)
      (refine wp_load (hp6.loadM low2.var (by simp [cells20])) ?_; (repeat apply Exists.intro); refine ⟨rfl, ?_⟩)
      (refine wp_load (hp6.loadH f3 (by simp)) ?_; (repeat apply Exists.intro); refine ⟨rfl, ?_⟩)
      refine wp_newH hp6 fun p7 w7 H7 hp7 hle7 f7 => ?_
      have hc8 := low2.n (i := 8) (by omega) Re.len (by decide) sem2.ready
      have hf8 := List.length_filter_le (readOk x.r) (x.r.reads.take j)
      rw [List.length_append] at hc8
      rw [List.length_take] at hf8
      refine wp_appendL 8 (by omega) hp7 low2 rfl (hp7.read1 f7 rfl) rfl (by simp [Value.oneCell']) (by omega) (by omega) fun s' M' o' w' hp' low' hn' ha' => ?_
      refine ⟨fun h hh => ?_, ?_⟩
      · simp only [List.mem_singleton] at hh
        subst hh
        exact hp'.loadH (hle7 _ _ (l3 _ _ f1)) (by simp)
      refine wp_storeL hp' low' (by simp [cells20]) (by simp [Value.oneCell']) fun w9 M9 hp9 low9 a9 => ?_
      obtain ⟨own9, hd9⟩ := own2.beside (ha'.trans a9) hd2
      refine ⟨⟨j + 1, t, cells, ot, H7, M9, _, by rw [ewrap], hjl, hp9, l3.trans hle7, ha2.trans ((ha'.trans a9).right ot), hg5, low9, ?_, own9, ?_, hd9⟩, ?_⟩
      · have sm := sem2.mono (hle3.trans hle7)
        refine ⟨sm.state, sm.log, sm.votes, sm.next, sm.mat, sm.acks, sm.reads, sm.save, sm.send, ?_⟩
        rw [etake, List.filter_append, ← List.append_assoc]
        refine sm.ready.append ?_
        simp only [List.filter_cons, hok, if_true, List.filter_nil]
        exact LL.one rfl
      · rw [etake, List.filter_append]
        simpa [hok] using hl2
      · show x.r.reads.length - (IntKind.i64.wrap ((j : Int) + 1)).toNat < x.r.reads.length - (j : Int).toNat
        rw [ewrap]; omega
    · have hok : readOk x.r x.r.reads[j] = false := h6
      (refine wp_load (hp5.loadH f3 (by simp)) ?_; (repeat apply Exists.intro); refine ⟨rfl, ?_⟩)
      refine wp_newH hp5 fun p7 w7 H7 hp7 hle7 f7 => ?_
      have ht := own2.1
      rw [LL.length Re.len hl2] at ht
      have hf8 := List.length_filter_le (fun y => !readOk x.r y) (x.r.reads.take j)
      rw [List.length_take] at hf8
      refine wp_append hp7 own2 rfl (m := 1) (hp7.read1 f7 rfl) rfl (by simp [Value.oneCell']) (by omega) (by omega) fun t' M' o' w' hp' own' hn' ha' => ?_
      have low' : Low M' s (cells20 x.r ss g2) g2 := low2.frame fun b hb => ha'.keep b (st2.ne b hb) fun h => hd2 b h hb
      refine ⟨⟨j + 1, t', _, o', H7, M', g2, by rw [ewrap], hjl, hp', l3.trans hle7, ha2.trans (ha'.left _), hg5, low', ?_, own', ?_, fun b hb hb2 => ?_⟩, ?_⟩
      · have sm := sem2.mono (hle3.trans hle7)
        refine ⟨sm.state, sm.log, sm.votes, sm.next, sm.mat, sm.acks, sm.reads, sm.save, sm.send, ?_⟩
        rw [etake, List.filter_append]
        simpa [hok] using sm.ready
      · rw [etake, List.filter_append]
        refine hl2.append ?_
        simp only [List.filter_cons, hok, Bool.not_false, if_true, List.filter_nil]
        exact LL.one rfl
      · rcases ha'.fresh b hb with e | e
        · exact hd2 b e hb2
        · exact st2.ne b hb2 e
      · show x.r.reads.length - (IntKind.i64.wrap ((j : Int) + 1)).toNat < x.r.reads.length - (j : Int).toNat
        rw [ewrap]; omega
  · have hje : j = x.r.reads.length := by simp at h; omega
    subst hje
    rw [List.take_length] at sem2 hl2
    (refine wp_load (hp2.loadH (hle2 _ _ f1) (by simp)) ?_; (repeat apply Exists.intro); refine ⟨rfl, ?_⟩)
    refine wp_storeL hp2 low2 (by simp [cells20]) (by simp [Value.oneCell']) fun w3 M3 hp3 low3 a3 => ?_
    obtain ⟨own3, hd3⟩ := own2.beside a3 hd2
    have low4 := low3.set (i := 5) (c := ⟨t, cells, ot⟩) (by omega) own3 hd3
    refine ⟨rfl, H2, M3, _, hp3, hle1.trans hle2, (ha2.trans (a3.right ot)).sub fun b hb => Gs.own_upd b hb, St.of (ss := ss) low4 rfl ?_⟩
    exact ⟨sem2.state, sem2.log, sem2.votes, sem2.next, sem2.mat, sem2.acks, hl2, sem2.save, sem2.send, sem2.ready⟩

theorem sends_runs {to : Int} (hp : Hp w0 w H M) (st : St H M s o x.r x.q) (hb : Bd k x) (hk : k ≤ 1000) (hm : (x.r.next.length : Int) = x.r.n) (h1 : 1 ≤ to) (h2 : to ≤ x.r.n) :
    Runs Try.prog 102 [.pointer (some ⟨s, 0, none⟩), .int .i64 to] w fun v w' => v = .tuple #[] ∧ Dd w0 H M s o (x.sends to) w' := by
  have st0 := st
  obtain ⟨ss, g, rfl, low, sem⟩ := st.ex
  have hn := hb.n
  have hi0 := hb.idx
  have hla := hb.last
  have hlog := hb.log
  have hsd := hb.send
  have hmem := nth_mem (l := x.r.next) (i := to - 1) (by omega) (by omega)
  obtain ⟨hx0, hx1⟩ := hb.next _ hmem
  apply r102
  (refine wp_load (hp.loadM low.var (by simp [cells20])) ?_; (repeat apply Exists.intro); refine ⟨rfl, ?_⟩)
  have e1 : IntKind.i64.wrap (to - 1) = to - 1 := wrap_i64 (by omega) (by omega)
  rw [e1]
  refine wp_idx Nu.len (by omega) hp (Mp.le.refl _) (Low.ra hp low sem).next 0 1 (by omega) (by omega) (by omega) fun cs hcs => ?_
  cases hcs
  ((repeat apply Exists.intro); refine ⟨rfl, ?_⟩)
  (refine wp_load (hp.loadM low.var (by simp [cells20])) ?_; (repeat apply Exists.intro); refine ⟨rfl, ?_⟩)
  change 0 ≤ nth x.r.next (to - 1) at hx0
  have en : x.r.next.getD (to - 1).toNat 0 = nth x.r.next (to - 1) := rfl
  rw [en]
  refine wp_bif (fun h => ?_) fun h => ?_
  · have hle : nth x.r.next (to - 1) ≤ x.r.snap.idx := by simpa using h
    have hpd := hp.drew
    (refine wp_load (hpd.loadM low.var (by simp [cells20])) ?_; (repeat apply Exists.intro); refine ⟨rfl, ?_⟩)
    (refine wp_load (hpd.loadM low.var (by simp [cells20])) ?_; (repeat apply Exists.intro); refine ⟨rfl, ?_⟩)
    refine wp_call (snap_runs (x := x.r.snap) hpd sem.state) fun v3 w3 h3 => ?_
    obtain ⟨a3, n3, c3, H3, rfl, hb3, hp3, hle3⟩ := h3
    ((repeat apply Exists.intro); refine ⟨rfl, ?_⟩)
    refine ⟨fun h hh => ?_, ?_⟩
    · simp only [List.mem_singleton] at hh
      subst hh
      exact hp3.loadM low.var (by simp [cells20])
    refine wp_newH hp3 fun p4 w4 H4 hp4 hle4 f4 => ?_
    refine wp_call (send_runs (l := [{ Msg.none with kind := 5, dest := to, snap := x.r.snap, round := x.r.round }]) hp4 (st0.mono (hle3.trans hle4)) (Sl.one f4 ⟨_, _, _, _, _, _, rfl, Sl.nil _ _, hb3.mono hle4⟩) (by simp; omega)) fun v5 w5 h5 => ?_
    obtain ⟨rfl, h5⟩ := h5
    ((repeat apply Exists.intro); refine ⟨rfl, ?_⟩)
    refine ⟨rfl, ?_⟩
    unfold Sp.sends
    rw [if_pos hle]
    exact Dd.of (hle3.trans hle4) h5
  · have hgt : ¬ nth x.r.next (to - 1) ≤ x.r.snap.idx := by simpa using h
    have e2 : IntKind.u64.wrap (nth x.r.next (to - 1) - 1) = nth x.r.next (to - 1) - 1 := wrap_u64 (by omega) (by omega)
    have hcur := low.n (i := 0) (by omega) En.len (by decide) sem.log
    unfold lastI at hla
    (refine wp_load (hp.loadM low.var (by simp [cells20])) ?_; (repeat apply Exists.intro); refine ⟨rfl, ?_⟩)
    rw [e2]
    refine wp_call (termAt_runs (i := nth x.r.next (to - 1) - 1) hp (Mp.le.refl _) ⟨_, _, _, _, _, _, _, rfl, Low.ra hp low sem⟩ hi0 (by unfold lastI; omega)) fun v3 w3 h3 => ?_
    obtain ⟨rfl, hp3⟩ := h3
    ((repeat apply Exists.intro); refine ⟨rfl, ?_⟩)
    have hp4 := hp3.drew
    (refine wp_load (hp4.loadM low.var (by simp [cells20])) ?_; (repeat apply Exists.intro); refine ⟨rfl, ?_⟩)
    (refine wp_load (hp4.loadM low.var (by simp [cells20])) ?_; (repeat apply Exists.intro); refine ⟨rfl, ?_⟩)
    have hp5 := hp4.drew
    (refine wp_load (hp5.loadM low.var (by simp [cells20])) ?_; (repeat apply Exists.intro); refine ⟨rfl, ?_⟩)
    have em : (if IntKind.u64.wrap ((g 0).sl.n : Int) < IntKind.u64.wrap (nth x.r.next (to - 1) - 1 - x.r.snap.idx) then IntKind.u64.wrap ((g 0).sl.n : Int) else IntKind.u64.wrap (nth x.r.next (to - 1) - 1 - x.r.snap.idx)) = min (nth x.r.next (to - 1) - 1 - x.r.snap.idx) x.r.log.length := by
      rw [wrap_u64 (x := ((g 0).sl.n : Int)) (by omega) (by omega), wrap_u64 (by omega) (by omega), hcur]
      split <;> omega
    rw [em]
    refine ⟨⟨by omega, by omega⟩, ?_⟩
    (refine wp_load (hp5.loadM low.var (by simp [cells20])) ?_; (repeat apply Exists.intro); refine ⟨rfl, ?_⟩)
    (refine wp_load (hp5.loadM low.var (by simp [cells20])) ?_; (repeat apply Exists.intro); refine ⟨rfl, ?_⟩)
    have hsl := (Low.ra hp5 low sem).log.drop En.len (k := (min (nth x.r.next (to - 1) - 1 - x.r.snap.idx) x.r.log.length).toNat)
    have hsl' : Sl (uni H M) (En H) _ _ _ _ := ⟨hsl.1, hsl.2.1, by
      obtain ⟨cells, hc1, hc2⟩ := (own_sl En.len (by omega) (low.own 0 (by omega)) (low.own 0 (by omega)).uni sem.log : Sl (uni H M) (En H) _ _ _ _).drop En.len (k := (min (nth x.r.next (to - 1) - 1 - x.r.snap.idx) x.r.log.length).toNat) |>.2.2
      exact ⟨cells, hc1, hc2⟩⟩
    refine wp_call (entries_runs hp5 (Mp.le.refl _) hsl' (by rw [List.length_drop]; omega)) fun v6 w6 h6 => ?_
    obtain ⟨t6, H6, M6, o6, cells6, rfl, hp6, hle6, ho6, hl6, ha6⟩ := h6
    ((repeat apply Exists.intro); refine ⟨rfl, ?_⟩)
    have hes : Sl (H6.froz M6 o6) (En (H6.froz M6 o6)) t6.a t6.n t6.c (x.r.log.drop (min (nth x.r.next (to - 1) - 1 - x.r.snap.idx) x.r.log.length).toNat) :=
      own_sl En.len (by omega) ho6 (ho6.froz fun _ h => h) (hl6.mono (En.mono (hp6.froz_le _)))
    have hp7 := hp6.give ha6
    have hle7 := hle6.trans (hp6.froz_le o6)
    refine ⟨fun h hh => ?_, ?_⟩
    · simp only [List.mem_cons, List.not_mem_nil, or_false] at hh
      rcases hh with rfl | rfl
      · exact hp7.loadM low.var (by simp [cells20])
      · exact hp7.loadM low.var (by simp [cells20])
    refine wp_newH hp7 fun p8 w8 H8 hp8 hle8 f8 => ?_
    refine wp_call (send_runs (l := [{ Msg.none with kind := 3, dest := to, index := nth x.r.next (to - 1) - 1, logTerm := (termAt x.r (nth x.r.next (to - 1) - 1)).1, entries := x.r.log.drop (min (nth x.r.next (to - 1) - 1 - x.r.snap.idx) x.r.log.length).toNat, commit := x.r.commit, round := x.r.round }])
      hp8 (st0.mono (hle7.trans hle8)) (Sl.one f8 ⟨_, _, _, _, _, _, rfl, hes.mono hle8 (En.mono hle8), Bs.nil _⟩) (by simp; omega)) fun v9 w9 h9 => ?_
    obtain ⟨rfl, h9⟩ := h9
    ((repeat apply Exists.intro); refine ⟨rfl, ?_⟩)
    refine ⟨rfl, ?_⟩
    unfold Sp.sends
    rw [if_neg hgt]
    exact Dd.of (hle7.trans hle8) h9

theorem calls_runs (hp : Hp w0 w H M) (st : St H M s o x.r x.q) (hb : Bd k x) (hk : k ≤ 900) (hl : Lr x.r) :
    Runs Try.prog 67 [.pointer (some ⟨s, 0, none⟩)] w fun v w' => v = .tuple #[] ∧ Dd w0 H M s o x.calls w' := by
  obtain ⟨ss, g, rfl, low, sem⟩ := st.ex
  have hr0 := hb.round0
  have hr1 := hb.round
  have hb1 := hb.roundSucc
  apply r67
  (refine wp_load (hp.loadM low.var (by simp [cells20])) ?_; (repeat apply Exists.intro); refine ⟨rfl, ?_⟩)
  refine wp_storeL hp low (by simp [cells20]) (by simp [Value.oneCell']) fun w1 M1 hp1 low1 a1 => ?_
  have st1 : St H M1 s (g.own s) (x.round (x.r.round + 1)).r (x.round (x.r.round + 1)).q := by
    refine St.of (ss := ss) low1 ?_ ⟨sem.state, sem.log, sem.votes, sem.next, sem.mat, sem.acks, sem.reads, sem.save, sem.send, sem.ready⟩
    rw [wrap_u64 (by omega) (by omega)]; rfl
  have hn : (x.round (x.r.round + 1)).r.n ≤ 7 := hb.n
  refine wp_call (others_runs hp1 st1 hn) fun v2 w2 h2 => ?_
  obtain ⟨a, n, c, H2, rfl, hp2, hle2, hl2⟩ := h2
  ((repeat apply Exists.intro); refine ⟨rfl, ?_⟩)
  have h7 := others_len hn
  have hln := hl2.1
  refine ⟨fun vs w' => ∃ j : Nat, vs = [.int .i64 j] ∧ j ≤ (others x.r).length ∧ Dd w0 H2 M1 s (g.own s) (((others x.r).take j).foldl Sp.sends (x.round (x.r.round + 1))) w',
    fun vs _ => match vs with | [.int _ q] => 9 - q.toNat | _ => 0, ⟨0, rfl, Nat.zero_le _, H2, M1, _, hp2, Mp.le.refl _, Adv.refl _ _, st1.mono hle2⟩, ?_⟩
  rintro vs w3 ⟨j, rfl, hj, H3, M3, o3, hp3, hle3, ha3, st3⟩
  obtain ⟨er, hb3⟩ := sends_fold ((others x.r).take j) _ _ hb1
  have hll : ((others x.r).take j).length ≤ 7 := by rw [List.length_take]; exact Nat.le_trans (Nat.min_le_right _ _) h7
  change (others x.r).length ≤ 7 at h7
  change n = (others x.r).length at hln
  ((repeat apply Exists.intro); refine ⟨rfl, ?_⟩)
  refine wp_bif (fun h => ?_) fun h => ?_
  · have hjl : j < (others x.r).length := by simp at h; omega
    refine wp_idx It.len (by omega) hp3 (Mp.le.refl _) ((hl2.mono hle3 fun _ _ h => h).mono hp3.le_uni fun _ _ h => h) 0 1 (by omega) (by show (j : Int) < ((others x.r).length : Int); omega) (by omega) fun cs hcs => ?_
    have eg : (others x.r).getD ((j : Int)).toNat 0 = (others x.r)[j] := by
      rw [List.getD_eq_getElem?_getD, Int.toNat_natCast, List.getElem?_eq_getElem hjl]; rfl
    rw [show others (x.round (x.r.round + 1)).r = others x.r from rfl, eg] at hcs
    cases hcs
    ((repeat apply Exists.intro); refine ⟨rfl, ?_⟩)
    obtain ⟨m1, m2, _⟩ := others_mem (List.getElem_mem hjl)
    refine wp_call (sends_runs hp3 st3 hb3 (by omega) (by rw [er]; exact hl.next) m1 (by rw [er]; exact m2)) fun v4 w4 h4 => ?_
    obtain ⟨rfl, h4⟩ := h4
    ((repeat apply Exists.intro); refine ⟨rfl, ?_⟩)
    have ewrap : IntKind.i64.wrap ((j : Int) + 1) = ((j + 1 : Nat) : Int) := by rw [wrap_i64 (by omega) (by omega)]; rfl
    refine ⟨⟨j + 1, by rw [ewrap], hjl, ?_⟩, ?_⟩
    · rw [List.take_succ_eq_append_getElem hjl, List.foldl_append]
      exact Dd.more hle3 ha3 h4
    · show 9 - (IntKind.i64.wrap ((j : Int) + 1)).toNat < 9 - (j : Int).toNat
      rw [ewrap]; omega
  · have hje : j = (others x.r).length := by simp at h; omega
    subst hje
    rw [List.take_length] at er hb3 st3
    rw [List.take_length] at hll
    refine wp_call (answers_runs hp3 st3 hb3 (by omega) (by rw [er]; exact hl.acks)) fun v4 w4 h4 => ?_
    obtain ⟨rfl, h4⟩ := h4
    ((repeat apply Exists.intro); refine ⟨rfl, ?_⟩)
    exact ⟨rfl, Dd.more (hle2.trans hle3) (a1.trans ha3) h4⟩
end
end Go.Proofs.Ytnbfffmdplcajaa
