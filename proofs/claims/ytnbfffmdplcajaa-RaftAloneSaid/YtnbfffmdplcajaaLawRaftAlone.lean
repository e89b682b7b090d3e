/- The walk of RaftAlone: it returns true. -/
import Derived.Test.YtnbfffmdplcajaaLawKit
import Derived.Test.YtnbfffmdplcajaaTreeW5
namespace Go.Proofs.Ytnbfffmdplcajaa
open Go.Vc Go.Vc.Rf

/-- One node alone that leads, with all committed. -/
structure Alone (r : Raft) (j : Nat) (c : Int) : Prop where
  id : r.id = 1
  n : r.n = 1
  role : r.role = 2
  term : r.term = 1
  idx : r.snap.idx = 0
  len : r.log.length = j + 1
  commit : r.commit = j + 1
  next : r.next.length = 1
  nextB : ∀ x ∈ r.next, 0 ≤ x ∧ x ≤ 1000
  mat : r.mat = [0]
  acks : r.acks = [0]
  votes : r.votes.length ≤ 10
  reads : r.reads = []
  r0 : 0 ≤ r.round
  r1 : r.round ≤ c
  last : ∃ e, r.log[j]? = some e ∧ e.term = 1

theorem Alone.fit {r : Raft} {j : Nat} {c : Int} (h : Alone r j c) (hj : j ≤ 20) (hc : c ≤ 1000000) : Fit r := by
  obtain ⟨h1, h2, h3, h4, h5, h6, h7, h8, h9, h10, h11, h12, h13, h14, h15, _⟩ := h
  refine ⟨⟨by show 0 ≤ r.snap.idx; omega, by show lastI r ≤ _; unfold lastI; omega, by show 0 ≤ r.term; omega, by show r.term ≤ _; omega, h14, by show r.round ≤ _; omega, ?_, ?_, by show r.log.length ≤ _; omega, by show r.reads.length ≤ _; rw [h13]; simp, by show r.n ≤ 7; omega, by simp [Rf.start, Out.none], by simp [Rf.start, Out.none], by simp [Rf.start, Out.none]⟩, by omega, by omega, by omega, by rw [h10]; simp, by rw [h11]; simp, by rw [h13]; simp⟩
  · intro x hx
    have hx : x ∈ r.mat := hx
    rw [h10] at hx; simp at hx; omega
  · intro x hx
    obtain ⟨a, b⟩ := h9 x hx
    omega

theorem Alone.may {r : Raft} {j : Nat} {c : Int} (h : Alone r j c) : mayR r = true := by
  simp [mayR, h.id, h.n, h.role, h.next, h.mat, h.acks]

theorem others_one {r : Raft} (h1 : r.id = 1) (h2 : r.n = 1) : others r = [] := by
  unfold others
  rw [h1, h2]
  rfl

theorem most_one {r : Raft} {b : Bool} {f : Int → Bool} (h1 : r.id = 1) (h2 : r.n = 1) : most r b f = b := by
  unfold most
  rw [others_one h1 h2, h2]
  cases b <;> simp

theorem calls_one {x : Sp} (h1 : x.r.id = 1) (h2 : x.r.n = 1) : x.calls = (x.round (x.r.round + 1)).answers := by
  unfold Sp.calls
  rw [others_one h1 h2]
  rfl

theorem alone_propose {r : Raft} {j : Nat} {d : List UInt8} {c : Int} (h : Alone r j c) :
    ∃ R Q, propose r d = (⟨R, Q⟩, true) ∧ Alone R (j + 1) (c + 1) ∧ (∃ x, Q.save = [recE ⟨x, d⟩]) ∧ Q.send = [] := by
  obtain ⟨h1, h2, h3, h4, h5, h6, h7, h8, h9, h10, h11, h12, h13, h14, h15, h16⟩ := id h
  have hm := h.may
  have e0 : propose r d = (((Rf.start r).put d).counts.calls, true) := by unfold propose; rw [if_pos ⟨h3, hm⟩]
  rw [e0]
  have ep : ((Rf.start r).put d).r.log.length = j + 2 := by simp [Sp.put, Sp.save, Sp.log, Rf.start, h6]
  have ec : countsFrom ((Rf.start r).put d).r (j + 2) = j + 2 := by
    show countsFrom _ (j + 1 + 1) = _
    unfold countsFrom
    have e1 : ((Rf.start r).put d).r.snap.idx = 0 := h5
    have e2 : ((Rf.start r).put d).r.commit = j + 1 := h7
    have e3 : (((Rf.start r).put d).r.log.getD (j + 1) Ent.none).term = ((Rf.start r).put d).r.term := by
      show ((r.log ++ [(⟨r.term, d⟩ : Ent)]).getD (j + 1) Ent.none).term = r.term
      rw [List.getD_eq_getElem?_getD, List.getElem?_append_right (by omega), h6]
      simp
    have e4 : countsAt ((Rf.start r).put d).r (((Rf.start r).put d).r.snap.idx + ((j + 1 + 1 : Nat) : Int)) = true := most_one h1 h2
    rw [if_neg (by rw [e1, e2]; omega), if_pos (by rw [e3, e4]; simp), e1]
    omega
  have ecs : ((Rf.start r).put d).counts = ((Rf.start r).put d).commit (j + 2) := by
    unfold Sp.counts
    rw [ep, ec]
  rw [calls_one (x := ((Rf.start r).put d).counts) h1 h2, ecs]
  refine ⟨_, _, rfl, ⟨h1, h2, h3, h4, h5, ?_, by show (j : Int) + 2 = ((j + 1 : Nat) : Int) + 1; omega, h8, h9, h10, h11, h12, ?_, ?_, ?_, ?_⟩, ⟨r.term, rfl⟩, rfl⟩
  · exact ep
  · show List.filter _ r.reads = []
    rw [h13]; rfl
  · show 0 ≤ r.round + 1
    omega
  · show r.round + 1 ≤ c + 1
    omega
  · refine ⟨⟨r.term, d⟩, ?_, h4⟩
    show (r.log ++ [(⟨r.term, d⟩ : Ent)])[j + 1]? = _
    rw [List.getElem?_append_right (by omega), h6]
    simp

theorem alone_ask {r : Raft} {j : Nat} {id : Int} {c : Int} (h : Alone r j c) :
    ∃ R Q, Rf.ask r id = (⟨R, Q⟩, true) ∧ Alone R j (c + 1) ∧ (∃ x, Q.ready = [⟨id, r.commit, x⟩]) := by
  obtain ⟨h1, h2, h3, h4, h5, h6, h7, h8, h9, h10, h11, h12, h13, h14, h15, e, h16, h17⟩ := (fun x => x : Alone r j c → Alone r j c) h
  have hm := h.may
  have ht : termAt r r.commit = (1, true) := by
    rw [termAt_mid (by omega) (by unfold lastI; omega), h7, h5]
    have : (((j : Int) + 1 - 0 - 1)).toNat = j := by omega
    rw [this, List.getD_eq_getElem?_getD, h16]
    show (e.term, true) = _
    rw [h17]
  have e0 : Rf.ask r id = ((Rf.start { r with reads := r.reads ++ [⟨id, r.commit, r.round + 1⟩] }).calls, true) := by
    unfold Rf.ask; rw [if_pos ⟨h3, hm, by rw [ht], by rw [ht, h4]⟩]
  rw [e0, calls_one (x := Rf.start { r with reads := r.reads ++ [⟨id, r.commit, r.round + 1⟩] }) h1 h2, h13]
  have ok : readOk { r with reads := [] ++ [⟨id, r.commit, r.round + 1⟩], round := r.round + 1 } ⟨id, r.commit, r.round + 1⟩ = true := by
    unfold readOk
    rw [most_one (by exact h1) (by exact h2)]
    simp
  refine ⟨_, _, rfl, ⟨h1, h2, h3, h4, h5, h6, h7, h8, h9, h10, h11, h12, ?_, by show 0 ≤ r.round + 1; omega, by show r.round + 1 ≤ c + 1; omega, e, h16, h17⟩, r.round + 1, ?_⟩
  · show List.filter (fun x => !readOk { r with reads := [] ++ [⟨id, r.commit, r.round + 1⟩], round := r.round + 1 } x) [⟨id, r.commit, r.round + 1⟩] = []
    rw [List.filter_cons, ok]; rfl
  · show [] ++ List.filter (readOk { r with reads := [] ++ [⟨id, r.commit, r.round + 1⟩], round := r.round + 1 }) [⟨id, r.commit, r.round + 1⟩] = _
    rw [List.filter_cons, ok]; rfl

theorem alone_start : ∃ R Q, timeout (newR 1 1 k0) = ⟨R, Q⟩ ∧ Alone R 0 1000 := by
  refine ⟨(timeout (newR 1 1 k0)).r, _, rfl, by decide, by decide, by decide, by decide, by decide, by decide, by decide, by decide, ?_, by decide, by decide, by decide, ?_, by decide, by decide, ⟨1, []⟩, ?_, rfl⟩
  · intro x hx
    have : (timeout (newR 1 1 k0)).r.next = [1] := by decide
    rw [this] at hx; simp at hx; omega
  · have : (timeout (newR 1 1 k0)).r.reads.length = 0 := by decide
    exact List.eq_nil_of_length_eq_zero this
  · rfl

section
variable {w0 w : World} {H M U : Mp}

set_option maxHeartbeats 4000000 in
theorem raftAlone_runs {la : Option Addr} {ln lc : Nat} {l : List (List UInt8)} {id : Int} (hp : Hp w0 w H M) (hl : Sl H (By H) la ln lc l) (_ : 0 ≤ id) (_ : id ≤ 18446744073709551615) :
    Runs Try.prog 5 [.slice la ln lc, .int .u64 id] w fun v w' => v = .bool true ∧ Hp w0 w' H M := by
  have hln := hl.1
  apply r5
  refine wp_call (begun_runs hp) fun v2 w2 h2 => ?_
  obtain ⟨rfl, hp2⟩ := h2
  ((repeat apply Exists.intro); refine ⟨rfl, ?_⟩)
  refine wp_bif (fun h => by simp at h) fun _ => ?_
  refine wp_bif (fun _ => ⟨rfl, hp2⟩) fun h => ?_
  have hl10 : l.length ≤ 10 := by
    have : ¬ (ln : Int) > 10 := of_decide_eq_false h
    omega
  refine wp_call (new_runs hp2 kp0 (by decide)) fun v3 w3 h3 => ?_
  obtain ⟨cs3, H3, rfl, hr3, hp3, hle3⟩ := h3
  have hr3' := hr3
  obtain ⟨x1, x2, x3, x4, x5, x6, x7, rfl, hx⟩ := hr3
  ((repeat apply Exists.intro); refine ⟨rfl, ?_⟩)
  refine wp_call ((timeout_runs hp3 hr3' (fit0 1 (by decide))).mono fun v w' h => top_give h) fun v4 w4 h4 => ?_
  obtain ⟨cs4, cq4, H4, rfl, hr4, hq4, hp4, hle4⟩ := h4
  obtain ⟨R0, Q0, e0, al0⟩ := alone_start
  rw [e0] at hr4 hq4
  change Ra H4 cs4 R0 at hr4
  have hr4' := hr4
  obtain ⟨y1, y2, y3, y4, y5, y6, y7, rfl, hy⟩ := hr4
  obtain ⟨z1, z2, z3, rfl, hz1, hz2, hz3⟩ := hq4
  ((repeat apply Exists.intro); refine ⟨rfl, ?_⟩)
  refine wp_new hp4 fun p42 w5 hp5 hM5 _ => wp_new hp5 fun p43 w6 hp6 hM6 _ => ?_
  have hne : p42 ≠ p43 := fun e => by subst e; simp at hM6
  have hM6' : M p43 = none := by rwa [Mp.put_other (Ne.symm hne)] at hM6
  refine wp_store hp6 ((Mp.put_other hne).trans (Mp.put_same _ _ _)) (by simp) (by simp [Value.oneCell']) fun w7 hp7 => ?_
  refine wp_store hp7 ((Mp.put_other (Ne.symm hne)).trans (Mp.put_same _ _ _)) (by simp) (by simp [Value.oneCell']) fun w8 hp8 => ?_
  rw [splice_all (by simp)] at hp8
  have hle := hle3.trans hle4
  refine ⟨fun vs w' => ∃ (j : Nat) (H' M' : Mp) (R : Raft) (cs : List Value), vs = [.int .i64 j] ∧ j ≤ l.length ∧ Hp w0 w' H' M' ∧ H.le H' ∧ M' p42 = some cs ∧ Ra H' cs R ∧ Alone R j (1000 + 2 * j) ∧ ∀ b, M b ≠ none → M' b = M b,
    fun vs _ => match vs with | [.int _ q] => l.length - q.toNat | _ => 0, ⟨0, H4, _, R0, _, rfl, Nat.zero_le _, hp8, hle, (Mp.put_other hne).trans (Mp.put_same _ _ _), hr4', by simpa using al0, fun b hb => ?_⟩, ?_⟩
  · have k1 : b ≠ p42 := fun e => hb (by rw [e]; exact hM5)
    have k2 : b ≠ p43 := fun e => hb (by rw [e]; exact hM6')
    rw [Mp.put_other k2, Mp.put_other k1, Mp.put_other k2, Mp.put_other k1]
  clear hp5 hp6 hp7 hp8 hr4' hy hz1 hz2 hz3 hM6
  rintro vs w9 ⟨j, H9, M9, R, cs9, rfl, hj, hp9, hle9, m9, hr9, al, hk9⟩
  have hf := al.fit (by omega) (by omega)
  have hr9' := hr9
  obtain ⟨x1, x2, x3, x4, x5, x6, x7, rfl, hx⟩ := hr9
  ((repeat apply Exists.intro); refine ⟨rfl, ?_⟩)
  refine wp_bif (fun h => ?_) fun h => ?_
  · have hjl : j < l.length := by simp at h; omega
    obtain ⟨R1, Q1, e1, al1, ⟨xt, hsv⟩, hsd⟩ := alone_propose (d := l.getD (j : Int).toNat []) al
    have hl9 : Sl H9 (By H9) la ln lc l := hl.mono hle9 (By.mono hle9)
    refine ⟨fun vs w' => ∃ (p q : Nat) (H' : Mp) (cs cq : List Value), vs = [.pointer (some ⟨p, 0, none⟩), .pointer (some ⟨q, 0, none⟩), .bool true] ∧ Hp w0 w' H' M9 ∧ H9.le H' ∧ H' p = some cs ∧ H' q = some cq ∧ Ra H' cs R1 ∧ Ou H' cq Q1, ?_, ?_⟩
    · have hpd := hp9.drew
      (refine wp_load (hpd.loadM m9 (by simp [cells17])) ?_; (repeat apply Exists.intro); refine ⟨rfl, ?_⟩)
      refine wp_idx By.len (by omega) hpd hpd.le_uni hl9 [] 1 (by omega) (by omega) (by omega) fun cs hcs => ?_
      obtain ⟨da, dn, dc, rfl, hd⟩ := hcs
      ((repeat apply Exists.intro); refine ⟨rfl, ?_⟩)
      have prop : ∀ {w' : World} {M' : Mp}, Hp w0 w' H9 M' → Runs Try.prog 33 [.agg (cells17 R x1 x2 x3 x4 x5 x6 x7).toArray, .slice da dn dc] w' fun v w'' =>
          ∃ (cs cq : List Value) (H' : Mp), v = .tuple #[.agg cs.toArray, .agg cq.toArray, .bool true] ∧ Ra H' cs R1 ∧ Ou H' cq Q1 ∧ Hp w0 w'' H' M' ∧ H9.le H' := fun hp' => by
        have := propose_runs hp' hr9' hf hd
        rw [e1] at this
        exact this.mono fun v w' h => top3_give h
      refine ⟨?_, ?_, ?_⟩
      · refine wp_call (prop hpd) fun v10 w10 h10 => ?_
        obtain ⟨cs10, cq10, H10, rfl, hr10, hq10, hp10, hle10⟩ := h10
        have hr10' := hr10
        have hq10' := hq10
        obtain ⟨y1, y2, y3, y4, y5, y6, y7, rfl, hy⟩ := hr10
        obtain ⟨z1, z2, z3, rfl, _⟩ := hq10
        ((repeat apply Exists.intro); refine ⟨rfl, ?_⟩)
        refine ⟨?_, ?_⟩
        · refine wp_keep2 hp10 (by rfl) (by rfl) (by simp [Value.oneCell']) (by simp [Value.oneCell']) fun p q w11 H11 hp11 hle11 f1 f2 => ?_
          exact ⟨p, q, H11, _, _, rfl, hp11, hle10.trans hle11, f1, f2, hr10'.mono hle11, hq10'.mono hle11⟩
        · refine wp_new hp10 fun q w11 hp11 hq0 _ => wp_new hp11 fun p w12 hp12 hp0 _ => ?_
          have hpq : p ≠ q := fun e => by subst e; simp at hp0
          have hp0' : M9 p = none := by rwa [Mp.put_other hpq] at hp0
          refine wp_store hp12 (Mp.put_same _ _ _) (by simp) (by simp [Value.oneCell']) fun w13 hp13 => ?_
          refine wp_store hp13 ((Mp.put_other (Ne.symm hpq)).trans ((Mp.put_other (Ne.symm hpq)).trans (Mp.put_same _ _ _))) (by simp) (by simp [Value.oneCell']) fun w14 hp14 => ?_
          rw [splice_all (by simp), splice_all (by simp)] at hp14
          obtain ⟨H15, hp15, l15, f1, f2⟩ := hp14.fix2 (p := p) (q := q) ((Mp.put_other hpq).trans (Mp.put_same _ _ _)) (Mp.put_same _ _ _) hp0' hq0 fun b h1 h2 => by simp [Mp.put, h1, h2]
          exact ⟨p, q, H15, _, _, rfl, hp15, hle10.trans l15, f1, f2, hr10'.mono l15, hq10'.mono l15⟩
      · refine wp_new hpd fun p w10 hp10 hp0 _ => ?_
        refine ⟨?_, ?_⟩
        · refine wp_call (prop hp10) fun v10 w11 h10 => ?_
          obtain ⟨cs10, cq10, H10, rfl, hr10, hq10, hp11, hle10⟩ := h10
          have hr10' := hr10
          have hq10' := hq10
          obtain ⟨y1, y2, y3, y4, y5, y6, y7, rfl, hy⟩ := hr10
          obtain ⟨z1, z2, z3, rfl, _⟩ := hq10
          ((repeat apply Exists.intro); refine ⟨rfl, ?_⟩)
          refine wp_new hp11 fun q w12 hp12 hq0 _ => ?_
          have hpq : p ≠ q := fun e => by subst e; simp at hq0
          have hq0' : M9 q = none := by rwa [Mp.put_other (Ne.symm hpq)] at hq0
          refine wp_store hp12 ((Mp.put_other hpq).trans (Mp.put_same _ _ _)) (by simp) (by simp [Value.oneCell']) fun w13 hp13 => ?_
          refine wp_store hp13 ((Mp.put_other (Ne.symm hpq)).trans (Mp.put_same _ _ _)) (by simp) (by simp [Value.oneCell']) fun w14 hp14 => ?_
          rw [splice_all (by simp), splice_all (by simp)] at hp14
          obtain ⟨H15, hp15, l15, f1, f2⟩ := hp14.fix2 (p := p) (q := q) ((Mp.put_other hpq).trans (Mp.put_same _ _ _)) (Mp.put_same _ _ _) hp0 hq0' fun b h1 h2 => by simp [Mp.put, h1, h2]
          exact ⟨p, q, H15, _, _, rfl, hp15, hle10.trans l15, f1, f2, hr10'.mono l15, hq10'.mono l15⟩
        · refine wp_new hp10 fun q w11 hp11 hq0 _ => ?_
          have hpq : p ≠ q := fun e => by subst e; simp at hq0
          have hq0' : M9 q = none := by rwa [Mp.put_other (Ne.symm hpq)] at hq0
          refine wp_call (prop hp11) fun v10 w12 h10 => ?_
          obtain ⟨cs10, cq10, H10, rfl, hr10, hq10, hp12, hle10⟩ := h10
          have hr10' := hr10
          have hq10' := hq10
          obtain ⟨y1, y2, y3, y4, y5, y6, y7, rfl, hy⟩ := hr10
          obtain ⟨z1, z2, z3, rfl, _⟩ := hq10
          ((repeat apply Exists.intro); refine ⟨rfl, ?_⟩)
          refine wp_store hp12 ((Mp.put_other hpq).trans (Mp.put_same _ _ _)) (by simp) (by simp [Value.oneCell']) fun w13 hp13 => ?_
          refine wp_store hp13 ((Mp.put_other (Ne.symm hpq)).trans (Mp.put_same _ _ _)) (by simp) (by simp [Value.oneCell']) fun w14 hp14 => ?_
          rw [splice_all (by simp), splice_all (by simp)] at hp14
          obtain ⟨H15, hp15, l15, f1, f2⟩ := hp14.fix2 (p := p) (q := q) ((Mp.put_other hpq).trans (Mp.put_same _ _ _)) (Mp.put_same _ _ _) hp0 hq0' fun b h1 h2 => by simp [Mp.put, h1, h2]
          exact ⟨p, q, H15, _, _, rfl, hp15, hle10.trans l15, f1, f2, hr10'.mono l15, hq10'.mono l15⟩
      · refine wp_new hpd fun q w10 hp10 hq0 _ => ?_
        refine ⟨?_, ?_⟩
        · refine wp_call (prop hp10) fun v10 w11 h10 => ?_
          obtain ⟨cs10, cq10, H10, rfl, hr10, hq10, hp11, hle10⟩ := h10
          have hr10' := hr10
          have hq10' := hq10
          obtain ⟨y1, y2, y3, y4, y5, y6, y7, rfl, hy⟩ := hr10
          obtain ⟨z1, z2, z3, rfl, _⟩ := hq10
          ((repeat apply Exists.intro); refine ⟨rfl, ?_⟩)
          refine wp_new hp11 fun p w12 hp12 hp0 _ => ?_
          have hpq : p ≠ q := fun e => by subst e; simp at hp0
          have hp0' : M9 p = none := by rwa [Mp.put_other hpq] at hp0
          refine wp_store hp12 (Mp.put_same _ _ _) (by simp) (by simp [Value.oneCell']) fun w13 hp13 => ?_
          refine wp_store hp13 ((Mp.put_other (Ne.symm hpq)).trans ((Mp.put_other (Ne.symm hpq)).trans (Mp.put_same _ _ _))) (by simp) (by simp [Value.oneCell']) fun w14 hp14 => ?_
          rw [splice_all (by simp), splice_all (by simp)] at hp14
          obtain ⟨H15, hp15, l15, f1, f2⟩ := hp14.fix2 (p := p) (q := q) ((Mp.put_other hpq).trans (Mp.put_same _ _ _)) (Mp.put_same _ _ _) hp0' hq0 fun b h1 h2 => by simp [Mp.put, h1, h2]
          exact ⟨p, q, H15, _, _, rfl, hp15, hle10.trans l15, f1, f2, hr10'.mono l15, hq10'.mono l15⟩
        · refine wp_new hp10 fun p w11 hp11 hp0 _ => ?_
          have hpq : p ≠ q := fun e => by subst e; simp at hp0
          have hp0' : M9 p = none := by rwa [Mp.put_other hpq] at hp0
          refine wp_call (prop hp11) fun v10 w12 h10 => ?_
          obtain ⟨cs10, cq10, H10, rfl, hr10, hq10, hp12, hle10⟩ := h10
          have hr10' := hr10
          have hq10' := hq10
          obtain ⟨y1, y2, y3, y4, y5, y6, y7, rfl, hy⟩ := hr10
          obtain ⟨z1, z2, z3, rfl, _⟩ := hq10
          ((repeat apply Exists.intro); refine ⟨rfl, ?_⟩)
          refine wp_store hp12 (Mp.put_same _ _ _) (by simp) (by simp [Value.oneCell']) fun w13 hp13 => ?_
          refine wp_store hp13 ((Mp.put_other (Ne.symm hpq)).trans ((Mp.put_other (Ne.symm hpq)).trans (Mp.put_same _ _ _))) (by simp) (by simp [Value.oneCell']) fun w14 hp14 => ?_
          rw [splice_all (by simp), splice_all (by simp)] at hp14
          obtain ⟨H15, hp15, l15, f1, f2⟩ := hp14.fix2 (p := p) (q := q) ((Mp.put_other hpq).trans (Mp.put_same _ _ _)) (Mp.put_same _ _ _) hp0' hq0 fun b h1 h2 => by simp [Mp.put, h1, h2]
          exact ⟨p, q, H15, _, _, rfl, hp15, hle10.trans l15, f1, f2, hr10'.mono l15, hq10'.mono l15⟩
    rintro vs w10 ⟨p188, p189, H10, cs10, cq10, rfl, hp10, hle10, f188, f189, hr10, hq10⟩
    have hr10' := hr10
    have hq10' := hq10
    obtain ⟨y1, y2, y3, y4, y5, y6, y7, rfl, hy⟩ := hr10
    obtain ⟨z1, z2, z3, rfl, hz1, hz2, hz3⟩ := hq10
    have n1 := hz1.1
    have n2 := hz2.1
    rw [hsv] at n1
    rw [hsd] at n2
    simp only [List.length_cons, List.length_nil] at n1 n2
    have hl10 : Sl H10 (By H10) la ln lc l := hl9.mono hle10 (By.mono hle10)
    have hcom := al1.commit
    ((repeat apply Exists.intro); refine ⟨rfl, ?_⟩)
    have hp11 := hp10.drew
    refine wp_draw ?_
    refine wp_bif (fun h => by simp at h) fun _ => ?_
    (refine wp_load (hp11.loadH f188 (by simp [cells17])) ?_; (repeat apply Exists.intro); refine ⟨rfl, ?_⟩)
    have ew : IntKind.u64.wrap (IntKind.u64.wrap (j : Int) + 2) = j + 2 := by
      rw [wrap_u64 (x := (j : Int)) (by omega) (by omega), wrap_u64 (by omega) (by omega)]
    rw [ew, hcom]
    refine wp_bif (fun h => ?_) fun _ => ?_
    · exfalso
      have : ¬ ((j + 1 : Nat) : Int) + 1 = j + 2 := by simpa using h
      omega
    (refine wp_load (hp11.loadH f189 (by simp)) ?_; (repeat apply Exists.intro); refine ⟨rfl, ?_⟩)
    refine wp_bif (fun h => by rw [n1] at h; simp at h) fun _ => ?_
    (refine wp_load (hp11.loadH f189 (by simp)) ?_; (repeat apply Exists.intro); refine ⟨rfl, ?_⟩)
    obtain ⟨b, q, cs, ha, hcs, hat⟩ := Sl.elem (i := 0) Rc.len hz1 hp11 (show Q1.save[0]? = some _ by rw [hsv]; rfl) (by omega)
    obtain ⟨ra, rn, rc, ra2, rn2, rc2, rfl, hrb, _⟩ := hcs
    have hat1 := hat _ _ hp11 4 1 (by omega)
    refine ⟨_, ha, ⟨by omega, by omega⟩, ?_⟩
    simp only [add_mk]
    simp only [Nat.zero_mul, Nat.add_zero] at hat1
    (refine wp_load (hat1) ?_; (repeat apply Exists.intro); refine ⟨rfl, ?_⟩)
    refine ⟨_, Bs.read hrb hp11, ?_⟩
    refine wp_idx By.len (by omega) hp11 hp11.le_uni hl10 [] 1 (by omega) (by omega) (by omega) fun cs hcs => ?_
    obtain ⟨da, dn, dc, rfl, hd⟩ := hcs
    ((repeat apply Exists.intro); refine ⟨rfl, ?_⟩)
    refine ⟨_, Bs.read hd hp11, ?_⟩
    refine wp_bif (fun h => ?_) fun _ => ?_
    · exfalso
      simp [recE] at h
    (refine wp_load (hp11.loadH f189 (by simp)) ?_; (repeat apply Exists.intro); refine ⟨rfl, ?_⟩)
    refine wp_bif (fun h => by rw [n2] at h; simp at h) fun _ => ?_
    (refine wp_load (hp11.loadH f188 (by simp [cells17])) ?_; (repeat apply Exists.intro); refine ⟨rfl, ?_⟩)
    obtain ⟨R2, Q2, e2, al2, ⟨xr, hrd⟩⟩ := alone_ask (id := id) al1
    have hf1 := al1.fit (by omega) (by omega)
    have hak := ask_runs (id := id) hp11 hr10' hf1
    rw [e2] at hak
    refine wp_call (hak.mono fun v w' h => top3_give h) fun v12 w12 h12 => ?_
    obtain ⟨cs12, cq12, H12, rfl, hr12, hq12, hp12, hle12⟩ := h12
    have hr12' := hr12
    obtain ⟨t1, t2, t3, t4, t5, t6, t7, rfl, ht⟩ := hr12
    obtain ⟨q1, q2, q3, rfl, hq1, hq2, hq3⟩ := hq12
    have nq3 := hq3.1
    change q3.n = Q2.ready.length at nq3
    rw [hrd] at nq3
    simp only [List.length_cons, List.length_nil] at nq3
    have nt := ht.reads.1
    change t7.n = R2.reads.length at nt
    rw [al2.reads] at nt
    ((repeat apply Exists.intro); refine ⟨rfl, ?_⟩)
    refine wp_keep2 hp12 (by rfl) (by rfl) (by simp [Value.oneCell']) (by simp [Value.oneCell']) fun p247 p248 w13 H13 hp13 hle13 f247 f248 => ?_
    have hp14 := hp13.drew
    refine wp_draw ?_
    refine wp_bif (fun h => by simp at h) fun _ => ?_
    (refine wp_load (hp14.loadH f248 (by simp)) ?_; (repeat apply Exists.intro); refine ⟨rfl, ?_⟩)
    refine wp_bif (fun h => by rw [nq3] at h; simp at h) fun _ => ?_
    (refine wp_load (hp14.loadH f248 (by simp)) ?_; (repeat apply Exists.intro); refine ⟨rfl, ?_⟩)
    obtain ⟨b3, o3, c3, ha3, hc3, hat3⟩ := Sl.elem (i := 0) Re.len (hq3.mono hle13 fun _ _ h => h) hp14 (show Q2.ready[0]? = some _ by rw [hrd]; rfl) (by omega)
    cases hc3
    have r1 := hat3 _ _ hp14 0 1 (by omega)
    have r2 := hat3 _ _ hp14 1 1 (by omega)
    simp only [Nat.zero_mul, Nat.add_zero] at r1 r2
    refine ⟨_, ha3, ⟨by omega, by omega⟩, ?_⟩
    (refine wp_load (r1) ?_; (repeat apply Exists.intro); refine ⟨rfl, ?_⟩)
    refine wp_bif (fun h => by simp at h) fun _ => ?_
    (refine wp_load (hp14.loadH f248 (by simp)) ?_; (repeat apply Exists.intro); refine ⟨rfl, ?_⟩)
    refine ⟨_, ha3, ⟨by omega, by omega⟩, ?_⟩
    simp only [add_mk]
    (refine wp_load (r2) ?_; (repeat apply Exists.intro); refine ⟨rfl, ?_⟩)
    (refine wp_load (hp14.loadH ((hle12.trans hle13) _ _ f188) (by simp [cells17])) ?_; (repeat apply Exists.intro); refine ⟨rfl, ?_⟩)
    refine wp_bif (fun h => by simp at h) fun _ => ?_
    (refine wp_load (hp14.loadH f247 (by simp)) ?_; (repeat apply Exists.intro); refine ⟨rfl, ?_⟩)
    refine wp_bif (fun h => by rw [nt] at h; simp at h) fun _ => ?_
    (refine wp_load (hp14.loadH f247 (by simp)) ?_; (repeat apply Exists.intro); refine ⟨rfl, ?_⟩)
    refine wp_store hp14 m9 (by simp [cells17]) (by simp [Value.oneCell']) fun w15 hp15 => ?_
    rw [splice_all (by simp [cells17])] at hp15
    have ewrap : IntKind.i64.wrap ((j : Int) + 1) = ((j + 1 : Nat) : Int) := by rw [wrap_i64 (by omega) (by omega)]; rfl
    refine ⟨⟨j + 1, H13, _, R2, _, by rw [ewrap], hjl, hp15, ((hle9.trans hle10).trans hle12).trans hle13, Mp.put_same _ _ _, hr12'.mono hle13, ?_, fun b hb => ?_⟩, ?_⟩
    · have : (1000 + 2 * ((j + 1 : Nat) : Int)) = 1000 + 2 * j + 1 + 1 := by omega
      rw [this]; exact al2
    · have k1 : b ≠ p42 := fun e => hb (by rw [e]; exact hM5)
      rw [Mp.put_other k1]; exact hk9 b hb
    · show l.length - (IntKind.i64.wrap ((j : Int) + 1)).toNat < l.length - (j : Int).toNat
      rw [ewrap]; omega
  · (refine wp_load (hp9.loadM m9 (by simp [cells17])) ?_; (repeat apply Exists.intro); refine ⟨rfl, ?_⟩)
    refine wp_newMark hp9 fun p8 w8 H8 hp8 hle8 f8 => ?_
    have hbs : Bs H8 (some ⟨p8, 0, none⟩) 1 1 [115] := ⟨rfl, by simp, by simp, .inr ⟨p8, 0, _, rfl, f8, rfl⟩⟩
    have hcom := al.commit
    have hidx := al.idx
    have hlen := al.len
    have ec : compact R [115] = ⟨compacted R [115], _⟩ := compact_eq (by omega) (by unfold lastI; omega)
    have hco := compact_runs hp8 (hr9'.mono hle8) hf hbs
    rw [ec] at hco
    refine wp_call (hco.mono fun v w' h => top_give h) fun v10 w10 h10 => ?_
    obtain ⟨cs10, cq10, H10, rfl, hr10, hq10, hp10, hle10⟩ := h10
    obtain ⟨y1, y2, y3, y4, y5, y6, y7, rfl, hy⟩ := hr10
    obtain ⟨z1, z2, z3, rfl, hz1, hz2, hz3⟩ := hq10
    have n1 := hz1.1
    have n2 := hy.log.1
    change z1.n = 1 at n1
    change y2.n = (R.log.drop _).length at n2
    rw [List.length_drop] at n2
    ((repeat apply Exists.intro); refine ⟨rfl, ?_⟩)
    refine wp_keep2 hp10 (by rfl) (by rfl) (by simp [Value.oneCell']) (by simp [Value.oneCell']) fun p323 p324 w11 H11 hp11 hle11 f323 f324 => ?_
    (refine wp_load (hp11.loadH f323 (by simp)) ?_; (repeat apply Exists.intro); refine ⟨rfl, ?_⟩)
    (refine wp_load (hp11.loadM m9 (by simp [cells17])) ?_; (repeat apply Exists.intro); refine ⟨rfl, ?_⟩)
    refine wp_bif (fun _ => ?_) fun h => by simp [compacted] at h
    (refine wp_load (hp11.loadH f323 (by simp)) ?_; (repeat apply Exists.intro); refine ⟨rfl, ?_⟩)
    refine wp_bif (fun _ => ?_) fun h => ?_
    rotate_left
    · exfalso
      have : ¬ (y2.n : Int) = 0 := by simpa using h
      omega
    (refine wp_load (hp11.loadH f324 (by simp)) ?_; (repeat apply Exists.intro); refine ⟨rfl, ?_⟩)
    refine wp_bif (fun _ => ?_) fun h => by rw [n1] at h; simp at h
    (refine wp_load (hp11.loadH f323 (by simp)) ?_; (repeat apply Exists.intro); refine ⟨rfl, ?_⟩)
    refine wp_bif (fun _ => ?_) fun h => ?_
    rotate_left
    · exfalso
      have : ¬ (compacted R [115]).term = 1 := by simpa using h
      exact this al.term
    (refine wp_load (hp11.loadH f323 (by simp)) ?_; (repeat apply Exists.intro); refine ⟨rfl, ?_⟩)
    have hro : (compacted R [115]).role = 2 := al.role
    rw [hro]
    refine ⟨rfl, (hp11.lessH (((hle9.trans hle8).trans hle10).trans hle11)).less fun b cs hb => ?_⟩
    rw [hk9 b (Mp.ne_of hb)]; exact hb
end
end Go.Proofs.Ytnbfffmdplcajaa
