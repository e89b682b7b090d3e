/- How many of anything a step leaves: few. -/
import Derived.Test.YtnbfffmdplcajaaLawKit
namespace Go.Vc.Rf
open Go.Proofs.Ytnbfffmdplcajaa

/-- At most k of anything. -/
structure Sz (k : Nat) (x : Sp) : Prop where
  n : x.r.n ≤ 7
  log : x.r.log.length ≤ k
  votes : x.r.votes.length ≤ k
  next : x.r.next.length ≤ k
  mat : x.r.mat.length ≤ k
  acks : x.r.acks.length ≤ k
  reads : x.r.reads.length ≤ k
  save : x.q.save.length ≤ k
  send : x.q.send.length ≤ k
  ready : x.q.ready.length ≤ k
  ents : ∀ m ∈ x.q.send, m.entries.length ≤ k

section
variable {k : Nat} {x : Sp}
theorem Sz.mono {k' : Nat} (h : Sz k x) (hk : k ≤ k') : Sz k' x :=
  ⟨h.n, Nat.le_trans h.log hk, Nat.le_trans h.votes hk, Nat.le_trans h.next hk, Nat.le_trans h.mat hk, Nat.le_trans h.acks hk, Nat.le_trans h.reads hk, Nat.le_trans h.save hk, Nat.le_trans h.send hk, Nat.le_trans h.ready hk, fun m hm => Nat.le_trans (h.ents m hm) hk⟩
theorem Sz.sent {m : Msg} (h : Sz k x) (hm : m.entries.length ≤ k) : Sz (k + 1) (x.send m) := by
  have h' := h.mono (Nat.le_succ k)
  refine ⟨h'.n, h'.log, h'.votes, h'.next, h'.mat, h'.acks, h'.reads, h'.save, ?_, h'.ready, fun y hy => ?_⟩
  · show (x.q.send ++ [_]).length ≤ k + 1
    have := h.send
    rw [List.length_append]; simp; omega
  · rcases List.mem_append.1 (show y ∈ x.q.send ++ [{ m with frm := x.r.id, term := x.r.term }] from hy) with hy | hy
    · exact h'.ents y hy
    · rw [List.mem_singleton] at hy
      subst hy
      exact Nat.le_trans hm (Nat.le_succ k)
theorem Sz.saved {e : Rec} (h : Sz k x) : Sz (k + 1) (x.save [e]) := by
  have h' := h.mono (Nat.le_succ k)
  exact ⟨h'.n, h'.log, h'.votes, h'.next, h'.mat, h'.acks, h'.reads, by have := h.save; simp [Sp.save]; omega, h'.send, h'.ready, h'.ents⟩
theorem Sz.hard (h : Sz k x) : Sz (k + 1) x.hard := h.saved
theorem Sz.put {d : List UInt8} (h : Sz k x) : Sz (k + 1) (x.put d) := by
  have h' := h.mono (Nat.le_succ k)
  exact ⟨h'.n, by have := h.log; simp [Sp.put, Sp.save, Sp.log]; omega, h'.votes, h'.next, h'.mat, h'.acks, h'.reads, by have := h.save; simp [Sp.put, Sp.save, Sp.log]; omega, h'.send, h'.ready, h'.ents⟩
theorem Sz.commit {c : Int} (h : Sz k x) : Sz k (x.commit c) := ⟨h.n, h.log, h.votes, h.next, h.mat, h.acks, h.reads, h.save, h.send, h.ready, h.ents⟩
theorem Sz.counts (h : Sz k x) : Sz k x.counts := h.commit
theorem Sz.round {c : Int} (h : Sz k x) : Sz k (x.round c) := ⟨h.n, h.log, h.votes, h.next, h.mat, h.acks, h.reads, h.save, h.send, h.ready, h.ents⟩
theorem Sz.bare (h : Sz k x) : Sz k x.bare := ⟨h.n, h.log, by simp [Sp.bare, Rf.bare], by simp [Sp.bare, Rf.bare], by simp [Sp.bare, Rf.bare], by simp [Sp.bare, Rf.bare], by simp [Sp.bare, Rf.bare], h.save, h.send, h.ready, h.ents⟩
theorem Sz.sends {to : Int} (h : Sz k x) : Sz (k + 1) (x.sends to) := by
  unfold Sp.sends
  split
  · exact h.sent (Nat.zero_le _)
  · refine h.sent ?_
    have := h.log
    simp only [List.length_drop]
    omega
theorem Sz.sendsAll : ∀ (l : List Int) {k : Nat} {x : Sp}, Sz k x → Sz (k + l.length) (l.foldl Sp.sends x)
  | [], _, _, h => h
  | t :: l, k, x, h => (Sz.sendsAll l h.sends).mono (by simp; omega)
theorem Sz.answers (h : Sz k x) : Sz (k + k) x.answers := by
  have h' := h.mono (Nat.le_add_left k k)
  refine ⟨h'.n, h'.log, h'.votes, h'.next, h'.mat, h'.acks, ?_, h'.save, h'.send, ?_, h'.ents⟩
  · exact Nat.le_trans (List.length_filter_le _ _) h'.reads
  · have h1 := List.length_filter_le (readOk x.r) x.r.reads
    have h2 := h.reads
    have h3 := h.ready
    simp only [Sp.answers, List.length_append]
    omega
theorem Sz.calls (h : Sz k x) : Sz (2 * (k + 7)) x.calls := by
  have h7 := others_len h.n
  have h1 := (Sz.sendsAll (others x.r) (h.round (c := x.r.round + 1))).mono (show k + (others x.r).length ≤ k + 7 by omega)
  exact h1.answers.mono (by omega)
theorem Sz.lead (h : Sz k x) (hk : 7 ≤ k) : Sz k { x with r := Rf.lead x.r } := by
  have hn := h.n
  refine ⟨h.n, h.log, by simp [Rf.lead, Rf.bare], ?_, ?_, ?_, by simp [Rf.lead, Rf.bare], h.save, h.send, h.ready, h.ents⟩ <;> (simp [Rf.lead, Rf.bare]; omega)
theorem Sz.leads (h : Sz k x) (hk : 7 ≤ k) : Sz (2 * (k + 8)) x.leads := ((h.lead hk).put.counts).calls
theorem Sz.elects (h : Sz k x) (hk : 7 ≤ k) : Sz (2 * (k + 8)) x.elects := by
  unfold Sp.elects
  split
  · exact h.leads hk
  · exact h.mono (by omega)
theorem Sz.asks (r : Raft) : ∀ (l : List Int) {k : Nat} {x : Sp}, Sz k x → Sz (k + l.length) (l.foldl (fun x to => x.send (askMsg r to)) x)
  | [], _, _, h => h
  | t :: l, k, x, h => (Sz.asks r l (h.sent (m := askMsg r t) (Nat.zero_le _))).mono (by simp; omega)
theorem Sz.follows {t : Int} (h : Sz k x) : Sz (k + 1) (x.follows t) :=
  (Sz.hard (x := { x with r := Rf.bare { x.r with term := t, vote := 0, role := 0, lead := 0 } }) ⟨h.n, h.log, by simp [Rf.bare], by simp [Rf.bare], by simp [Rf.bare], by simp [Rf.bare], by simp [Rf.bare], h.save, h.send, h.ready, h.ents⟩)
end

/-- A step taken apart may be handed on. -/
theorem Sz.cpy {k : Nat} {x : Sp} (h : Sz k x) (hk : k ≤ 4398046511104) : Cpy x.r := ⟨Nat.le_trans h.log hk, Nat.le_trans h.votes hk, Nat.le_trans h.next hk, Nat.le_trans h.mat hk, Nat.le_trans h.acks hk, Nat.le_trans h.reads hk⟩

theorem sz_start {r : Raft} (h : MayP r) : Sz 100 (Rf.start r) := by
  have h3 := h.n7
  have hl := h.log
  have hr := h.reads
  by_cases e : r.role = 2
  · obtain ⟨q1, q2, q3⟩ := h.lead e
    have := h.notc (by omega)
    exact ⟨h3, hl, by show r.votes.length ≤ _; rw [this]; simp, by show r.next.length ≤ _; omega, by show r.mat.length ≤ _; omega, by show r.acks.length ≤ _; omega, by show r.reads.length ≤ _; omega, by simp [Rf.start, Out.none], by simp [Rf.start, Out.none], by simp [Rf.start, Out.none], fun m hm => (by cases hm)⟩
  · obtain ⟨e1, e2, e3, e4⟩ := h.notl e
    have hv : r.votes.length ≤ 7 := by
      by_cases e5 : r.role = 1
      · have := h.cand e5; omega
      · rw [h.notc e5]; simp
    exact ⟨h3, hl, by show r.votes.length ≤ _; omega, by show r.next.length ≤ _; rw [e1]; simp, by show r.mat.length ≤ _; rw [e2]; simp, by show r.acks.length ≤ _; rw [e3]; simp, by show r.reads.length ≤ _; omega, by simp [Rf.start, Out.none], by simp [Rf.start, Out.none], by simp [Rf.start, Out.none], fun m hm => (by cases hm)⟩

theorem sz_none {k : Nat} : Sz k ⟨Raft.none, Out.none⟩ := ⟨by decide, Nat.zero_le _, Nat.zero_le _, Nat.zero_le _, Nat.zero_le _, Nat.zero_le _, Nat.zero_le _, Nat.zero_le _, Nat.zero_le _, Nat.zero_le _, fun m hm => (by cases hm)⟩

theorem sz_stands {r : Raft} (h : MayP r) : Sz 100 (Rf.start (stands r)) := by
  have h3 := h.n7
  have hl := h.log
  exact ⟨h3, hl, by simp [Rf.start, stands, Rf.bare]; omega, by simp [Rf.start, stands, Rf.bare], by simp [Rf.start, stands, Rf.bare], by simp [Rf.start, stands, Rf.bare], by simp [Rf.start, stands, Rf.bare], by simp [Rf.start, Out.none], by simp [Rf.start, Out.none], by simp [Rf.start, Out.none], fun m hm => (by cases hm)⟩

theorem sz_timeout {r : Raft} (h : MayP r) : Sz 1000 (timeout r) := by
  unfold timeout
  split
  · exact (sz_start h).mono (by omega)
  · have h1 := (sz_stands h).hard.elects (by omega)
    dsimp only
    split
    · exact h1.mono (by omega)
    · have h7 := others_len h1.n
      exact (Sz.asks _ _ h1).mono (by omega)
theorem sz_beat {r : Raft} (h : MayP r) : Sz 1000 (beat r) := by
  unfold beat
  split
  · exact (sz_start h).calls.mono (by omega)
  · exact (sz_start h).mono (by omega)
theorem sz_propose {r : Raft} {d : List UInt8} (h : MayP r) : Sz 1000 (propose r d).1 := by
  unfold propose
  split
  · exact (sz_start h).put.counts.calls.mono (by omega)
  · exact sz_none
theorem sz_ask {r : Raft} {id : Int} (h : MayP r) : Sz 1000 (Rf.ask r id).1 := by
  unfold Rf.ask
  split
  · have h0 := sz_start h
    have h' := h0.mono (show 100 ≤ 101 by omega)
    have h1 : Sz 101 (Rf.start { r with reads := r.reads ++ [⟨id, r.commit, r.round + 1⟩] }) :=
      ⟨h'.n, h'.log, h'.votes, h'.next, h'.mat, h'.acks, by have := h.reads; simp [Rf.start]; omega, h'.save, h'.send, h'.ready, h'.ents⟩
    exact h1.calls.mono (by omega)
  · exact sz_none
theorem sz_compact {r : Raft} {d : List UInt8} (h : MayP r) : Sz 1000 (compact r d) := by
  have h0 := sz_start h
  by_cases e : r.snap.idx < r.commit
  · rw [compact_eq e h.c1]
    exact ⟨h0.n, by have := h.log; simp [compacted]; omega, Nat.le_trans h0.votes (by omega), Nat.le_trans h0.next (by omega), Nat.le_trans h0.mat (by omega), Nat.le_trans h0.acks (by omega), Nat.le_trans h0.reads (by omega), by simp, by simp [Out.none], by simp [Out.none], fun m hm => (by cases hm)⟩
  · unfold compact
    rw [if_neg e]
    exact h0.mono (by omega)
end Go.Vc.Rf
namespace Go.Vc.Rf
open Go.Proofs.Ytnbfffmdplcajaa

section
variable {k : Nat} {x : Sp}
theorem Sz.takes {i : Int} {e : Ent} (h : Sz k x) : Sz (k + 2) (x.takes i e) := by
  have h' := h.mono (show k ≤ k + 2 by omega)
  have h2 := h.log
  have h3 := h.save
  unfold Sp.takes
  split
  · exact h'
  split
  · exact h'
  split
  · refine ⟨h'.n, ?_, h'.votes, h'.next, h'.mat, h'.acks, h'.reads, ?_, h'.send, h'.ready, h'.ents⟩
    · simp [Sp.save, Sp.log]; omega
    · simp [Sp.save, Sp.log]; omega
  · refine ⟨h'.n, ?_, h'.votes, h'.next, h'.mat, h'.acks, h'.reads, ?_, h'.send, h'.ready, h'.ents⟩
    · simp [Sp.save, Sp.log]; omega
    · simp [Sp.save, Sp.log]; omega
theorem Sz.takesAll : ∀ (l : List Ent) {k : Nat} {x : Sp} {i : Int}, Sz k x → Sz (k + 2 * l.length) (x.takesAll i l)
  | [], _, _, _, h => h
  | e :: l, _, _, _, h => (Sz.takesAll l h.takes).mono (by simp; omega)
theorem Sz.led {m : Msg} (h : Sz k x) : Sz (k + 1) (x.led m).1 := by
  unfold Sp.led
  split
  · exact h.sent (Nat.zero_le _)
  · exact (Sz.mono (k := k) ⟨h.n, h.log, by simp [Rf.bare], by simp [Rf.bare], by simp [Rf.bare], by simp [Rf.bare], by simp [Rf.bare], h.save, h.send, h.ready, h.ents⟩ (by omega))
theorem Sz.shift {s : Snp} (h : Sz k x) : Sz k (x.shift s) := by
  have h2 := h.log
  refine ⟨h.n, ?_, h.votes, h.next, h.mat, h.acks, h.reads, h.save, h.send, h.ready, h.ents⟩
  unfold Sp.shift
  show (if _ then _ else _ : List Ent).length ≤ _
  split
  · rw [List.length_drop]; omega
  · simp
theorem Sz.gotAt {r : Raft} {m : Msg} (h : MayP r) : Sz 101 (gotAt r m) := by
  unfold Go.Proofs.Ytnbfffmdplcajaa.gotAt
  split
  · exact (sz_start h).follows
  · exact (sz_start h).mono (by omega)
theorem Sz.asked {m : Msg} (h : Sz k x) : Sz (k + 2) (x.asked m) := by
  unfold Sp.asked
  refine Sz.sent (k := k + 1) ?_ (Nat.zero_le _)
  split
  · exact Sz.hard (x := { x with r := { x.r with vote := m.frm } }) ⟨h.n, h.log, h.votes, h.next, h.mat, h.acks, h.reads, h.save, h.send, h.ready, h.ents⟩
  · exact h.mono (by omega)
theorem Sz.voted {m : Msg} (h : Sz k x) (hk : 7 ≤ k) : Sz (2 * (k + 8)) (x.voted m) := by
  unfold Sp.voted
  split
  · exact Sz.elects (x := { x with r := { x.r with votes := x.r.votes.set (m.frm - 1).toNat true } }) ⟨h.n, h.log, by rw [List.length_set]; exact h.votes, h.next, h.mat, h.acks, h.reads, h.save, h.send, h.ready, h.ents⟩ hk
  · exact h.mono (by omega)
theorem Sz.appends {m : Msg} (h : Sz k x) (hm : m.entries.length ≤ 20) : Sz (k + 50) (x.appends m) := by
  unfold Sp.appends
  split
  · exact h.led.mono (by omega)
  · dsimp only
    split
    · exact (h.led.sent (Nat.zero_le _)).mono (by omega)
    · exact (((Sz.takesAll m.entries h.led).commit).sent (Nat.zero_le _)).mono (by omega)
theorem Sz.snaps {m : Msg} (h : Sz k x) : Sz (k + 5) (x.snaps m) := by
  unfold Sp.snaps
  split
  · exact h.led.mono (by omega)
  · dsimp only
    refine Sz.mono (k := k + 3) (Sz.sent (k := k + 2) ?_ (Nat.zero_le _)) (by omega)
    split
    · split
      · exact (h.led.saved.shift).commit
      · exact h.led.saved.commit
    · exact h.led.mono (by omega)
theorem Sz.done {m : Msg} (h : Sz k x) : Sz (2 * (k + 2)) (x.done m) := by
  unfold Sp.done
  split
  · exact h.mono (by omega)
  · dsimp only
    refine Sz.mono (k := (k + 1) + (k + 1)) (Sz.answers ?_) (by omega)
    have h1 : Sz k ({ x with r := { x.r with acks := x.r.acks.set (m.frm - 1).toNat (max (x.r.acks.getD (m.frm - 1).toNat 0) m.round) } } : Sp) := ⟨h.n, h.log, h.votes, h.next, h.mat, by rw [List.length_set]; exact h.acks, h.reads, h.save, h.send, h.ready, h.ents⟩
    split
    · have h2 : ∀ v : Int, Sz k (Sp.counts ({ x with r := { x.r with acks := x.r.acks.set (m.frm - 1).toNat (max (x.r.acks.getD (m.frm - 1).toNat 0) m.round), mat := x.r.mat.set (m.frm - 1).toNat v, next := x.r.next.set (m.frm - 1).toNat (v + 1) } } : Sp)) := fun v =>
        Sz.counts ⟨h.n, h.log, h.votes, by rw [List.length_set]; exact h.next, by rw [List.length_set]; exact h.mat, by rw [List.length_set]; exact h.acks, h.reads, h.save, h.send, h.ready, h.ents⟩
      split
      · exact (h2 _).sends
      · exact (h2 _).mono (by omega)
    · split
      · exact Sz.sends ⟨h.n, h.log, h.votes, by rw [List.length_set]; exact h.next, h.mat, by rw [List.length_set]; exact h.acks, h.reads, h.save, h.send, h.ready, h.ents⟩
      · exact h1.mono (by omega)
end

theorem sz_got {r : Raft} {m : Msg} (h : MayP r) (lm : Lm m) : Sz 1000 (got r m) := by
  cases hm : mine r m with
  | false =>
    unfold got
    rw [if_pos hm]
    exact (sz_start h).mono (by omega)
  | true =>
    rw [got_mine hm]
    have hg := Sz.gotAt (m := m) h
    split
    · exact hg.asked.mono (by omega)
    split
    · exact (hg.voted (by omega)).mono (by omega)
    split
    · exact (hg.appends lm.size).mono (by omega)
    split
    · exact hg.snaps.mono (by omega)
    · exact hg.done.mono (by omega)
end Go.Vc.Rf
