/- What counting votes and notes comes to: the log grows, what is committed does not fall, a majority has it. -/
import Derived.Test.YtnbfffmdplcajaaLogs
namespace Go.Proofs.Ytnbfffmdplcajaa
open Go.Vc Go.Vc.Rf

theorem countsFrom_spec {r : Raft} : ∀ k : Nat, countsFrom r k = r.commit ∨ (r.commit < countsFrom r k ∧ r.snap.idx < countsFrom r k ∧ countsFrom r k ≤ r.snap.idx + k ∧ countsAt r (countsFrom r k) = true ∧ (r.log.getD (countsFrom r k - r.snap.idx - 1).toNat Ent.none).term = r.term)
  | 0 => .inl rfl
  | k + 1 => by
    unfold countsFrom
    split
    · exact .inl rfl
    split
    · rename_i h1 h2
      rw [Bool.and_eq_true, beq_iff_eq] at h2
      right
      refine ⟨by omega, by omega, by omega, h2.2, ?_⟩
      have : (r.snap.idx + ((k + 1 : Nat) : Int) - r.snap.idx - 1).toNat = k := by omega
      rw [this]; exact h2.1
    · rcases countsFrom_spec (r := r) k with h | ⟨a, b, c, d, e⟩
      · exact .inl h
      · exact .inr ⟨a, b, by omega, d, e⟩

/-- The log grows; what is committed does not fall, and lies within. -/
structure Gr (x y : Raft) : Prop where
  snap : y.snap = x.snap
  log : ∃ l, y.log = x.log ++ l
  up : x.commit ≤ y.commit
  inn : x.commit ≤ lastI x → y.commit ≤ lastI y

theorem Gr.of {x y : Raft} (h1 : y.snap = x.snap) (h2 : y.log = x.log) (h3 : y.commit = x.commit) : Gr x y := by
  refine ⟨h1, ⟨[], by rw [h2, List.append_nil]⟩, by omega, fun h => ?_⟩
  unfold lastI at *
  rw [h1, h2, h3]; exact h
theorem Gr.refl (x : Raft) : Gr x x := Gr.of rfl rfl rfl
theorem Gr.trans {x y z : Raft} (a : Gr x y) (b : Gr y z) : Gr x z := by
  obtain ⟨l, hl⟩ := a.log
  obtain ⟨k, hk⟩ := b.log
  have h1 := a.up
  have h2 := b.up
  exact ⟨b.snap.trans a.snap, ⟨l ++ k, by rw [hk, hl, List.append_assoc]⟩, by omega, fun h => b.inn (a.inn h)⟩

theorem gr_put {x : Sp} {d : List UInt8} : Gr x.r (x.put d).r := by
  refine ⟨rfl, ⟨_, rfl⟩, Int.le_refl _, fun h => ?_⟩
  show x.r.commit ≤ lastI (x.put d).r
  have : lastI (x.put d).r = lastI x.r + 1 := by simp [lastI, Sp.put, Sp.save, Sp.log]; omega
  omega
theorem gr_counts {x : Sp} : Gr x.r x.counts.r := by
  refine ⟨rfl, ⟨[], by simp [Sp.counts, Sp.commit]⟩, ?_, fun h => ?_⟩
  · show x.r.commit ≤ countsFrom x.r x.r.log.length
    rcases countsFrom_spec (r := x.r) x.r.log.length with h | ⟨h, _⟩ <;> omega
  · show countsFrom x.r x.r.log.length ≤ x.r.snap.idx + x.r.log.length
    rcases countsFrom_spec (r := x.r) x.r.log.length with h2 | ⟨_, _, h2, _⟩
    · rw [h2]; exact h
    · exact h2
theorem gr_calls {x : Sp} : Gr x.r x.calls.r := by
  rw [calls_r]
  exact Gr.of rfl rfl rfl
theorem gr_leads {x : Sp} : Gr x.r x.leads.r := by
  have h0 : Gr x.r ({ x with r := Rf.lead x.r } : Sp).r := Gr.of rfl rfl rfl
  exact ((h0.trans gr_put).trans gr_counts).trans gr_calls
theorem gr_elects {x : Sp} : Gr x.r x.elects.r := by
  unfold Sp.elects
  split
  · exact gr_leads
  · exact Gr.refl _
theorem gr_voted {x : Sp} {m : Msg} : Gr x.r (x.voted m).r := by
  unfold Sp.voted
  split
  · have h0 : Gr x.r ({ x with r := { x.r with votes := x.r.votes.set (m.frm - 1).toNat true } } : Sp).r := Gr.of rfl rfl rfl
    exact h0.trans gr_elects
  · exact Gr.refl _
theorem gr_asked {x : Sp} {m : Msg} : Gr x.r (x.asked m).r := by
  unfold Sp.asked
  split <;> exact Gr.of rfl rfl rfl

/-- What a note of a follower comes to. -/
theorem done_spec {x : Sp} {m : Msg} (h2 : x.r.role = 2) (ht : m.term = x.r.term) :
    ∃ (y : Sp) (A M N : List Int) (c : Int), x.done m = y.answers ∧ y.r = { x.r with acks := A, mat := M, next := N, commit := c } ∧ M.length = x.r.mat.length ∧
      (c = x.r.commit ∨ c = countsFrom { x.r with acks := A, mat := M, next := N } x.r.log.length) ∧ y.q.ready = x.q.ready ∧ y.q.save = x.q.save := by
  have hq : ∀ (s : Sp) (to : Int), (s.sends to).q.ready = s.q.ready ∧ (s.sends to).q.save = s.q.save := fun s to => by
    unfold Sp.sends; split <;> exact ⟨rfl, rfl⟩
  unfold Sp.done
  rw [if_neg (by rintro (h | h); exact h h2; exact h ht)]
  dsimp only
  by_cases hok : m.ok = true
  · simp only [hok, if_true]
    split
    · refine ⟨_, _, _, _, _, rfl, by rw [sends_r]; rfl, by simp, .inr rfl, (hq _ _).1, (hq _ _).2⟩
    · exact ⟨_, _, _, _, _, rfl, rfl, by simp, .inr rfl, rfl, rfl⟩
  · simp only [hok, if_false, Bool.false_eq_true]
    split
    · exact ⟨_, _, _, _, _, rfl, by rw [sends_r], rfl, .inl rfl, (hq _ _).1, (hq _ _).2⟩
    · exact ⟨_, _, _, _, _, rfl, rfl, rfl, .inl rfl, rfl, rfl⟩

theorem answers_fields {y : Sp} : y.answers.r = { y.r with reads := y.r.reads.filter fun x => !readOk y.r x } := rfl

theorem gr_done {x : Sp} {m : Msg} : Gr x.r (x.done m).r := by
  by_cases h : x.r.role ≠ 2 ∨ m.term ≠ x.r.term
  · have : x.done m = x := if_pos h
    rw [this]; exact Gr.refl _
  · have h1 : x.r.role = 2 := by
      by_cases e : x.r.role = 2
      · exact e
      · exact absurd (.inl e) h
    have h2 : m.term = x.r.term := by
      by_cases e : m.term = x.r.term
      · exact e
      · exact absurd (.inr e) h
    obtain ⟨y, A, M, N, c, e1, e2, _, e3, _⟩ := done_spec h1 h2
    rw [e1]
    rcases e3 with e3 | e3
    · refine Gr.of ?_ ?_ ?_
      · rw [answers_fields, e2]
      · rw [answers_fields, e2]
      · rw [answers_fields, e2]; exact e3
    · have h0 : Gr x.r ({ x.r with acks := A, mat := M, next := N } : Raft) := Gr.of rfl rfl rfl
      have h3 := gr_counts (x := ⟨{ x.r with acks := A, mat := M, next := N }, x.q⟩)
      refine (h0.trans h3).trans (Gr.of ?_ ?_ ?_)
      · rw [answers_fields, e2]; rfl
      · rw [answers_fields, e2]; rfl
      · rw [answers_fields, e2]; exact e3

theorem gr_gotAt {r : Raft} {m : Msg} : Gr r (gotAt r m).r := by
  unfold gotAt; split <;> exact Gr.of rfl rfl rfl
/-- Letters that bring no entries let the log grow alone. -/
theorem gr_got {r : Raft} {m : Msg} (h3 : m.kind ≠ 3) (h5 : m.kind ≠ 5) : Gr r (got r m).r := by
  by_cases hm : mine r m = true
  · rw [got_mine hm]
    refine (gr_gotAt (m := m)).trans ?_
    split
    · exact gr_asked
    split
    · exact gr_voted
    exact gr_done
  · have : got r m = Rf.start r := if_pos (by simpa using hm)
    rw [this]; exact Gr.refl _

theorem leads_len {x : Sp} : x.leads.r.log.length = x.r.log.length + 1 := by
  unfold Sp.leads
  rw [calls_r]
  show ((({ x with r := Rf.lead x.r } : Sp).put []).r.log).length = _
  simp [Sp.put, Sp.save, Sp.log, Rf.lead, bare]
theorem done_len {x : Sp} {m : Msg} : (x.done m).r.log = x.r.log := by
  by_cases h : x.r.role ≠ 2 ∨ m.term ≠ x.r.term
  · have : x.done m = x := if_pos h
    rw [this]
  · have h1 : x.r.role = 2 := by
      by_cases e : x.r.role = 2
      · exact e
      · exact absurd (.inl e) h
    have h2 : m.term = x.r.term := by
      by_cases e : m.term = x.r.term
      · exact e
      · exact absurd (.inr e) h
    obtain ⟨y, A, M, N, c, e1, e2, _⟩ := done_spec h1 h2
    rw [e1, answers_fields, e2]
theorem got_len {r : Raft} {m : Msg} (h3 : m.kind ≠ 3) (h5 : m.kind ≠ 5) : (got r m).r.log.length ≤ r.log.length + 1 := by
  have hg : (gotAt r m).r.log = r.log := by unfold gotAt; split <;> rfl
  by_cases hm : mine r m = true
  · rw [got_mine hm]
    split
    · have : ((gotAt r m).asked m).r.log = (gotAt r m).r.log := by unfold Sp.asked; split <;> rfl
      rw [this, hg]; omega
    split
    · have : ((gotAt r m).voted m).r.log.length ≤ (gotAt r m).r.log.length + 1 := by
        unfold Sp.voted
        split
        · unfold Sp.elects
          split
          · rw [leads_len]; exact Nat.le_refl _
          · show (gotAt r m).r.log.length ≤ _
            omega
        · omega
      rw [hg] at this; exact this
    rw [done_len, hg]; omega
  · have : got r m = Rf.start r := if_pos (by simpa using hm)
    rw [this]; show r.log.length ≤ _; omega
end Go.Proofs.Ytnbfffmdplcajaa
