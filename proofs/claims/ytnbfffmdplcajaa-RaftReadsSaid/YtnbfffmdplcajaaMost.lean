/- Majorities, counted; what a leader commits, what readers are told. -/
import Derived.Test.YtnbfffmdplcajaaGrow
namespace Go.Proofs.Ytnbfffmdplcajaa
open Go.Vc Go.Vc.Rf

/-- How many others, of the first j, have come so far. -/
def cnt (id : Int) (l : List Int) (c : Int) (j : Nat) : Nat := (List.range j).countP fun i : Nat => (i : Int) != id - 1 && decide (c ≤ nth l i)
theorem cnt_succ (id : Int) (l : List Int) (c : Int) (j : Nat) : cnt id l c (j + 1) = cnt id l c j + if ((j : Int) != id - 1 && decide (c ≤ nth l j)) = true then 1 else 0 := by
  unfold cnt
  rw [List.range_succ, List.countP_append, List.countP_singleton]
theorem cnt_le (id : Int) (l : List Int) (c : Int) (j : Nat) : cnt id l c j ≤ j := by
  unfold cnt
  exact Nat.le_trans List.countP_le_length (by simp)
theorem others_cnt {r : Raft} {l : List Int} {c : Int} : ((others r).countP fun i => decide (c ≤ nth l (i - 1))) = cnt r.id l c r.n.toNat := by
  unfold others cnt
  rw [List.countP_filter, List.countP_map]
  congr 1
  funext i
  simp only [Function.comp]
  have e1 : (i : Int) + 1 - 1 = i := by omega
  have e2 : ((i : Int) + 1 != r.id) = ((i : Int) != r.id - 1) := by
    by_cases h : (i : Int) + 1 = r.id
    · have h2 : (i : Int) = r.id - 1 := by omega
      rw [bne_eq_false_iff_eq.2 h, bne_eq_false_iff_eq.2 h2]
    · have h2 : ¬ (i : Int) = r.id - 1 := by omega
      rw [bne_iff_ne.2 h, bne_iff_ne.2 h2]
  rw [e1, e2, Bool.and_comm]

theorem got_kinds {r : Raft} {m : Msg} (hr : r.role = 2) :
    ((got r m).q.ready = [] ∧ ((got r m).r.role = 2 → (got r m).r.commit = r.commit)) ∨ (got r m = (Rf.start r).done m ∧ m.term = r.term) := by
  by_cases hm : mine r m = true
  · have eg := got_mine hm
    have gq : (gotAt r m).q.ready = [] := by unfold gotAt; split <;> rfl
    have gc : (gotAt r m).r.commit = r.commit := by unfold gotAt; split <;> rfl
    have hsend : ∀ (s : Sp) (l : List Ent) (i : Int), (s.takesAll i l).q.ready = s.q.ready ∧ (s.takesAll i l).r.role = s.r.role := by
      intro s l
      induction l generalizing s with
      | nil => intro i; exact ⟨rfl, rfl⟩
      | cons e l ih =>
        intro i
        have h1 := ih (s.takes i e) (i + 1)
        have h2 : (s.takes i e).q.ready = s.q.ready ∧ (s.takes i e).r.role = s.r.role := by
          unfold Sp.takes
          split
          · exact ⟨rfl, rfl⟩
          split
          · exact ⟨rfl, rfl⟩
          split <;> exact ⟨rfl, rfl⟩
        exact ⟨h1.1.trans h2.1, h1.2.trans h2.2⟩
    by_cases k1 : m.kind = 1
    · rw [if_pos k1] at eg
      left
      rw [eg]
      have : ((gotAt r m).asked m).q.ready = (gotAt r m).q.ready ∧ ((gotAt r m).asked m).r.commit = (gotAt r m).r.commit := by unfold Sp.asked; split <;> exact ⟨rfl, rfl⟩
      exact ⟨this.1.trans gq, fun _ => this.2.trans gc⟩
    rw [if_neg k1] at eg
    by_cases k2 : m.kind = 2
    · rw [if_pos k2] at eg
      left
      have hro : (gotAt r m).r.role ≠ 1 := by
        unfold gotAt; split
        · show (0 : Int) ≠ 1; omega
        · show r.role ≠ 1; omega
      have : (gotAt r m).voted m = gotAt r m := if_neg fun hh => hro hh.1
      rw [eg, this]
      exact ⟨gq, fun _ => gc⟩
    rw [if_neg k2] at eg
    have hled : ∀ (y : Sp), ((y.led m).2 = false ∧ (y.led m).1.q.ready = y.q.ready ∧ (y.led m).1.r.commit = y.r.commit) ∨ ((y.led m).2 = true ∧ (y.led m).1.q.ready = y.q.ready ∧ (y.led m).1.r.role = 0) := by
      intro y
      unfold Sp.led
      split
      · exact .inl ⟨rfl, rfl, rfl⟩
      · exact .inr ⟨rfl, rfl, rfl⟩
    by_cases k3 : m.kind = 3
    · rw [if_pos k3] at eg
      left
      rw [eg]
      rcases hled (gotAt r m) with ⟨h1, h2, h3⟩ | ⟨h1, h2, h3⟩
      · have : (gotAt r m).appends m = ((gotAt r m).led m).1 := if_pos h1
        rw [this]
        exact ⟨h2.trans gq, fun _ => h3.trans gc⟩
      · have : ((gotAt r m).appends m).q.ready = ((gotAt r m).led m).1.q.ready ∧ ((gotAt r m).appends m).r.role = ((gotAt r m).led m).1.r.role := by
          unfold Sp.appends
          rw [if_neg (by rw [h1]; simp)]
          dsimp only
          split
          · exact ⟨rfl, rfl⟩
          · exact hsend _ _ _
        exact ⟨this.1.trans (h2.trans gq), fun hh => by rw [this.2, h3] at hh; cases hh⟩
    rw [if_neg k3] at eg
    by_cases k5 : m.kind = 5
    · rw [if_pos k5] at eg
      left
      rw [eg]
      rcases hled (gotAt r m) with ⟨h1, h2, h3⟩ | ⟨h1, h2, h3⟩
      · have : (gotAt r m).snaps m = ((gotAt r m).led m).1 := if_pos h1
        rw [this]
        exact ⟨h2.trans gq, fun _ => h3.trans gc⟩
      · have : ((gotAt r m).snaps m).q.ready = ((gotAt r m).led m).1.q.ready ∧ ((gotAt r m).snaps m).r.role = ((gotAt r m).led m).1.r.role := by
          unfold Sp.snaps
          rw [if_neg (by rw [h1]; simp)]
          dsimp only
          split
          · split <;> exact ⟨rfl, rfl⟩
          · exact ⟨rfl, rfl⟩
        exact ⟨this.1.trans (h2.trans gq), fun hh => by rw [this.2, h3] at hh; cases hh⟩
    rw [if_neg k5] at eg
    by_cases ht : r.term < m.term
    · left
      have : (gotAt r m).done m = gotAt r m := if_pos (.inl (by unfold gotAt; rw [if_pos ht]; show (0 : Int) ≠ 2; omega))
      rw [eg, this]
      exact ⟨gq, fun _ => gc⟩
    · have eat : gotAt r m = Rf.start r := if_neg ht
      rw [eat] at eg
      by_cases h2 : m.term = r.term
      · exact .inr ⟨eg, h2⟩
      · left
        have : (Rf.start r).done m = Rf.start r := if_pos (.inr h2)
        rw [eg, this]
        exact ⟨rfl, fun _ => rfl⟩
  · left
    have : got r m = Rf.start r := if_pos (by simpa using hm)
    rw [this]
    exact ⟨rfl, fun _ => rfl⟩

/-- What a leader commits a majority has, and it is of its own term. -/
theorem got_most {r : Raft} {m : Msg} (may : MayP r) (hr : r.role = 2) (h2 : (got r m).r.role = 2) (hc : (got r m).r.commit ≠ r.commit) :
    (got r m).r.mat.length = r.n.toNat ∧ (got r m).r.id = r.id ∧ (got r m).r.n = r.n ∧ (got r m).r.snap = r.snap ∧ (got r m).r.log = r.log ∧ 2 * (1 + (cnt r.id (got r m).r.mat (got r m).r.commit r.n.toNat : Int)) > r.n ∧ termAt (got r m).r (got r m).r.commit = ((got r m).r.term, true) := by
  rcases got_kinds (m := m) hr with ⟨_, h⟩ | ⟨h, ht⟩
  · exact absurd (h h2) hc
  · obtain ⟨q1, q2, q3⟩ := may.lead hr
    obtain ⟨y, A, M, N, c, e1, e2, e3, e4, _⟩ := done_spec (x := Rf.start r) (m := m) hr ht
    have ef : (got r m).r = { ({ r with acks := A, mat := M, next := N, commit := c } : Raft) with reads := y.r.reads.filter fun x => !readOk y.r x } := by
      rw [h, e1, answers_fields, e2]; rfl
    rw [ef] at hc ⊢
    have hcc : c = countsFrom { r with acks := A, mat := M, next := N } r.log.length := by
      rcases e4 with e4 | e4
      · exact absurd e4 hc
      · exact e4
    rcases countsFrom_spec (r := { r with acks := A, mat := M, next := N }) r.log.length with h3 | ⟨h3, h4, h5, h6, h7⟩
    · exact absurd (hcc.trans h3) hc
    · rw [← hcc] at h3 h4 h5 h6 h7
      refine ⟨?_, rfl, rfl, rfl, rfl, ?_, ?_⟩
      · show M.length = _
        rw [e3]; show r.mat.length = _; omega
      · unfold countsAt most at h6
        rw [others_cnt] at h6
        have h6' := of_decide_eq_true h6
        simp only [if_true] at h6'
        show 2 * (1 + (cnt r.id M c r.n.toNat : Int)) > r.n
        have h8 : 2 * ((1 : Nat) + (cnt r.id M c r.n.toNat : Nat) : Int) > r.n := h6'
        omega
      · rw [termAt_mid (by exact h4) (by show c ≤ r.snap.idx + r.log.length; exact h5)]
        show ((r.log.getD (c - r.snap.idx - 1).toNat Ent.none).term, true) = (r.term, true)
        rw [h7]

theorem got_ready_role {r : Raft} {m : Msg} (_ : MayP r) (hr : r.role ≠ 2) : (got r m).q.ready = [] := by
  by_cases hm : mine r m = true
  · have eg := got_mine hm
    have gq : (gotAt r m).q.ready = [] := by unfold gotAt; split <;> rfl
    have hsend : ∀ (s : Sp) (l : List Ent) (i : Int), (s.takesAll i l).q.ready = s.q.ready := by
      intro s l
      induction l generalizing s with
      | nil => intro i; rfl
      | cons e l ih =>
        intro i
        have h2 : (s.takes i e).q.ready = s.q.ready := by
          unfold Sp.takes
          split
          · rfl
          split
          · rfl
          split <;> rfl
        exact (ih (s.takes i e) (i + 1)).trans h2
    have hled : ∀ (y : Sp), (y.led m).1.q.ready = y.q.ready := by
      intro y; unfold Sp.led; split <;> rfl
    have hcalls : ∀ (x : Sp), x.r.reads = [] → x.calls.q.ready = x.q.ready := by
      intro x hx
      have h1 : ∀ (l : List Int) (z : Sp), (l.foldl Sp.sends z).q.ready = z.q.ready := by
        intro l
        induction l with
        | nil => intro z; rfl
        | cons t l ih =>
          intro z
          have : (z.sends t).q.ready = z.q.ready := by unfold Sp.sends; split <;> rfl
          exact (ih (z.sends t)).trans this
      unfold Sp.calls
      show ((others x.r).foldl Sp.sends (x.round (x.r.round + 1))).q.ready ++ List.filter _ ((others x.r).foldl Sp.sends (x.round (x.r.round + 1))).r.reads = _
      rw [h1, foldl_sends_r]
      show x.q.ready ++ List.filter _ x.r.reads = _
      rw [hx, List.filter_nil, List.append_nil]
    rw [eg]
    split
    · have : ((gotAt r m).asked m).q.ready = (gotAt r m).q.ready := by unfold Sp.asked; split <;> rfl
      rw [this]; exact gq
    split
    · have : ((gotAt r m).voted m).q.ready = (gotAt r m).q.ready := by
        unfold Sp.voted
        split
        · unfold Sp.elects
          split
          · unfold Sp.leads
            rw [hcalls]
            · rfl
            · rfl
          · rfl
        · rfl
      rw [this]; exact gq
    split
    · have : ((gotAt r m).appends m).q.ready = (gotAt r m).q.ready := by
        unfold Sp.appends
        split
        · exact hled _
        · dsimp only
          split
          · exact hled _
          · exact (hsend _ _ _).trans (hled _)
      rw [this]; exact gq
    split
    · have : ((gotAt r m).snaps m).q.ready = (gotAt r m).q.ready := by
        unfold Sp.snaps
        split
        · exact hled _
        · dsimp only
          split
          · split <;> exact hled _
          · exact hled _
      rw [this]; exact gq
    · have hro : (gotAt r m).r.role ≠ 2 := by
        unfold gotAt; split
        · show (0 : Int) ≠ 2; omega
        · exact hr
      have : (gotAt r m).done m = gotAt r m := if_pos (.inl hro)
      rw [this]; exact gq
  · have : got r m = Rf.start r := if_pos (by simpa using hm)
    rw [this]; rfl

/-- Readers are answered by a leader alone, with a majority behind it. -/
theorem got_ready {r : Raft} {m : Msg} (may : MayP r) :
    (got r m).q.ready = [] ∨ ((got r m).r.role = 2 ∧ (got r m).r.id = r.id ∧ (got r m).r.n = r.n ∧ ∀ x ∈ (got r m).q.ready, x.round ≤ (got r m).r.round → 2 * (1 + (cnt r.id (got r m).r.acks x.round r.n.toNat : Int)) > r.n) := by
  by_cases hr : r.role = 2
  · rcases got_kinds (m := m) hr with ⟨h, _⟩ | ⟨h, ht⟩
    · exact .inl h
    · right
      obtain ⟨y, A, M, N, c, e1, e2, e3, e4, e5, _⟩ := done_spec (x := Rf.start r) (m := m) hr ht
      have ef : (got r m).r = { ({ r with acks := A, mat := M, next := N, commit := c } : Raft) with reads := y.r.reads.filter fun x => !readOk y.r x } := by
        rw [h, e1, answers_fields, e2]; rfl
      have eq : (got r m).q.ready = y.r.reads.filter (readOk y.r) := by
        rw [h, e1]
        show y.q.ready ++ _ = _
        rw [e5]; rfl
      rw [eq, ef]
      refine ⟨hr, rfl, rfl, fun x hx hro => ?_⟩
      have hok := (List.mem_filter.1 hx).2
      rw [e2] at hok
      unfold readOk most at hok
      rw [others_cnt] at hok
      have hok' := of_decide_eq_true hok
      have hle : decide (x.round ≤ ({ (Rf.start r).r with acks := A, mat := M, next := N, commit := c } : Raft).round) = true := decide_eq_true hro
      rw [hle] at hok'
      simp only [if_true] at hok'
      show 2 * (1 + (cnt r.id A x.round r.n.toNat : Int)) > r.n
      have h8 : 2 * ((1 : Nat) + (cnt r.id A x.round r.n.toNat : Nat) : Int) > r.n := hok'
      omega
  · exact .inl (got_ready_role may hr)
end Go.Proofs.Ytnbfffmdplcajaa
