/- What is saved leaves on a disk just what a node has. -/
import Derived.Test.YtnbfffmdplcajaaGrow
namespace Go.Proofs.Ytnbfffmdplcajaa
open Go.Vc Go.Vc.Rf

def kof (r : Raft) : Kept := ⟨r.term, r.vote, r.snap, r.log⟩
def cutN (k : Kept) (i : Int) : Nat := if k.snap.idx < i then min k.entries.length (i - k.snap.idx - 1).toNat else 0
/-- One record read. -/
def foldRec (k : Kept) (x : Rec) : Kept :=
  if x.kind = 1 then { k with term := x.term, vote := x.vote }
  else if x.kind = 2 then { k with entries := k.entries ++ [x.ent] }
  else if x.kind = 3 then { k with entries := k.entries.take (cutN k x.idx) }
  else if x.kind = 4 then
    (if k.snap.idx < x.snap.idx then { k with snap := x.snap, entries := if x.snap.idx - k.snap.idx ≤ k.entries.length ∧ (k.entries.getD (x.snap.idx - k.snap.idx - 1).toNat Ent.none).term = x.snap.term then k.entries.drop (x.snap.idx - k.snap.idx).toNat else [] } else k)
  else k

/-- What is saved, from what there was, comes to what there is; and no index is great. -/
structure Ks (k : Kept) (x : Sp) : Prop where
  fold : x.q.save.foldl foldRec k = kof x.r
  small : ∀ e ∈ x.q.save, 0 ≤ e.idx ∧ e.idx ≤ 4000000000000 ∧ 0 ≤ e.snap.idx ∧ e.snap.idx ≤ 4000000000000
  many : x.q.save.length ≤ 1000

theorem Ks.same {k : Kept} {x y : Sp} (h : Ks k x) (e1 : y.q.save = x.q.save) (e2 : kof y.r = kof x.r) : Ks k y := ⟨by rw [e1, e2]; exact h.fold, by rw [e1]; exact h.small, by rw [e1]; exact h.many⟩
theorem ks_start (r : Raft) : Ks (kof r) (Rf.start r) := ⟨rfl, fun e he => (by cases he), by simp [Rf.start, Out.none]⟩

/-- The same, but for what is never forgotten. -/
structure Kw (k : Kept) (x : Sp) : Prop where
  snap : (x.q.save.foldl foldRec k).snap = x.r.snap
  entries : (x.q.save.foldl foldRec k).entries = x.r.log
  small : ∀ e ∈ x.q.save, 0 ≤ e.idx ∧ e.idx ≤ 4000000000000 ∧ 0 ≤ e.snap.idx ∧ e.snap.idx ≤ 4000000000000
  many : x.q.save.length ≤ 900
theorem Kw.of {k : Kept} {x y : Sp} (h : Ks k x) (hm : x.q.save.length ≤ 900) (e1 : y.q.save = x.q.save) (e2 : y.r.snap = x.r.snap) (e3 : y.r.log = x.r.log) : Kw k y :=
  ⟨by rw [e1, h.fold, e2]; rfl, by rw [e1, h.fold, e3]; rfl, by rw [e1]; exact h.small, by rw [e1]; exact hm⟩
theorem ks_hard {k : Kept} {x : Sp} (h : Kw k x) : Ks k x.hard := by
  refine ⟨?_, fun e he => ?_, ?_⟩
  · show (x.q.save ++ [recH x.r.term x.r.vote]).foldl foldRec k = kof x.r
    rw [List.foldl_append]
    show foldRec (x.q.save.foldl foldRec k) (recH x.r.term x.r.vote) = _
    rw [show foldRec (x.q.save.foldl foldRec k) (recH x.r.term x.r.vote) = ⟨x.r.term, x.r.vote, (x.q.save.foldl foldRec k).snap, (x.q.save.foldl foldRec k).entries⟩ from rfl, h.snap, h.entries]
    rfl
  · rcases List.mem_append.1 he with h2 | h2
    · exact h.small e h2
    · rw [List.mem_singleton.1 h2]
      exact ⟨by show (0 : Int) ≤ 0; omega, by show (0 : Int) ≤ _; omega, by show (0 : Int) ≤ 0; omega, by show (0 : Int) ≤ _; omega⟩
  · show (x.q.save ++ [_]).length ≤ _
    have := h.many
    simp; omega
theorem ks_entry {k : Kept} {x : Sp} {e : Ent} (h : Ks k x) (hm : x.q.save.length ≤ 900) : Ks k ((x.log (x.r.log ++ [e])).save [recE e]) := by
  refine ⟨?_, fun y hy => ?_, ?_⟩
  · show (x.q.save ++ [recE e]).foldl foldRec k = _
    rw [List.foldl_append, h.fold]
    rfl
  · rcases List.mem_append.1 hy with h2 | h2
    · exact h.small y h2
    · rw [List.mem_singleton.1 h2]
      exact ⟨by show (0 : Int) ≤ 0; omega, by show (0 : Int) ≤ _; omega, by show (0 : Int) ≤ 0; omega, by show (0 : Int) ≤ _; omega⟩
  · show (x.q.save ++ [_]).length ≤ _
    simp; omega
theorem sends_save {x : Sp} {to : Int} : (x.sends to).q.save = x.q.save := by unfold Sp.sends; split <;> rfl
theorem foldl_sends_save : ∀ (l : List Int) (x : Sp), (l.foldl Sp.sends x).q.save = x.q.save
  | [], _ => rfl
  | t :: l, x => (foldl_sends_save l (x.sends t)).trans sends_save
theorem calls_save {x : Sp} : x.calls.q.save = x.q.save := by
  unfold Sp.calls
  exact foldl_sends_save _ _
theorem ks_calls {k : Kept} {x : Sp} (h : Ks k x) : Ks k x.calls := h.same calls_save (by rw [calls_r]; rfl)
theorem ks_counts {k : Kept} {x : Sp} (h : Ks k x) : Ks k x.counts := h.same rfl rfl
theorem ks_leads {k : Kept} {x : Sp} (h : Ks k x) (hm : x.q.save.length ≤ 900) : Ks k x.leads := by
  unfold Sp.leads
  refine ks_calls (ks_counts ?_)
  exact ks_entry (x := { x with r := Rf.lead x.r }) (h.same rfl rfl) hm
theorem ks_elects {k : Kept} {x : Sp} (h : Ks k x) (hm : x.q.save.length ≤ 900) : Ks k x.elects := by
  unfold Sp.elects
  split
  · exact ks_leads h hm
  · exact h
theorem ks_takes {k : Kept} {x : Sp} {i : Int} {e : Ent} (h : Ks k x) (hm : x.q.save.length ≤ 800) (h0 : 0 ≤ x.r.snap.idx) (hi : i ≤ 4000000000000) : Ks k (x.takes i e) := by
  unfold Sp.takes
  split
  · exact h
  rename_i h1
  split
  · exact h
  split
  · rename_i h2 h3
    have hc : Ks k ((x.save [recC i]).log (x.r.log.take (i - x.r.snap.idx - 1).toNat)) := by
      obtain ⟨b1, b2⟩ := termAt_in h3
      unfold lastI at b2
      refine ⟨?_, fun y hy => ?_, ?_⟩
      · show (x.q.save ++ [recC i]).foldl foldRec k = _
        rw [List.foldl_append, h.fold]
        show foldRec (kof x.r) (recC i) = _
        have e1 : cutN (kof x.r) i = (i - x.r.snap.idx - 1).toNat := by
          unfold cutN
          rw [if_pos (by show x.r.snap.idx < i; omega)]
          show min x.r.log.length _ = _
          rw [show (kof x.r).snap.idx = x.r.snap.idx from rfl]
          omega
        rw [show foldRec (kof x.r) (recC i) = { kof x.r with entries := x.r.log.take (cutN (kof x.r) i) } from rfl, e1]; rfl
      · rcases List.mem_append.1 hy with h2 | h2
        · exact h.small y h2
        · rw [List.mem_singleton.1 h2]
          exact ⟨by show 0 ≤ i; omega, hi, by show (0 : Int) ≤ 0; omega, by show (0 : Int) ≤ _; omega⟩
      · show (x.q.save ++ [_]).length ≤ _
        simp; omega
    exact ks_entry hc (by show (x.q.save ++ [_]).length ≤ _; simp; omega)
  · exact ks_entry h (by omega)
theorem takes_savelen {x : Sp} {i : Int} {e : Ent} : (x.takes i e).q.save.length ≤ x.q.save.length + 2 ∧ (x.takes i e).r.snap = x.r.snap := by
  unfold Sp.takes
  split
  · exact ⟨by omega, rfl⟩
  split
  · exact ⟨by omega, rfl⟩
  split
  · exact ⟨by simp [Sp.save, Sp.log], rfl⟩
  · exact ⟨by simp [Sp.save, Sp.log], rfl⟩
theorem ks_takesAll {k : Kept} : ∀ (l : List Ent) {x : Sp} {i : Int}, Ks k x → x.q.save.length + 2 * l.length ≤ 800 → 0 ≤ x.r.snap.idx → i + l.length ≤ 4000000000000 → Ks k (x.takesAll i l)
  | [], _, _, h, _, _, _ => h
  | e :: l, x, i, h, hm, h0, hi => by
    simp only [List.length_cons] at hm hi
    obtain ⟨a, b⟩ := takes_savelen (x := x) (i := i) (e := e)
    exact ks_takesAll l (ks_takes h (by omega) h0 (by omega)) (by omega) (by rw [b]; exact h0) (by omega)
theorem takesAll_savelen : ∀ (l : List Ent) (x : Sp) (i : Int), (x.takesAll i l).q.save.length ≤ x.q.save.length + 2 * l.length
  | [], _, _ => by simp [Sp.takesAll]
  | e :: l, x, i => by
    have h1 := takesAll_savelen l (x.takes i e) (i + 1)
    obtain ⟨a, _⟩ := takes_savelen (x := x) (i := i) (e := e)
    show ((x.takes i e).takesAll (i + 1) l).q.save.length ≤ _
    simp only [List.length_cons]
    omega

/-- What a snapshot leaves of what there is. -/
theorem fold_snap {r : Raft} {s : Snp} {x : Sp} (hr : x.r = r) (h : r.snap.idx < s.idx) : foldRec (kof r) (recS s) = kof (x.shift s).r := by
  rw [show foldRec (kof r) (recS s) = if r.snap.idx < s.idx then (⟨r.term, r.vote, s, if s.idx - r.snap.idx ≤ r.log.length ∧ (r.log.getD (s.idx - r.snap.idx - 1).toNat Ent.none).term = s.term then r.log.drop (s.idx - r.snap.idx).toNat else []⟩ : Kept) else kof r from rfl, if_pos h]
  show (⟨r.term, r.vote, s, if s.idx - r.snap.idx ≤ r.log.length ∧ (r.log.getD (s.idx - r.snap.idx - 1).toNat Ent.none).term = s.term then r.log.drop (s.idx - r.snap.idx).toNat else []⟩ : Kept) = _
  unfold Sp.shift
  rw [hr]
  show _ = (⟨r.term, r.vote, s, if (termAt r s.idx).2 = true ∧ (termAt r s.idx).1 = s.term then r.log.drop (s.idx - r.snap.idx).toNat else []⟩ : Kept)
  congr 1
  by_cases h2 : s.idx ≤ lastI r
  · rw [termAt_mid h h2]
    have h3 : s.idx - r.snap.idx ≤ r.log.length := by unfold lastI at h2; omega
    simp [h3]
  · rw [termAt_out (.inr (by omega))]
    have h3 : ¬ s.idx - r.snap.idx ≤ r.log.length := by unfold lastI at h2; omega
    simp [h3]

theorem ks_snap1 {k : Kept} {x : Sp} {s : Snp} (h : Ks k x) (hm : x.q.save.length ≤ 900) (h1 : x.r.snap.idx < s.idx) (h0 : 0 ≤ s.idx) (h2 : s.idx ≤ 4000000000000) : Ks k ((x.save [recS s]).shift s) := by
  refine ⟨?_, fun y hy => ?_, ?_⟩
  · show (x.q.save ++ [recS s]).foldl foldRec k = _
    rw [List.foldl_append, h.fold]
    exact fold_snap (x := x.save [recS s]) rfl h1
  · rcases List.mem_append.1 hy with h3 | h3
    · exact h.small y h3
    · rw [List.mem_singleton.1 h3]
      exact ⟨by show (0 : Int) ≤ 0; omega, by show (0 : Int) ≤ _; omega, h0, h2⟩
  · show (x.q.save ++ [_]).length ≤ _
    simp; omega

theorem ks_gotAt {r : Raft} {m : Msg} : Ks (kof r) (gotAt r m) := by
  unfold gotAt
  split
  · have h0 : Kw (kof r) ({ (Rf.start r) with r := Rf.bare { r with term := m.term, vote := 0, role := 0, lead := 0 } } : Sp) := ⟨rfl, rfl, fun e he => (by cases he), by simp [Rf.start, Out.none]⟩
    exact ks_hard h0
  · exact ks_start r
theorem gotAt_save {r : Raft} {m : Msg} : (gotAt r m).q.save.length ≤ 1 := by
  unfold gotAt; split
  · show ([] ++ [_] : List Rec).length ≤ 1
    simp
  · show ([] : List Rec).length ≤ 1
    simp
theorem gotAt_snap {r : Raft} {m : Msg} : (gotAt r m).r.snap = r.snap ∧ (gotAt r m).r.commit = r.commit := by
  unfold gotAt; split <;> exact ⟨rfl, rfl⟩

theorem ks_done {k : Kept} {x : Sp} {m : Msg} (h : Ks k x) : Ks k (x.done m) := by
  by_cases hc : x.r.role ≠ 2 ∨ m.term ≠ x.r.term
  · have : x.done m = x := if_pos hc
    rw [this]; exact h
  · have h1 : x.r.role = 2 := by
      by_cases e : x.r.role = 2
      · exact e
      · exact absurd (.inl e) hc
    have h2 : m.term = x.r.term := by
      by_cases e : m.term = x.r.term
      · exact e
      · exact absurd (.inr e) hc
    obtain ⟨y, A, M, N, c, e1, e2, _, _, _, e5⟩ := done_spec h1 h2
    rw [e1]
    refine h.same ?_ ?_
    · show y.q.save = _
      exact e5
    · rw [answers_fields, e2]; rfl

/-- What a letter leaves. -/
theorem ks_got {r : Raft} {m : Msg} (lm : Lm m) (h0 : 0 ≤ r.snap.idx) (hc : r.snap.idx ≤ r.commit) : Ks (kof r) (got r m) := by
  have l1 := lm.index
  have l2 := lm.size
  have l3 := lm.snap0
  have l4 := lm.snap
  by_cases hm : mine r m = true
  · have ky := ks_gotAt (r := r) (m := m)
    have sy := gotAt_save (r := r) (m := m)
    obtain ⟨ysn, yco⟩ := gotAt_snap (r := r) (m := m)
    rw [got_mine hm]
    generalize gotAt r m = y at *
    split
    · unfold Sp.asked
      split
      · have h1 : Kw (kof r) ({ y with r := { y.r with vote := m.frm } } : Sp) := Kw.of ky (by omega) rfl rfl rfl
        exact (ks_hard h1).same rfl rfl
      · exact ky.same rfl rfl
    split
    · unfold Sp.voted
      split
      · exact ks_elects (x := { y with r := { y.r with votes := y.r.votes.set (m.frm - 1).toNat true } }) (ky.same rfl rfl) (by show y.q.save.length ≤ _; omega)
      · exact ky
    have kl : Ks (kof r) (y.led m).1 := by
      unfold Sp.led
      split
      · exact ky.same rfl rfl
      · exact ky.same rfl rfl
    have sl : (y.led m).1.q.save = y.q.save ∧ (y.led m).1.r.snap = y.r.snap ∧ (y.led m).1.r.commit = y.r.commit := by
      unfold Sp.led
      split <;> exact ⟨rfl, rfl, rfl⟩
    split
    · unfold Sp.appends
      split
      · exact kl
      · dsimp only
        split
        · exact kl.same rfl rfl
        · exact (ks_takesAll m.entries (i := m.index + 1) kl (by rw [sl.1]; omega) (by rw [sl.2.1, ysn]; exact h0) (by omega)).same rfl rfl
    split
    · unfold Sp.snaps
      split
      · exact kl
      · dsimp only
        split
        · rename_i h7
          have hlt : (y.led m).1.r.snap.idx < m.snap.idx := by
            rw [sl.2.2, yco] at h7
            rw [sl.2.1, ysn]
            omega
          rw [if_pos (show ((y.led m).1.save [recS m.snap]).r.snap.idx < m.snap.idx from hlt)]
          exact (ks_snap1 kl (by rw [sl.1]; omega) hlt l3 (by omega)).same rfl rfl
        · exact kl.same rfl rfl
    · exact ks_done ky
  · have : got r m = Rf.start r := if_pos (by simpa using hm)
    rw [this]; exact ks_start r

theorem foldl_ask_save (r : Raft) : ∀ (l : List Int) (x : Sp), (l.foldl (fun x to => x.send (askMsg r to)) x).q.save = x.q.save
  | [], _ => rfl
  | t :: l, x => foldl_ask_save r l (x.send (askMsg r t))
theorem ks_timeout {r : Raft} : Ks (kof r) (timeout r) := by
  unfold timeout
  split
  · exact ks_start r
  · have h1 : Kw (kof r) (Rf.start (stands r)) := ⟨rfl, rfl, fun e he => (by cases he), by simp [Rf.start, Out.none]⟩
    have h2 := ks_elects (ks_hard h1) (by show ([] ++ [_] : List Rec).length ≤ 900; simp)
    dsimp only
    split
    · exact h2
    · exact h2.same (foldl_ask_save _ _ _) (by rw [(askFold _ _ _).1])
theorem ks_propose {r : Raft} {d : List UInt8} (h : (propose r d).2 = true) : Ks (kof r) (propose r d).1 := by
  unfold propose at *
  split
  · exact ks_calls (ks_counts (ks_entry (ks_start r) (by simp [Rf.start, Out.none])))
  · rename_i hc
    rw [if_neg hc] at h
    cases h
theorem ks_compact {r : Raft} {d : List UInt8} (h0 : 0 ≤ r.snap.idx) (h1 : r.commit ≤ 4000000000000) : Ks (kof r) (compact r d) := by
  unfold compact
  split
  · rename_i h2
    have h3 := ks_snap1 (s := ⟨r.commit, (termAt r r.commit).1, d⟩) (ks_start r) (by simp [Rf.start, Out.none]) h2 (by show 0 ≤ r.commit; omega) h1
    exact h3.same rfl rfl
  · exact ks_start r
end Go.Proofs.Ytnbfffmdplcajaa
