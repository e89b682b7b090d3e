/- What taking entries comes to: each stands at its place, all before stay. -/
import Derived.Test.YtnbfffmdplcajaaLawKit
namespace Go.Proofs.Ytnbfffmdplcajaa
open Go.Vc Go.Vc.Rf

theorem lastI_ge {r : Raft} : r.snap.idx ≤ lastI r := by unfold lastI; omega

/-- One entry taken. -/
theorem takes_spec {s : Sp} {i : Int} {e : Ent} (h : i ≤ lastI s.r + 1) :
    (s.takes i e).r.snap = s.r.snap ∧ (s.takes i e).r.commit = s.r.commit ∧ i ≤ lastI (s.takes i e).r ∧ (s.r.snap.idx < i → termAt (s.takes i e).r i = (e.term, true)) ∧ ∀ k, k < i → termAt (s.takes i e).r k = termAt s.r k := by
  have hge := lastI_ge (r := s.r)
  by_cases h1 : i ≤ s.r.snap.idx
  · have e0 : s.takes i e = s := if_pos h1
    rw [e0]
    exact ⟨rfl, rfl, by omega, fun h => by omega, fun _ _ => rfl⟩
  by_cases h2 : (termAt s.r i).2 = true ∧ (termAt s.r i).1 = e.term
  · have e0 : s.takes i e = s := by unfold Sp.takes; rw [if_neg h1, if_pos h2]
    rw [e0]
    obtain ⟨b1, b2⟩ := termAt_in h2.1
    exact ⟨rfl, rfl, b2, fun _ => Prod.ext h2.2 h2.1, fun _ _ => rfl⟩
  -- the log that stands ahead of it
  obtain ⟨L, hL, hlen, hpre⟩ : ∃ L : List Ent, (s.takes i e).r = { s.r with log := L ++ [e] } ∧ (L.length : Int) = i - s.r.snap.idx - 1 ∧ ∀ j, j < L.length → L[j]? = s.r.log[j]? := by
    by_cases h3 : (termAt s.r i).2 = true
    · obtain ⟨b1, b2⟩ := termAt_in h3
      refine ⟨s.r.log.take (i - s.r.snap.idx - 1).toNat, ?_, ?_, fun j hj => ?_⟩
      · unfold Sp.takes
        rw [if_neg h1, if_neg h2]
        simp only [h3, if_true]
        rfl
      · unfold lastI at b2
        rw [List.length_take]; omega
      · rw [List.length_take] at hj
        rw [List.getElem?_take_of_lt (by omega)]
    · refine ⟨s.r.log, ?_, ?_, fun _ _ => rfl⟩
      · unfold Sp.takes
        rw [if_neg h1, if_neg h2, if_neg h3]
        rfl
      · have : lastI s.r < i := by
          by_cases h4 : i ≤ lastI s.r
          · exact absurd (termAt_is (by omega) h4) h3
          · omega
        unfold lastI at this h
        omega
  rw [hL]
  have hla : lastI ({ s.r with log := L ++ [e] } : Raft) = i := by
    unfold lastI
    simp only [List.length_append, List.length_cons, List.length_nil]
    omega
  refine ⟨rfl, rfl, by omega, fun _ => ?_, fun k hk => ?_⟩
  · rw [termAt_mid (by show s.r.snap.idx < i; omega) (by omega)]
    show (((L ++ [e]).getD (i - s.r.snap.idx - 1).toNat Ent.none).term, true) = _
    rw [List.getD_eq_getElem?_getD, List.getElem?_append_right (by omega), show (i - s.r.snap.idx - 1).toNat - L.length = 0 by omega]
    rfl
  · by_cases k1 : k < s.r.snap.idx
    · rw [termAt_out (.inl k1), termAt_out (r := ({ s.r with log := L ++ [e] } : Raft)) (.inl k1)]
    · by_cases k2 : k = s.r.snap.idx
      · rw [termAt_snap k2, termAt_snap (r := ({ s.r with log := L ++ [e] } : Raft)) k2]
      · rw [termAt_mid (r := ({ s.r with log := L ++ [e] } : Raft)) (by show s.r.snap.idx < k; omega) (by omega), termAt_mid (r := s.r) (by omega) (by omega)]
        show (((L ++ [e]).getD (k - s.r.snap.idx - 1).toNat Ent.none).term, true) = _
        rw [List.getD_eq_getElem?_getD, List.getElem?_append_left (by omega), hpre _ (by omega), List.getD_eq_getElem?_getD]

theorem takesAll_spec : ∀ (l : List Ent) {s : Sp} {i : Int}, i ≤ lastI s.r + 1 →
    (s.takesAll i l).r.snap = s.r.snap ∧ (s.takesAll i l).r.commit = s.r.commit ∧ i + l.length ≤ lastI (s.takesAll i l).r + 1 ∧
      (∀ j : Nat, j < l.length → s.r.snap.idx < i + j → termAt (s.takesAll i l).r (i + j) = ((l.getD j Ent.none).term, true)) ∧ ∀ k, k < i → termAt (s.takesAll i l).r k = termAt s.r k
  | [], s, i, h => ⟨rfl, rfl, by simpa [Sp.takesAll] using h, fun j hj => by simp at hj, fun _ _ => rfl⟩
  | e :: l, s, i, h => by
    obtain ⟨a1, a2, a3, a4, a5⟩ := takes_spec (e := e) h
    obtain ⟨b1, b2, b3, b4, b5⟩ := takesAll_spec l (s := s.takes i e) (i := i + 1) (by omega)
    have ee : s.takesAll i (e :: l) = (s.takes i e).takesAll (i + 1) l := rfl
    rw [ee]
    refine ⟨b1.trans a1, b2.trans a2, by simp only [List.length_cons]; omega, fun j hj hij => ?_, fun k hk => by rw [b5 k (by omega), a5 k hk]⟩
    cases j with
    | zero =>
      have hz : i + ((0 : Nat) : Int) = i := by omega
      rw [hz] at hij ⊢
      rw [b5 i (by omega), a4 hij]
      rfl
    | succ j =>
      have := b4 j (by simpa using hj) (by rw [a1]; omega)
      have hz : i + ((j + 1 : Nat) : Int) = i + 1 + j := by omega
      rw [hz, this]
      rfl

/-- What a letter of a leader comes to. -/
theorem got_appends {r : Raft} {m : Msg} (hm : mine r m = true) (hk : m.kind = 3) (ht : r.term ≤ m.term) (hf : Fit r) (lm : Lm m) :
    ∃ x, (got r m).q.send = [x] ∧ x.kind = 4 ∧ x.round = m.round ∧ (got r m).r.role = 0 ∧ (got r m).r.lead = m.frm ∧
      (x.ok = false → (got r m).r.log = r.log ∧ (got r m).r.commit = r.commit ∧ (m.index = 0 ∨ x.index < m.index)) ∧
      (x.ok = true → x.index = m.index + m.entries.length ∧ r.commit ≤ (got r m).r.commit ∧ (got r m).r.snap = r.snap ∧ lastI (got r m).r ≤ 9000000000000000000 ∧
        ∀ j : Nat, j < m.entries.length → r.snap.idx < m.index + 1 + j → termAt (got r m).r (m.index + 1 + j) = ((m.entries.getD j Ent.none).term, true)) := by
  have eg := got_mine hm
  have l1 := lm.index0
  rw [if_neg (by omega), if_neg (by omega), if_pos hk] at eg
  have hby := bd_gotAt hf.bd lm
  have ylog : (gotAt r m).r.log = r.log := by unfold gotAt; split <;> rfl
  have ysnap : (gotAt r m).r.snap = r.snap := by unfold gotAt; split <;> rfl
  have ycom : (gotAt r m).r.commit = r.commit := by unfold gotAt; split <;> rfl
  have ysend : (gotAt r m).q.send = [] := by unfold gotAt; split <;> rfl
  have hterm : ¬ m.term < (gotAt r m).r.term := by
    unfold gotAt; split
    · show ¬ m.term < m.term; omega
    · show ¬ m.term < r.term; omega
  generalize gotAt r m = y at *
  have hled : y.led m = (({ y with r := { y.r with role := 0, lead := m.frm } } : Sp).bare, true) := if_neg hterm
  have hbz : Bd 101 (({ y with r := { y.r with role := 0, lead := m.frm } } : Sp).bare) := by
    have := hby.led (by rw [hled] : (y.led m).2 = true)
    rwa [hled] at this
  have zlog : (({ y with r := { y.r with role := 0, lead := m.frm } } : Sp).bare).r.log = r.log := ylog
  have zsnap : (({ y with r := { y.r with role := 0, lead := m.frm } } : Sp).bare).r.snap = r.snap := ysnap
  have zcom : (({ y with r := { y.r with role := 0, lead := m.frm } } : Sp).bare).r.commit = r.commit := ycom
  have zsend : (({ y with r := { y.r with role := 0, lead := m.frm } } : Sp).bare).q.send = [] := ysend
  have zrole : (({ y with r := { y.r with role := 0, lead := m.frm } } : Sp).bare).r.role = 0 := rfl
  have zlead : (({ y with r := { y.r with role := 0, lead := m.frm } } : Sp).bare).r.lead = m.frm := rfl
  have e0 : got r m = if (({ y with r := { y.r with role := 0, lead := m.frm } } : Sp).bare).r.snap.idx ≤ m.index ∧ ((termAt (({ y with r := { y.r with role := 0, lead := m.frm } } : Sp).bare).r m.index).2 = false ∨ (termAt (({ y with r := { y.r with role := 0, lead := m.frm } } : Sp).bare).r m.index).1 ≠ m.logTerm) then
      (({ y with r := { y.r with role := 0, lead := m.frm } } : Sp).bare).send { Msg.none with kind := 4, dest := m.frm, index := min (lastI (({ y with r := { y.r with role := 0, lead := m.frm } } : Sp).bare).r) (max m.index 1 - 1), round := m.round } else appended (({ y with r := { y.r with role := 0, lead := m.frm } } : Sp).bare) m := by
    rw [eg]
    unfold Sp.appends
    rw [hled, if_neg (by simp)]
    rfl
  generalize (({ y with r := { y.r with role := 0, lead := m.frm } } : Sp).bare) = z at *
  by_cases hc : z.r.snap.idx ≤ m.index ∧ ((termAt z.r m.index).2 = false ∨ (termAt z.r m.index).1 ≠ m.logTerm)
  · rw [if_pos hc] at e0
    rw [e0]
    refine ⟨{ Msg.none with kind := 4, frm := z.r.id, term := z.r.term, dest := m.frm, index := min (lastI z.r) (max m.index 1 - 1), round := m.round }, by show z.q.send ++ [_] = _; rw [zsend]; rfl, rfl, rfl, zrole, zlead, fun _ => ⟨zlog, zcom, ?_⟩, fun h => (by cases h)⟩
    by_cases h0 : m.index = 0
    · exact .inl h0
    · right
      show min (lastI z.r) (max m.index 1 - 1) < m.index
      omega
  · rw [if_neg hc] at e0
    rw [e0]
    have hin : m.index + 1 ≤ lastI z.r + 1 := by
      by_cases h1 : z.r.snap.idx ≤ m.index
      · have h2 : (termAt z.r m.index).2 = true := by
          cases h3 : (termAt z.r m.index).2 with
          | true => rfl
          | false => exact absurd ⟨h1, .inl h3⟩ hc
        have := (termAt_in h2).2
        omega
      · have := lastI_ge (r := z.r)
        omega
    obtain ⟨a1, a2, a3, a4, a5⟩ := takesAll_spec m.entries hin
    have hbt := (Bd.takesAll m.entries (i := m.index + 1) hbz).last
    have trole : ∀ (l : List Ent) (x : Sp) (i : Int), (x.takesAll i l).r.role = x.r.role ∧ (x.takesAll i l).r.lead = x.r.lead ∧ (x.takesAll i l).q.send = x.q.send := by
      intro l
      induction l with
      | nil => intro x i; exact ⟨rfl, rfl, rfl⟩
      | cons e l ih =>
        intro x i
        have h1 := ih (x.takes i e) (i + 1)
        have h2 : (x.takes i e).r.role = x.r.role ∧ (x.takes i e).r.lead = x.r.lead ∧ (x.takes i e).q.send = x.q.send := by
          unfold Sp.takes
          split
          · exact ⟨rfl, rfl, rfl⟩
          split
          · exact ⟨rfl, rfl, rfl⟩
          split <;> exact ⟨rfl, rfl, rfl⟩
        exact ⟨h1.1.trans h2.1, h1.2.1.trans h2.2.1, h1.2.2.trans h2.2.2⟩
    obtain ⟨t1, t2, t3⟩ := trole m.entries z (m.index + 1)
    have hsz := lm.size
    refine ⟨{ Msg.none with kind := 4, frm := (z.takesAll (m.index + 1) m.entries).r.id, term := (z.takesAll (m.index + 1) m.entries).r.term, dest := m.frm, ok := true, index := m.index + m.entries.length, round := m.round }, by show (z.takesAll (m.index + 1) m.entries).q.send ++ [_] = _; rw [t3, zsend]; rfl, rfl, rfl, t1.trans zrole, t2.trans zlead, fun h => (by cases h), fun _ => ⟨rfl, ?_, a1.trans zsnap, ?_, fun j hj hij => ?_⟩⟩
    · show r.commit ≤ max (z.takesAll (m.index + 1) m.entries).r.commit _
      rw [a2, zcom]
      omega
    · show lastI (z.takesAll (m.index + 1) m.entries).r ≤ _
      omega
    · exact a4 j hj (by rw [zsnap]; exact hij)
end Go.Proofs.Ytnbfffmdplcajaa
