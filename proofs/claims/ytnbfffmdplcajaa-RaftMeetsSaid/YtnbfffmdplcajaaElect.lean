/- Three nodes, one of which times out, is voted for, and commits: each state, plainly. -/
import Derived.Test.YtnbfffmdplcajaaLawKit
namespace Go.Vc.Rf
open Go.Proofs.Ytnbfffmdplcajaa

def eT : Ent := ⟨10, []⟩
def kpL (L : List Ent) : Kept := ⟨9, 0, Snp.none, L⟩
def tlL (L : List Ent) : Int := match L.getLast? with | some e => e.term | none => 0
def elA1 (L : List Ent) : Raft := { Raft.none with term := 10, vote := 1, id := 1, n := 3, log := L, role := 1, votes := [true, false, false] }
def elAsk (L : List Ent) (w : Int) : Msg := { Msg.none with kind := 1, frm := 1, dest := w, term := 10, index := L.length, logTerm := tlL L }
def elB1 (L : List Ent) (w : Int) : Raft := { Raft.none with term := 10, vote := 1, id := w, n := 3, log := L }
def elVote (w : Int) : Msg := { Msg.none with kind := 2, frm := w, dest := 1, term := 10, ok := true }
def elA2 (L : List Ent) : Raft := { Raft.none with term := 10, vote := 1, id := 1, n := 3, log := L ++ [eT], role := 2, lead := 1, next := [L.length + 1, L.length + 1, L.length + 1], mat := [0, 0, 0], acks := [0, 0, 0], round := 1 }
def elApp (L : List Ent) (w : Int) : Msg := { Msg.none with kind := 3, frm := 1, dest := w, term := 10, index := L.length, logTerm := tlL L, entries := [eT], round := 1 }
def elB2 (L : List Ent) (w : Int) : Raft := { Raft.none with term := 10, vote := 1, id := w, n := 3, log := L ++ [eT], lead := 1 }
def elDone (L : List Ent) (w : Int) : Msg := { Msg.none with kind := 4, frm := w, dest := 1, term := 10, ok := true, index := L.length + 1, round := 1 }
def elA3 (L : List Ent) (w : Int) : Raft :=
  { elA2 L with mat := [(0 : Int), 0, 0].set (w - 1).toNat (L.length + 1), next := [(L.length : Int) + 1, L.length + 1, L.length + 1].set (w - 1).toNat (L.length + 1 + 1), acks := [(0 : Int), 0, 0].set (w - 1).toNat 1, commit := L.length + 1 }
def elBeat (L : List Ent) (w : Int) : Msg := { Msg.none with kind := 3, frm := 1, dest := w, term := 10, index := L.length + 1, logTerm := 10, commit := L.length + 1, round := 2 }
def elB3 (L : List Ent) (w : Int) : Raft := { elB2 L w with commit := L.length + 1 }

theorem el_timeout (L : List Ent) : (timeout (newR 1 3 (kpL L))).r = elA1 L ∧ (timeout (newR 1 3 (kpL L))).q.send = [elAsk L 2, elAsk L 3] := by
  have e : (timeout (newR 1 3 (kpL L))) = (((Rf.start (stands (newR 1 3 (kpL L)))).hard.send (askMsg (stands (newR 1 3 (kpL L))) 2)).send (askMsg (stands (newR 1 3 (kpL L))) 3)) := rfl
  rw [e]
  refine ⟨rfl, ?_⟩
  show [_, _] = _
  have h1 : lastI (stands (newR 1 3 (kpL L))) = L.length := by show (0 : Int) + L.length = _; omega
  simp only [askMsg, h1]
  rfl

theorem el_vote1 {L : List Ent} {w : Int} (e : got (newR w 3 (kpL L)) (elAsk L w) = Sp.asked ((Rf.start (newR w 3 (kpL L))).follows 10) (elAsk L w)) : (got (newR w 3 (kpL L)) (elAsk L w)).r = elB1 L w ∧ (got (newR w 3 (kpL L)) (elAsk L w)).q.send = [elVote w] := by
  have h1 : lastI ((Rf.start (newR w 3 (kpL L))).follows 10).r = L.length := by show (0 : Int) + L.length = _; omega
  have h2 : lastT ((Rf.start (newR w 3 (kpL L))).follows 10).r = tlL L := rfl
  have g : grants ((Rf.start (newR w 3 (kpL L))).follows 10).r (elAsk L w) = true := by
    unfold grants fresh
    rw [h1, h2]
    have a1 : ((elAsk L w).logTerm == tlL L) = true := beq_self_eq_true (tlL L)
    have a2 : decide ((L.length : Int) ≤ (elAsk L w).index) = true := decide_eq_true (Int.le_refl _)
    rw [a1, a2]
    simp only [Bool.and_self, Bool.or_true, Bool.and_true]
    rfl
  rw [e]
  unfold Sp.asked
  rw [g]
  exact ⟨rfl, rfl⟩
theorem el_vote {L : List Ent} {w : Int} (hw : w = 2 ∨ w = 3) : (got (newR w 3 (kpL L)) (elAsk L w)).r = elB1 L w ∧ (got (newR w 3 (kpL L)) (elAsk L w)).q.send = [elVote w] := by
  rcases hw with rfl | rfl <;> exact el_vote1 rfl

theorem getD_last {L : List Ent} : (L ++ [eT]).getD L.length Ent.none = eT := by
  rw [List.getD_eq_getElem?_getD, List.getElem?_append_right (Nat.le_refl _), Nat.sub_self]
  rfl
theorem getD_mid {L : List Ent} {k : Nat} (h : k < L.length) : (L ++ [eT]).getD k Ent.none = L.getD k Ent.none := by
  rw [List.getD_eq_getElem?_getD, List.getElem?_append_left h, List.getD_eq_getElem?_getD]
/-- The term of what stands ahead of the last. -/
theorem tl_mid {r : Raft} {L : List Ent} (hs : r.snap = Snp.none) (hl : r.log = L ∨ r.log = L ++ [eT]) : termAt r L.length = (tlL L, true) := by
  have h0 : r.snap.idx = 0 := by rw [hs]; rfl
  cases L with
  | nil => rw [termAt_snap (by rw [h0]; rfl), hs]; rfl
  | cons e t =>
    have hle : ((e :: t).length : Int) ≤ lastI r := by
      unfold lastI
      rcases hl with h | h <;> rw [h, h0] <;> simp
      omega
    rw [termAt_mid (by rw [h0]; simp) hle, h0]
    have e1 : (((e :: t).length : Int) - 0 - 1).toNat = t.length := by simp
    have e2 : r.log.getD t.length Ent.none = (e :: t).getD t.length Ent.none := by
      rcases hl with h | h <;> rw [h]
      exact getD_mid (by simp)
    rw [e1, e2]
    congr 1
    unfold tlL
    rw [List.getLast?_eq_getElem?, List.getD_eq_getElem?_getD]
    show _ = match (e :: t)[t.length + 1 - 1]? with | some e => e.term | none => 0
    rw [Nat.add_sub_cancel, List.getElem?_eq_getElem (by simp)]
    rfl
theorem tl_last {r : Raft} {L : List Ent} (hs : r.snap = Snp.none) (hl : r.log = L ++ [eT]) : termAt r (L.length + 1) = (10, true) := by
  have h0 : r.snap.idx = 0 := by rw [hs]; rfl
  rw [termAt_mid (by rw [h0]; omega) (by unfold lastI; rw [hl, h0]; simp), h0, hl]
  have e1 : ((L.length : Int) + 1 - 0 - 1).toNat = L.length := by omega
  rw [e1, getD_last]
  rfl

/-- Of a term that is past nothing is committed. -/
theorem counts_old {r : Raft} {L : List Ent} (hl : r.log = L ++ [eT]) (ht : r.term = 10) (hL : ∀ e ∈ L, e.term ≤ 9) : ∀ k, k ≤ L.length → countsFrom r k = r.commit
  | 0, _ => rfl
  | k + 1, hk => by
    unfold countsFrom
    have hn : ((r.log.getD k Ent.none).term == r.term) = false := by
      rw [hl, getD_mid (by omega), ht, List.getD_eq_getElem?_getD, List.getElem?_eq_getElem (by omega)]
      have := hL _ (List.getElem_mem (show k < L.length by omega))
      apply beq_false_of_ne
      show L[k].term ≠ 10
      omega
    rw [hn, Bool.false_and]
    split
    · rfl
    · rw [if_neg (by simp), counts_old hl ht hL k (by omega)]

theorem sends_app {x : Sp} {to : Int} (h : ¬ nth x.r.next (to - 1) ≤ x.r.snap.idx) :
    x.sends to = x.send { Msg.none with kind := 3, dest := to, index := nth x.r.next (to - 1) - 1, logTerm := (termAt x.r (nth x.r.next (to - 1) - 1)).1, entries := x.r.log.drop (min (nth x.r.next (to - 1) - 1 - x.r.snap.idx) x.r.log.length).toNat, commit := x.r.commit, round := x.r.round } := if_neg h
theorem drop_last {L : List Ent} : (L ++ [eT]).drop (min ((L.length : Int) + 1 - 1 - 0) ((L ++ [eT]).length : Nat)).toNat = [eT] := by
  have e : (min ((L.length : Int) + 1 - 1 - 0) ((L ++ [eT]).length : Nat)).toNat = L.length := by simp only [List.length_append, List.length_cons, List.length_nil]; omega
  rw [e, List.drop_left]
theorem drop_all {L : List Ent} : (L ++ [eT]).drop (min ((L.length : Int) + 1 + 1 - 1 - 0) ((L ++ [eT]).length : Nat)).toNat = [] := by
  have e : (min ((L.length : Int) + 1 + 1 - 1 - 0) ((L ++ [eT]).length : Nat)).toNat = (L ++ [eT]).length := by simp only [List.length_append, List.length_cons, List.length_nil]; omega
  rw [e, List.drop_length]
theorem el_sends {x : Sp} {L : List Ent} {w : Int} (hx : x.r = elA2 L) (hw : w = 2 ∨ w = 3) : x.sends w = x.send (elApp L w) := by
  have hn : nth x.r.next (w - 1) = L.length + 1 := by rw [hx]; rcases hw with rfl | rfl <;> rfl
  have hs : x.r.snap.idx = 0 := by rw [hx]; rfl
  rw [sends_app (by rw [hn, hs]; omega), hn, show (L.length : Int) + 1 - 1 = L.length by omega, tl_mid (L := L) (by rw [hx]; rfl) (.inr (by rw [hx]; rfl)), hs]
  have hd : x.r.log.drop (min ((L.length : Int) - 0) x.r.log.length).toNat = [eT] := by
    rw [hx, ← drop_last (L := L)]
    show (L ++ [eT]).drop _ = (L ++ [eT]).drop _
    rw [show (L.length : Int) + 1 - 1 - 0 = (L.length : Int) - 0 by omega]
    rfl
  rw [hd, hx]
  rfl

/-- The first entry of its own term, ahead of the count. -/
def elPut (L : List Ent) (v : List Bool) : Sp := (({ Rf.start { elA1 L with votes := v } with r := Rf.lead { elA1 L with votes := v } } : Sp).put [])
theorem el_count {L : List Ent} {v : List Bool} (hL : ∀ e ∈ L, e.term ≤ 9) : countsFrom (elPut L v).r (elPut L v).r.log.length = 0 := by
  have hlen : (elPut L v).r.log.length = L.length + 1 := by show (L ++ [eT]).length = _; simp
  rw [hlen]
  unfold countsFrom
  split
  · rfl
  · have hc : countsAt (elPut L v).r ((elPut L v).r.snap.idx + ((L.length + 1 : Nat) : Int)) = false := by
      have h0 : (elPut L v).r.snap.idx = 0 := rfl
      have hn : ∀ i : Int, nth (elPut L v).r.mat i = 0 := by
        intro i
        show [(0 : Int), 0, 0].getD i.toNat 0 = 0
        rcases i.toNat with _ | _ | _ | k <;> simp
      unfold countsAt
      simp only [hn, h0]
      have hd : decide ((0 : Int) + ((L.length + 1 : Nat) : Int) ≤ 0) = false := decide_eq_false (by omega)
      rw [hd]
      rfl
    rw [hc, Bool.and_false, if_neg (by simp), counts_old (L := L) rfl rfl hL L.length (Nat.le_refl _)]
    rfl
theorem el_lead1 {L : List Ent} {w : Int} {v : List Bool} (hL : ∀ e ∈ L, e.term ≤ 9) (e : got (elA1 L) (elVote w) = (elPut L v).counts.calls) : (got (elA1 L) (elVote w)).r = elA2 L ∧ (got (elA1 L) (elVote w)).q.send = [elApp L 2, elApp L 3] := by
  rw [e]
  have ec : (elPut L v).counts = (elPut L v).commit 0 := by unfold Sp.counts; rw [el_count hL]
  rw [ec]
  have ef : ((elPut L v).commit 0).calls = (Sp.sends (Sp.sends (((elPut L v).commit 0).round 1) 2) 3).answers := rfl
  rw [ef]
  have hx : (((elPut L v).commit 0).round 1).r = elA2 L := by
    have h0 : lastI (elA1 L) = L.length := by show (0 : Int) + L.length = _; omega
    show ({ bare (elA1 L) with role := 2, lead := 1, round := 1, log := L ++ [eT], commit := 0, next := [lastI (elA1 L) + 1, lastI (elA1 L) + 1, lastI (elA1 L) + 1], mat := [0, 0, 0], acks := [0, 0, 0] } : Raft) = _
    rw [h0]; rfl
  rw [el_sends hx (.inl rfl), el_sends (x := (((elPut L v).commit 0).round 1).send (elApp L 2)) hx (.inr rfl)]
  have hq : (((elPut L v).commit 0).round 1).q.send = [] := rfl
  generalize (((elPut L v).commit 0).round 1) = y at *
  obtain ⟨r, q⟩ := y
  cases hx
  refine ⟨rfl, ?_⟩
  show (q.send ++ [_]) ++ [_] = _
  rw [show q.send = [] from hq]
  rfl
theorem el_lead {L : List Ent} {w : Int} (hw : w = 2 ∨ w = 3) (hL : ∀ e ∈ L, e.term ≤ 9) : (got (elA1 L) (elVote w)).r = elA2 L ∧ (got (elA1 L) (elVote w)).q.send = [elApp L 2, elApp L 3] := by
  rcases hw with rfl | rfl
  · exact el_lead1 (v := [true, true, false]) hL rfl
  · exact el_lead1 (v := [true, false, true]) hL rfl

/-- The entry taken. -/
theorem el_take1 {L : List Ent} {w : Int} (e : got (elB1 L w) (elApp L w) = Sp.appends (Rf.start (elB1 L w)) (elApp L w)) : (got (elB1 L w) (elApp L w)).r = elB2 L w ∧ (got (elB1 L w) (elApp L w)).q.send = [elDone L w] := by
  rw [e]
  unfold Sp.appends
  have hl : (Rf.start (elB1 L w)).led (elApp L w) = (⟨{ elB1 L w with lead := 1 }, Out.none⟩, true) := rfl
  rw [hl]
  rw [if_neg (by simp)]
  have ht : termAt { elB1 L w with lead := 1 } (elApp L w).index = (tlL L, true) := tl_mid rfl (.inl rfl)
  simp only [ht]
  rw [if_neg (by intro h; rcases h.2 with h | h; cases h; exact h rfl)]
  have hk : Sp.takesAll (⟨{ elB1 L w with lead := 1 }, Out.none⟩ : Sp) ((elApp L w).index + 1) (elApp L w).entries = ⟨elB2 L w, { Out.none with save := [recE eT] }⟩ := by
    show Sp.takes (⟨{ elB1 L w with lead := 1 }, Out.none⟩ : Sp) ((L.length : Int) + 1) eT = _
    unfold Sp.takes
    rw [if_neg (by show ¬ (L.length : Int) + 1 ≤ 0; omega)]
    rw [termAt_out (.inr (by show (0 : Int) + L.length < _; omega))]
    rw [if_neg (by simp), if_neg (by simp)]
    rfl
  rw [hk]
  refine ⟨?_, rfl⟩
  show ({ elB2 L w with commit := max 0 (min 0 ((L.length : Int) + 1)) } : Raft) = _
  rw [show max 0 (min 0 ((L.length : Int) + 1)) = 0 by omega]
  rfl
theorem el_take {L : List Ent} {w : Int} (hw : w = 2 ∨ w = 3) : (got (elB1 L w) (elApp L w)).r = elB2 L w ∧ (got (elB1 L w) (elApp L w)).q.send = [elDone L w] := by
  rcases hw with rfl | rfl <;> exact el_take1 rfl

theorem el_done {L : List Ent} {w : Int} (hw : w = 2 ∨ w = 3) : (got (elA2 L) (elDone L w)).r = elA3 L w := by
  have e : got (elA2 L) (elDone L w) = Sp.done (Rf.start (elA2 L)) (elDone L w) := by rcases hw with rfl | rfl <;> rfl
  rw [e]
  have hla : lastI (elA2 L) = L.length + 1 := by show (0 : Int) + (L ++ [eT]).length = _; simp
  unfold Sp.done
  rw [if_neg (by rintro (h | h) <;> exact h rfl)]
  have hm : max ((elA2 L).mat.getD ((elDone L w).frm - 1).toNat 0) (min (elDone L w).index (lastI (elA2 L))) = L.length + 1 := by
    have h0 : (elA2 L).mat.getD ((elDone L w).frm - 1).toNat 0 = 0 := by rcases hw with rfl | rfl <;> rfl
    rw [h0, hla]
    show max 0 (min ((L.length : Int) + 1) (L.length + 1)) = _
    omega
  have ha : max ((elA2 L).acks.getD ((elDone L w).frm - 1).toNat 0) (elDone L w).round = 1 := by rcases hw with rfl | rfl <;> rfl
  simp only [Rf.start, hm, ha]
  rw [if_pos (by rfl), hla, if_neg (by omega)]
  have hcnt : countsFrom { elA2 L with acks := (elA2 L).acks.set ((elDone L w).frm - 1).toNat 1, mat := (elA2 L).mat.set ((elDone L w).frm - 1).toNat (L.length + 1), next := (elA2 L).next.set ((elDone L w).frm - 1).toNat (L.length + 1 + 1) } (L ++ [eT]).length = L.length + 1 := by
    have hlen : (L ++ [eT]).length = L.length + 1 := by simp
    rw [hlen]
    unfold countsFrom
    rw [if_neg (by show ¬ (0 : Int) + ((L.length + 1 : Nat) : Int) ≤ 0; omega)]
    have h1 : (((elA2 L).log.getD L.length Ent.none).term == (elA2 L).term) = true := by
      show (((L ++ [eT]).getD L.length Ent.none).term == 10) = true
      rw [getD_last]; rfl
    have h2 : countsAt { elA2 L with acks := (elA2 L).acks.set ((elDone L w).frm - 1).toNat 1, mat := (elA2 L).mat.set ((elDone L w).frm - 1).toNat (L.length + 1), next := (elA2 L).next.set ((elDone L w).frm - 1).toNat (L.length + 1 + 1) } ((elA2 L).snap.idx + ((L.length + 1 : Nat) : Int)) = true := by
      show countsAt { elA2 L with acks := (elA2 L).acks.set ((elDone L w).frm - 1).toNat 1, mat := (elA2 L).mat.set ((elDone L w).frm - 1).toNat (L.length + 1), next := (elA2 L).next.set ((elDone L w).frm - 1).toNat (L.length + 1 + 1) } (0 + ((L.length + 1 : Nat) : Int)) = true
      have hd : decide ((0 : Int) + ((L.length + 1 : Nat) : Int) ≤ (L.length : Int) + 1) = true := decide_eq_true (by omega)
      have hz : decide ((0 : Int) + ((L.length + 1 : Nat) : Int) ≤ 0) = false := decide_eq_false (by omega)
      unfold countsAt most
      have ho : ∀ (a b c : List Int), others { elA2 L with acks := a, mat := b, next := c } = [2, 3] := fun _ _ _ => rfl
      simp only [ho, List.countP_cons, List.countP_nil]
      rcases hw with rfl | rfl
      · have n1 : nth ((elA2 L).mat.set ((elDone L 2).frm - 1).toNat ((L.length : Int) + 1)) (2 - 1) = (L.length : Int) + 1 := rfl
        have n2 : nth ((elA2 L).mat.set ((elDone L 2).frm - 1).toNat ((L.length : Int) + 1)) (3 - 1) = 0 := rfl
        simp only [n1, n2, hd, hz]
        rfl
      · have n1 : nth ((elA2 L).mat.set ((elDone L 3).frm - 1).toNat ((L.length : Int) + 1)) (2 - 1) = 0 := rfl
        have n2 : nth ((elA2 L).mat.set ((elDone L 3).frm - 1).toNat ((L.length : Int) + 1)) (3 - 1) = (L.length : Int) + 1 := rfl
        simp only [n1, n2, hd, hz]
        rfl
    rw [h1, h2, if_pos (by rfl)]
    show (0 : Int) + ((L.length + 1 : Nat) : Int) = _
    omega
  unfold Sp.counts
  show ({ elA2 L with acks := (elA2 L).acks.set ((elDone L w).frm - 1).toNat 1, mat := (elA2 L).mat.set ((elDone L w).frm - 1).toNat (L.length + 1), next := (elA2 L).next.set ((elDone L w).frm - 1).toNat (L.length + 1 + 1), commit := countsFrom { elA2 L with acks := (elA2 L).acks.set ((elDone L w).frm - 1).toNat 1, mat := (elA2 L).mat.set ((elDone L w).frm - 1).toNat (L.length + 1), next := (elA2 L).next.set ((elDone L w).frm - 1).toNat (L.length + 1 + 1) } (L ++ [eT]).length, reads := [] } : Raft) = _
  rw [hcnt]
  rfl

theorem el_beatTo {x : Sp} {L : List Ent} {w : Int} (hx : x.r = { elA3 L w with round := 2 }) (hw : w = 2 ∨ w = 3) : x.sends w = x.send (elBeat L w) := by
  have hn : nth x.r.next (w - 1) = L.length + 1 + 1 := by rw [hx]; rcases hw with rfl | rfl <;> rfl
  have hs : x.r.snap.idx = 0 := by rw [hx]; rfl
  rw [sends_app (by rw [hn, hs]; omega), hn, show (L.length : Int) + 1 + 1 - 1 = L.length + 1 by omega, tl_last (L := L) (by rw [hx]; rfl) (by rw [hx]; rfl), hs]
  have hd : x.r.log.drop (min ((L.length : Int) + 1 - 0) x.r.log.length).toNat = [] := by
    rw [hx, ← drop_all (L := L)]
    show (L ++ [eT]).drop _ = (L ++ [eT]).drop _
    rw [show (L.length : Int) + 1 + 1 - 1 - 0 = (L.length : Int) + 1 - 0 by omega]
    rfl
  rw [hd, hx]
  rfl
theorem el_other {x : Sp} {L : List Ent} {w v : Int} (hx : x.r = { elA3 L w with round := 2 }) (hw : w = 2 ∧ v = 3 ∨ w = 3 ∧ v = 2) : ∃ m, x.sends v = x.send m := by
  have hn : nth x.r.next (v - 1) = L.length + 1 := by rw [hx]; rcases hw with ⟨rfl, rfl⟩ | ⟨rfl, rfl⟩ <;> rfl
  have hs : x.r.snap.idx = 0 := by rw [hx]; rfl
  exact ⟨_, sends_app (by rw [hn, hs]; omega)⟩
/-- The beat after. -/
theorem el_beat {L : List Ent} {w : Int} (hw : w = 2 ∨ w = 3) : (beat (elA3 L w)).r = { elA3 L w with round := 2 } ∧ ∃ l, (beat (elA3 L w)).q.send = l ∧ l.length = 2 ∧ l[(w - 2).toNat]? = some (elBeat L w) := by
  have e : beat (elA3 L w) = (Sp.sends (Sp.sends (((Rf.start (elA3 L w)).round 2)) 2) 3).answers := by rcases hw with rfl | rfl <;> rfl
  rw [e]
  have hx : ((Rf.start (elA3 L w)).round 2).r = { elA3 L w with round := 2 } := rfl
  rcases hw with rfl | rfl
  · rw [el_beatTo hx (.inl rfl)]
    obtain ⟨m, hm⟩ := el_other (x := ((Rf.start (elA3 L 2)).round 2).send (elBeat L 2)) (w := 2) (v := 3) rfl (.inl ⟨rfl, rfl⟩)
    rw [hm]
    exact ⟨rfl, _, rfl, rfl, rfl⟩
  · obtain ⟨m, hm⟩ := el_other (x := (Rf.start (elA3 L 3)).round 2) (w := 3) (v := 2) rfl (.inr ⟨rfl, rfl⟩)
    rw [hm, el_beatTo (x := ((Rf.start (elA3 L 3)).round 2).send m) (w := 3) rfl (.inr rfl)]
    exact ⟨rfl, _, rfl, rfl, rfl⟩

theorem el_end1 {L : List Ent} {w : Int} (e : got (elB2 L w) (elBeat L w) = Sp.appends (Rf.start (elB2 L w)) (elBeat L w)) : (got (elB2 L w) (elBeat L w)).r = elB3 L w := by
  rw [e]
  unfold Sp.appends
  have hl : (Rf.start (elB2 L w)).led (elBeat L w) = (⟨elB2 L w, Out.none⟩, true) := rfl
  rw [hl]
  rw [if_neg (by simp)]
  have ht : termAt (elB2 L w) (elBeat L w).index = (10, true) := tl_last rfl rfl
  simp only [ht]
  rw [if_neg (by intro h; rcases h.2 with h | h; cases h; exact h rfl)]
  show ({ elB2 L w with commit := max 0 (min ((L.length : Int) + 1) ((L.length : Int) + 1 + 0)) } : Raft) = _
  rw [show max 0 (min ((L.length : Int) + 1) ((L.length : Int) + 1 + 0)) = (L.length : Int) + 1 by omega]
  rfl
theorem el_end {L : List Ent} {w : Int} (hw : w = 2 ∨ w = 3) : (got (elB2 L w) (elBeat L w)).r = elB3 L w := by
  rcases hw with rfl | rfl <;> exact el_end1 rfl

/-- What fits, of so small a raft. -/
theorem el_fit {r : Raft} (h0 : r.snap = Snp.none) (hl : r.log.length ≤ 100) (t0 : 0 ≤ r.term) (t : r.term ≤ 100) (r0 : 0 ≤ r.round) (r1 : r.round ≤ 100) (hm : ∀ x ∈ r.mat, 0 ≤ x ∧ x ≤ 1000) (hn : ∀ x ∈ r.next, 0 ≤ x ∧ x ≤ 1000) (hr : r.reads = []) (n : r.n ≤ 7)
    (lv : r.votes.length ≤ 10) (ln : r.next.length ≤ 10) (lm : r.mat.length ≤ 10) (la : r.acks.length ≤ 10) : Fit r := by
  have hi : r.snap.idx = 0 := by rw [h0]; rfl
  exact ⟨⟨by show 0 ≤ r.snap.idx; omega, by show lastI r ≤ _; unfold lastI; omega, t0, by show r.term ≤ _; omega, r0, by show r.round ≤ _; omega, fun x hx => ⟨(hm x hx).1, by have := (hm x hx).2; omega⟩, fun x hx => ⟨(hn x hx).1, by have := (hn x hx).2; omega⟩,
    by show r.log.length ≤ _; omega, by show r.reads.length ≤ _; rw [hr]; simp, n, by simp [Rf.start, Out.none], by simp [Rf.start, Out.none], by simp [Rf.start, Out.none]⟩, by omega, by omega, by omega, by omega, by omega, by rw [hr]; simp⟩
theorem el_nil {α : Type} {p : α → Prop} : ∀ x ∈ ([] : List α), p x := fun _ h => (by cases h)
theorem el_fitA1 {L : List Ent} (h : L.length ≤ 10) : Fit (elA1 L) := el_fit rfl (by show L.length ≤ _; omega) (of_decide_eq_true rfl) (of_decide_eq_true rfl) (of_decide_eq_true rfl) (of_decide_eq_true rfl) el_nil el_nil rfl (of_decide_eq_true rfl) (of_decide_eq_true rfl) (of_decide_eq_true rfl) (of_decide_eq_true rfl) (of_decide_eq_true rfl)
theorem el_fitB1 {L : List Ent} {w : Int} (h : L.length ≤ 10) : Fit (elB1 L w) := el_fit rfl (by show L.length ≤ _; omega) (of_decide_eq_true rfl) (of_decide_eq_true rfl) (of_decide_eq_true rfl) (of_decide_eq_true rfl) el_nil el_nil rfl (of_decide_eq_true rfl) (of_decide_eq_true rfl) (of_decide_eq_true rfl) (of_decide_eq_true rfl) (of_decide_eq_true rfl)
theorem el_fitA2 {L : List Ent} (h : L.length ≤ 10) : Fit (elA2 L) := by
  refine el_fit rfl (by show (L ++ [eT]).length ≤ _; simp; omega) (of_decide_eq_true rfl) (of_decide_eq_true rfl) (of_decide_eq_true rfl) (of_decide_eq_true rfl) (fun x hx => ?_) (fun x hx => ?_) rfl (of_decide_eq_true rfl) (of_decide_eq_true rfl) (of_decide_eq_true rfl) (of_decide_eq_true rfl) (of_decide_eq_true rfl)
  · have hx : x ∈ [(0 : Int), 0, 0] := hx
    simp at hx; omega
  · have hx : x ∈ [(L.length : Int) + 1, L.length + 1, L.length + 1] := hx
    simp at hx; omega
theorem el_fitB2 {L : List Ent} {w : Int} (h : L.length ≤ 10) : Fit (elB2 L w) := el_fit rfl (by show (L ++ [eT]).length ≤ _; simp; omega) (of_decide_eq_true rfl) (of_decide_eq_true rfl) (of_decide_eq_true rfl) (of_decide_eq_true rfl) el_nil el_nil rfl (of_decide_eq_true rfl) (of_decide_eq_true rfl) (of_decide_eq_true rfl) (of_decide_eq_true rfl) (of_decide_eq_true rfl)
theorem el_fitA3 {L : List Ent} {w : Int} (hw : w = 2 ∨ w = 3) (h : L.length ≤ 10) : Fit (elA3 L w) := by
  refine el_fit rfl (by show (L ++ [eT]).length ≤ _; simp; omega) (of_decide_eq_true rfl) (of_decide_eq_true rfl) (of_decide_eq_true rfl) (of_decide_eq_true rfl) (fun x hx => ?_) (fun x hx => ?_) rfl (of_decide_eq_true rfl) (of_decide_eq_true rfl) ?_ ?_ ?_
  · rcases hw with rfl | rfl
    · have hx : x ∈ [(0 : Int), L.length + 1, 0] := hx
      simp at hx; omega
    · have hx : x ∈ [(0 : Int), 0, L.length + 1] := hx
      simp at hx; omega
  · rcases hw with rfl | rfl
    · have hx : x ∈ [(L.length : Int) + 1, L.length + 1 + 1, L.length + 1] := hx
      simp at hx; omega
    · have hx : x ∈ [(L.length : Int) + 1, L.length + 1, L.length + 1 + 1] := hx
      simp at hx; omega
  · rcases hw with rfl | rfl <;> show 3 ≤ 10 <;> omega
  · rcases hw with rfl | rfl <;> show 3 ≤ 10 <;> omega
  · rcases hw with rfl | rfl <;> show 3 ≤ 10 <;> omega
theorem el_lmAsk {L : List Ent} {w : Int} (h : L.length ≤ 10) : Lm (elAsk L w) := by constructor <;> simp [elAsk, Msg.none, Snp.none] <;> omega
theorem el_lmVote {w : Int} : Lm (elVote w) := by constructor <;> simp [elVote, Msg.none, Snp.none]
theorem el_lmApp {L : List Ent} {w : Int} (h : L.length ≤ 10) : Lm (elApp L w) := by constructor <;> simp [elApp, Msg.none, Snp.none] <;> omega
theorem el_lmDone {L : List Ent} {w : Int} (h : L.length ≤ 10) : Lm (elDone L w) := by constructor <;> simp [elDone, Msg.none, Snp.none] <;> omega
theorem el_lmBeat {L : List Ent} {w : Int} (h : L.length ≤ 10) : Lm (elBeat L w) := by constructor <;> simp [elBeat, Msg.none, Snp.none] <;> omega
end Go.Vc.Rf
