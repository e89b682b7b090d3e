/- A leader and one that follows: each state on the way to one log, plainly. -/
import Derived.Test.YtnbfffmdplcajaaElect
namespace Go.Vc.Rf
open Go.Proofs.Ytnbfffmdplcajaa

/-- The term at a place of a log, from one on; nought ahead of it. -/
def mtT (X : List Ent) : Nat → Int
  | 0 => 0
  | q + 1 => (X.getD q Ent.none).term
def mtA1 (L : List Ent) : Raft := { Raft.none with term := 10, vote := 1, id := 1, n := 2, log := L, role := 1, votes := [true, false] }
def mtVote : Msg := { Msg.none with kind := 2, frm := 2, dest := 1, term := 10, ok := true }
def mtA (L : List Ent) (p : Nat) (c : Int) : Raft := { Raft.none with term := 10, vote := 1, id := 1, n := 2, log := L ++ [eT], role := 2, lead := 1, next := [(L.length : Int) + 1, (p : Int) + 1], mat := [0, 0], acks := [0, c], round := 1 }
def mtApp (L : List Ent) (p : Nat) : Msg := { Msg.none with kind := 3, frm := 1, dest := 2, term := 10, index := p, logTerm := mtT L p, entries := (L ++ [eT]).drop p, round := 1 }
def mtB (M : List Ent) (t ld : Int) : Raft := { Raft.none with term := t, id := 2, n := 2, log := M, lead := ld }
def mtNay (y : Nat) : Msg := { Msg.none with kind := 4, frm := 2, dest := 1, term := 10, index := y, round := 1 }
def mtB2 (L : List Ent) : Raft := mtB (L ++ [eT]) 10 1
def mtDone (L : List Ent) : Msg := { Msg.none with kind := 4, frm := 2, dest := 1, term := 10, ok := true, index := L.length + 1, round := 1 }
def mtA3 (L : List Ent) : Raft := { Raft.none with term := 10, vote := 1, id := 1, n := 2, log := L ++ [eT], role := 2, lead := 1, next := [(L.length : Int) + 1, (L.length : Int) + 1 + 1], mat := [0, (L.length : Int) + 1], acks := [0, 1], round := 1, commit := L.length + 1 }
def mtBeat (L : List Ent) : Msg := { Msg.none with kind := 3, frm := 1, dest := 2, term := 10, index := L.length + 1, logTerm := 10, commit := L.length + 1, round := 2 }

theorem mt_new (id : Int) (M : List Ent) : newR id 2 (kpL M) = { Raft.none with term := 9, id := id, n := 2, log := M } := rfl
theorem mt_timeout (L : List Ent) : (timeout (newR 1 2 (kpL L))).r = mtA1 L := rfl

theorem mtT_mid {L : List Ent} {p : Nat} (h : p ≤ L.length) : mtT (L ++ [eT]) p = mtT L p := by
  cases p with
  | zero => rfl
  | succ q => show ((L ++ [eT]).getD q Ent.none).term = (L.getD q Ent.none).term; rw [getD_mid (by omega)]
theorem mt_termAt {r : Raft} {p : Nat} (hs : r.snap = Snp.none) (h : p ≤ r.log.length) : termAt r p = (mtT r.log p, true) := by
  have h0 : r.snap.idx = 0 := by rw [hs]; rfl
  cases p with
  | zero => rw [termAt_snap (by rw [h0]; rfl), hs]; rfl
  | succ q =>
    rw [termAt_mid (by rw [h0]; omega) (by unfold lastI; rw [h0]; omega)]
    show ((r.log.getD _ Ent.none).term, true) = _
    rw [show (((q + 1 : Nat) : Int) - r.snap.idx - 1).toNat = q by rw [h0]; omega]
    rfl

theorem mt_sends {x : Sp} {L : List Ent} {p : Nat} {c : Int} (hx : x.r = mtA L p c) (hp : p ≤ L.length) : x.sends 2 = x.send (mtApp L p) := by
  have hn : nth x.r.next (2 - 1) = p + 1 := by rw [hx]; rfl
  have hs : x.r.snap.idx = 0 := by rw [hx]; rfl
  have hlg : x.r.log = L ++ [eT] := by rw [hx]; rfl
  rw [sends_app (by rw [hn, hs]; omega), hn, show (p : Int) + 1 - 1 = p by omega, mt_termAt (by rw [hx]; rfl) (by rw [hlg]; simp; omega), hs, hlg, mtT_mid hp]
  rw [show (min ((p : Int) - 0) ((L ++ [eT]).length : Nat)).toNat = p by simp only [List.length_append, List.length_cons, List.length_nil]; omega]
  rw [hx]
  rfl

/-- The leader, ahead of the count. -/
def mtPut (L : List Ent) : Sp := (({ Rf.start { mtA1 L with votes := [true, true] } with r := Rf.lead { mtA1 L with votes := [true, true] } } : Sp).put [])
theorem mt_count {L : List Ent} (hL : ∀ e ∈ L, e.term ≤ 9) : countsFrom (mtPut L).r (mtPut L).r.log.length = 0 := by
  have hlen : (mtPut L).r.log.length = L.length + 1 := by show (L ++ [eT]).length = _; simp
  rw [hlen]
  unfold countsFrom
  split
  · rfl
  · have hc : countsAt (mtPut L).r ((mtPut L).r.snap.idx + ((L.length + 1 : Nat) : Int)) = false := by
      have h0 : (mtPut L).r.snap.idx = 0 := rfl
      have hn : ∀ i : Int, nth (mtPut L).r.mat i = 0 := by
        intro i
        show [(0 : Int), 0].getD i.toNat 0 = 0
        rcases i.toNat with _ | _ | k <;> simp
      unfold countsAt
      simp only [hn, h0]
      have hd : decide ((0 : Int) + ((L.length + 1 : Nat) : Int) ≤ 0) = false := decide_eq_false (by omega)
      rw [hd]
      rfl
    rw [hc, Bool.and_false, if_neg (by simp), counts_old (L := L) rfl rfl hL L.length (Nat.le_refl _)]
    rfl
theorem mt_lead {L : List Ent} (hL : ∀ e ∈ L, e.term ≤ 9) : (got (mtA1 L) mtVote).r = mtA L L.length 0 ∧ (got (mtA1 L) mtVote).q.send = [mtApp L L.length] := by
  have e : got (mtA1 L) mtVote = (mtPut L).counts.calls := rfl
  rw [e]
  have ec : (mtPut L).counts = (mtPut L).commit 0 := by unfold Sp.counts; rw [mt_count hL]
  rw [ec]
  have ef : ((mtPut L).commit 0).calls = (Sp.sends (((mtPut L).commit 0).round 1) 2).answers := rfl
  rw [ef]
  have hx : (((mtPut L).commit 0).round 1).r = mtA L L.length 0 := by
    have h0 : lastI (mtA1 L) = L.length := by show (0 : Int) + L.length = _; omega
    show ({ bare (mtA1 L) with role := 2, lead := 1, round := 1, log := L ++ [eT], commit := 0, next := [lastI (mtA1 L) + 1, lastI (mtA1 L) + 1], mat := [0, 0], acks := [0, 0] } : Raft) = _
    rw [h0]; rfl
  rw [mt_sends hx (Nat.le_refl _)]
  have hq : (((mtPut L).commit 0).round 1).q.send = [] := rfl
  generalize (((mtPut L).commit 0).round 1) = y at *
  obtain ⟨r, q⟩ := y
  cases hx
  refine ⟨rfl, ?_⟩
  show (q.send ++ [_]) = _
  rw [show q.send = [] from hq]
  rfl

/-! what one that follows takes up -/
/-- So far it has what the leader has; it has just that, or its own log, none of it of the leader's term. -/
structure Fol (N : List Ent) (s : Sp) (p : Nat) : Prop where
  idx : s.r.snap = Snp.none
  len : p ≤ s.r.log.length
  same : s.r.log.take p = N.take p
  rest : s.r.log = N.take p ∨ ((∀ e ∈ s.r.log, e.term ≤ 9) ∧ ∀ j : Nat, j < N.length → j < s.r.log.length → (N.getD j Ent.none).term = (s.r.log.getD j Ent.none).term → N.take (j + 1) = s.r.log.take (j + 1))

theorem take_getD {N : List Ent} {p : Nat} (h : p < N.length) : N.take (p + 1) = N.take p ++ [N.getD p Ent.none] := by
  rw [List.take_succ_eq_append_getElem h, List.getD_eq_getElem?_getD, List.getElem?_eq_getElem h]; rfl

theorem fol_take {N : List Ent} {s : Sp} {p : Nat} (f : Fol N s p) (hp : p < N.length) :
    Fol N (s.takes (p + 1) (N.getD p Ent.none)) (p + 1) ∧ (s.takes (p + 1) (N.getD p Ent.none)).r = { s.r with log := (s.takes (p + 1) (N.getD p Ent.none)).r.log } ∧ (s.takes (p + 1) (N.getD p Ent.none)).q.send = s.q.send := by
  have h0 : s.r.snap.idx = 0 := by rw [f.idx]; rfl
  have hlen := f.len
  have n1 : ¬ (p : Int) + 1 ≤ s.r.snap.idx := by omega
  have new : ∀ t : Sp, t.r = { s.r with log := N.take (p + 1) } → t.q.send = s.q.send → Fol N t (p + 1) ∧ t.r = { s.r with log := t.r.log } ∧ t.q.send = s.q.send := fun t ht hq =>
    ⟨⟨by rw [ht]; exact f.idx, by rw [ht]; simp; omega, by rw [ht]; show List.take (p + 1) (List.take (p + 1) N) = _; rw [List.take_take, Nat.min_self], .inl (by rw [ht])⟩, by rw [ht], hq⟩
  by_cases hl : p < s.r.log.length
  · have ht : termAt s.r ((p : Int) + 1) = ((s.r.log.getD p Ent.none).term, true) := mt_termAt (p := p + 1) f.idx hl
    by_cases he : (s.r.log.getD p Ent.none).term = (N.getD p Ent.none).term
    · have e0 : s.takes (p + 1) (N.getD p Ent.none) = s := by unfold Sp.takes; rw [if_neg n1, ht, if_pos ⟨rfl, he⟩]
      rw [e0]
      refine ⟨⟨f.idx, hl, ?_, ?_⟩, rfl, rfl⟩
      · rcases f.rest with h | h
        · rw [h, List.length_take] at hl; omega
        · exact (h.2 p hp hl he.symm).symm
      · rcases f.rest with h | h
        · rw [h, List.length_take] at hl; omega
        · exact .inr h
    · have e0 : s.takes (p + 1) (N.getD p Ent.none) = ((s.save [recC (p + 1)]).log (s.r.log.take p ++ [N.getD p Ent.none])).save [recE (N.getD p Ent.none)] := by
        unfold Sp.takes
        rw [if_neg n1, ht, if_neg fun h => he h.2]
        dsimp only
        rw [if_pos rfl, show ((p : Int) + 1 - s.r.snap.idx - 1).toNat = p by omega]
        rfl
      rw [e0]
      refine new _ ?_ rfl
      show ({ s.r with log := s.r.log.take p ++ [N.getD p Ent.none] } : Raft) = _
      rw [f.same, take_getD hp]
  · have ht : termAt s.r ((p : Int) + 1) = (0, false) := termAt_out (.inr (by unfold lastI; omega))
    have e0 : s.takes (p + 1) (N.getD p Ent.none) = (s.log (s.r.log ++ [N.getD p Ent.none])).save [recE (N.getD p Ent.none)] := by
      unfold Sp.takes
      rw [if_neg n1, ht, if_neg fun h => by cases h.1]
      dsimp only
      rw [if_neg (by simp)]
    rw [e0]
    refine new _ ?_ rfl
    show ({ s.r with log := s.r.log ++ [N.getD p Ent.none] } : Raft) = _
    have : s.r.log = N.take p := by
      have := f.same
      rwa [List.take_of_length_le (by omega)] at this
    rw [take_getD hp, ← this]

theorem fol_all {N : List Ent} : ∀ (n p : Nat) (s : Sp), p + n = N.length → Fol N s p → Fol N (s.takesAll (p + 1) (N.drop p)) N.length ∧ (s.takesAll (p + 1) (N.drop p)).r = { s.r with log := (s.takesAll (p + 1) (N.drop p)).r.log } ∧ (s.takesAll (p + 1) (N.drop p)).q.send = s.q.send
  | 0, p, s, h, f => by
    have : p = N.length := by omega
    subst this
    rw [List.drop_length]
    exact ⟨f, rfl, rfl⟩
  | n + 1, p, s, h, f => by
    have hp : p < N.length := by omega
    have hd : N.drop p = N.getD p Ent.none :: N.drop (p + 1) := by
      rw [List.drop_eq_getElem_cons hp, List.getD_eq_getElem?_getD, List.getElem?_eq_getElem hp]; rfl
    obtain ⟨f1, r1, q1⟩ := fol_take f hp
    have := fol_all n (p + 1) (s.takes (p + 1) (N.getD p Ent.none)) (by omega) f1
    obtain ⟨f2, r2, q2⟩ := this
    rw [hd]
    show Fol N ((s.takes (p + 1) (N.getD p Ent.none)).takesAll ((p : Int) + 1 + 1) (N.drop (p + 1))) N.length ∧ ((s.takes (p + 1) (N.getD p Ent.none)).takesAll ((p : Int) + 1 + 1) (N.drop (p + 1))).r = { s.r with log := ((s.takes (p + 1) (N.getD p Ent.none)).takesAll ((p : Int) + 1 + 1) (N.drop (p + 1))).r.log } ∧ ((s.takes (p + 1) (N.getD p Ent.none)).takesAll ((p : Int) + 1 + 1) (N.drop (p + 1))).q.send = s.q.send
    have ec : (((p + 1 : Nat) : Int) + 1) = (p : Int) + 1 + 1 := by omega
    rw [ec] at f2 r2 q2
    refine ⟨f2, ?_, q2.trans q1⟩
    rw [r1] at r2
    exact r2

theorem fol_end {L : List Ent} {t : Sp} (f : Fol (L ++ [eT]) t (L ++ [eT]).length) : t.r.log = L ++ [eT] := by
  rcases f.rest with h | h
  · rw [h, List.take_length]
  · have h1 := f.same
    rw [List.take_length] at h1
    have : eT ∈ t.r.log := List.mem_of_mem_take (i := (L ++ [eT]).length) (by rw [h1]; simp)
    have := h.1 _ this
    exact absurd this (by decide)

/-- What the statement takes of two logs. -/
structure Two (L M : List Ent) : Prop where
  l : L.length ≤ 15
  m : M.length ≤ 15
  lt : ∀ e ∈ L, e.term ≤ 9
  mt : ∀ e ∈ M, e.term ≤ 9
  pre : ∀ j : Nat, j < L.length → j < M.length → (L.getD j Ent.none).term = (M.getD j Ent.none).term → L.take (j + 1) = M.take (j + 1)

/-- Has it what is asked for? -/
def mtHas (L M : List Ent) (p : Nat) : Prop := p ≤ M.length ∧ mtT M p = mtT L p

theorem two_fol {L M : List Ent} {s : Sp} {p : Nat} (h : Two L M) (hs : s.r.snap = Snp.none) (hl : s.r.log = M) (hp : p ≤ L.length) (hh : mtHas L M p) : Fol (L ++ [eT]) s p := by
  obtain ⟨h1, h2⟩ := hh
  have tk : ∀ q, q ≤ L.length → (L ++ [eT]).take q = L.take q := fun q hq => List.take_append_of_le_length hq
  have gd : ∀ {q : Nat}, q < M.length → M.getD q Ent.none = M[q]?.getD Ent.none := fun _ => List.getD_eq_getElem?_getD
  refine ⟨hs, by rw [hl]; exact h1, ?_, .inr ⟨by rw [hl]; exact h.mt, fun j hj hjM he => ?_⟩⟩
  · rw [hl, tk p hp]
    cases p with
    | zero => rfl
    | succ q => exact (h.pre q (by omega) (by omega) h2.symm).symm
  · rw [hl] at hjM he ⊢
    by_cases e : j < L.length
    · rw [getD_mid e] at he
      rw [tk (j + 1) (by omega)]
      exact h.pre j e hjM he
    · have hj' : j = L.length := by simp at hj; omega
      subst hj'
      rw [getD_last] at he
      have : (M.getD L.length Ent.none).term ≤ 9 := by
        rw [List.getD_eq_getElem?_getD, List.getElem?_eq_getElem hjM]
        exact h.mt _ (List.getElem_mem hjM)
      rw [← he] at this
      exact absurd this (by decide)

theorem mt_appends {L M : List Ent} {y : Sp} {ld : Int} {p : Nat} (hr : y.r = mtB M 10 ld) : y.appends (mtApp L p) = (let s : Sp := ⟨mtB M 10 1, y.q⟩
    if s.r.snap.idx ≤ (p : Int) ∧ ((termAt s.r p).2 = false ∨ (termAt s.r p).1 ≠ mtT L p) then
      s.send { Msg.none with kind := 4, dest := 1, index := min (lastI s.r) (max (p : Int) 1 - 1), round := 1 }
    else
      let t := s.takesAll ((p : Int) + 1) ((L ++ [eT]).drop p)
      (t.commit (max t.r.commit (min 0 ((p : Int) + ((L ++ [eT]).drop p).length)))).send { Msg.none with kind := 4, dest := 1, ok := true, index := (p : Int) + ((L ++ [eT]).drop p).length, round := 1 }) := by
  have hl : y.led (mtApp L p) = (⟨mtB M 10 1, y.q⟩, true) := by
    obtain ⟨r, q⟩ := y
    cases hr
    rfl
  unfold Sp.appends
  rw [hl]
  exact if_neg (by simp)

theorem mt_got {L M : List Ent} {t ld : Int} {p : Nat} (ht : t = 9 ∧ ld = 0 ∨ t = 10 ∧ ld = 1) : ∃ y : Sp, got (mtB M t ld) (mtApp L p) = y.appends (mtApp L p) ∧ y.r = mtB M 10 ld ∧ y.q.send = [] := by
  rcases ht with ⟨rfl, rfl⟩ | ⟨rfl, rfl⟩
  · exact ⟨(Rf.start (mtB M 9 0)).follows 10, rfl, rfl, rfl⟩
  · exact ⟨Rf.start (mtB M 10 1), rfl, rfl, rfl⟩

/-- Refused. -/
theorem mt_nay {L M : List Ent} {t ld : Int} {p : Nat} (ht : t = 9 ∧ ld = 0 ∨ t = 10 ∧ ld = 1) (hn : ¬ mtHas L M p) : 1 ≤ p ∧ (got (mtB M t ld) (mtApp L p)).r = mtB M 10 1 ∧ (got (mtB M t ld) (mtApp L p)).q.send = [mtNay (min M.length (p - 1))] := by
  have hp : 1 ≤ p := by
    cases p with
    | zero => exact absurd ⟨Nat.zero_le _, rfl⟩ hn
    | succ q => omega
  obtain ⟨y, e, hr, hq⟩ := mt_got (L := L) (M := M) (p := p) ht
  rw [e, mt_appends hr]
  have hc : (mtB M 10 1).snap.idx ≤ (p : Int) ∧ ((termAt (mtB M 10 1) p).2 = false ∨ (termAt (mtB M 10 1) p).1 ≠ mtT L p) := by
    refine ⟨by show (0 : Int) ≤ p; omega, ?_⟩
    by_cases h : p ≤ M.length
    · right
      rw [mt_termAt (p := p) rfl h]
      exact fun h2 => hn ⟨h, h2⟩
    · left
      rw [termAt_out (.inr (by show (0 : Int) + M.length < _; omega))]
  dsimp only
  rw [if_pos hc]
  refine ⟨hp, rfl, ?_⟩
  show y.q.send ++ [_] = _
  rw [hq]
  have hi : min (lastI (mtB M 10 1)) (max (p : Int) 1 - 1) = ((min M.length (p - 1) : Nat) : Int) := by
    show min ((0 : Int) + M.length) (max (p : Int) 1 - 1) = _
    omega
  rw [hi]
  rfl

/-- Taken. -/
theorem mt_yea {L M : List Ent} {t ld : Int} {p : Nat} (h : Two L M) (hp : p ≤ L.length) (ht : t = 9 ∧ ld = 0 ∨ t = 10 ∧ ld = 1) (hn : mtHas L M p) : (got (mtB M t ld) (mtApp L p)).r = mtB2 L ∧ (got (mtB M t ld) (mtApp L p)).q.send = [mtDone L] := by
  obtain ⟨y, e, hr, hq⟩ := mt_got (L := L) (M := M) (p := p) ht
  rw [e, mt_appends hr]
  have hc : ¬ ((mtB M 10 1).snap.idx ≤ (p : Int) ∧ ((termAt (mtB M 10 1) p).2 = false ∨ (termAt (mtB M 10 1) p).1 ≠ mtT L p)) := by
    rw [mt_termAt (p := p) rfl hn.1]
    rintro ⟨_, h2 | h2⟩
    · cases h2
    · exact h2 hn.2
  dsimp only
  rw [if_neg hc]
  obtain ⟨f, hfr, hfq⟩ := fol_all (L.length + 1 - p) p ⟨mtB M 10 1, y.q⟩ (by simp; omega) (two_fol h rfl rfl hp hn)
  have hlog := fol_end f
  rw [hlog] at hfr
  have hd : ((L ++ [eT]).drop p).length = L.length + 1 - p := by simp
  have hi : (p : Int) + ((L ++ [eT]).drop p).length = (L.length : Int) + 1 := by rw [hd]; omega
  rw [hi]
  generalize (⟨mtB M 10 1, y.q⟩ : Sp).takesAll ((p : Int) + 1) ((L ++ [eT]).drop p) = z at *
  obtain ⟨r, q⟩ := z
  cases hfr
  refine ⟨?_, ?_⟩
  · show ({ mtB2 L with commit := max 0 (min 0 ((L.length : Int) + 1)) } : Raft) = _
    rw [show max 0 (min 0 ((L.length : Int) + 1)) = 0 by omega]
    rfl
  · show q.send ++ [_] = _
    rw [show q.send = [] from hfq.trans hq]
    rfl

/-! what the leader makes of it -/
theorem mt_back {L : List Ent} {p y : Nat} {c : Int} (hc : c = 0 ∨ c = 1) (hp : p ≤ L.length) (hy : y < p) : (got (mtA L p c) (mtNay y)).r = mtA L y 1 ∧ (got (mtA L p c) (mtNay y)).q.send = [mtApp L y] := by
  have e : got (mtA L p c) (mtNay y) = Sp.done (Rf.start (mtA L p c)) (mtNay y) := rfl
  rw [e]
  unfold Sp.done
  rw [if_neg (by rintro (h | h) <;> exact h rfl)]
  have ha : max ((mtA L p c).acks.getD ((mtNay y).frm - 1).toNat 0) (mtNay y).round = 1 := by
    show max c 1 = 1
    omega
  have hx : max ((mtNay y).index + 1) ((mtA L p c).mat.getD ((mtNay y).frm - 1).toNat 0 + 1) = (y : Int) + 1 := by
    show max ((y : Int) + 1) (0 + 1) = _
    omega
  simp only [Rf.start, ha, hx]
  rw [if_neg (by intro h; cases h), if_pos (by show (y : Int) + 1 < (p : Int) + 1; omega)]
  have hm := mt_sends (x := ⟨mtA L y 1, Out.none⟩) (c := 1) rfl (show y ≤ L.length by omega)
  have hz : (({ r := { mtA L p c with acks := (mtA L p c).acks.set ((mtNay y).frm - 1).toNat 1, next := (mtA L p c).next.set ((mtNay y).frm - 1).toNat ((y : Int) + 1) }, q := Out.none } : Sp)) = ⟨mtA L y 1, Out.none⟩ := rfl
  show (Sp.answers (Sp.sends ⟨{ mtA L p c with acks := (mtA L p c).acks.set ((mtNay y).frm - 1).toNat 1, next := (mtA L p c).next.set ((mtNay y).frm - 1).toNat ((y : Int) + 1) }, Out.none⟩ 2)).r = _ ∧ (Sp.answers (Sp.sends ⟨{ mtA L p c with acks := (mtA L p c).acks.set ((mtNay y).frm - 1).toNat 1, next := (mtA L p c).next.set ((mtNay y).frm - 1).toNat ((y : Int) + 1) }, Out.none⟩ 2)).q.send = _
  rw [hz, hm]
  exact ⟨rfl, rfl⟩

theorem mt_done {L : List Ent} {p : Nat} {c : Int} (hc : c = 0 ∨ c = 1) : (got (mtA L p c) (mtDone L)).r = mtA3 L ∧ (got (mtA L p c) (mtDone L)).q.send = [] := by
  have e : got (mtA L p c) (mtDone L) = Sp.done (Rf.start (mtA L p c)) (mtDone L) := rfl
  rw [e]
  have hla : lastI (mtA L p c) = L.length + 1 := by show (0 : Int) + (L ++ [eT]).length = _; simp
  unfold Sp.done
  rw [if_neg (by rintro (h | h) <;> exact h rfl)]
  have hm : max ((mtA L p c).mat.getD ((mtDone L).frm - 1).toNat 0) (min (mtDone L).index (lastI (mtA L p c))) = L.length + 1 := by
    rw [hla]
    show max 0 (min ((L.length : Int) + 1) (L.length + 1)) = _
    omega
  have ha : max ((mtA L p c).acks.getD ((mtDone L).frm - 1).toNat 0) (mtDone L).round = 1 := by
    show max c 1 = 1
    omega
  simp only [Rf.start, hm, ha]
  rw [if_pos (by rfl), hla, if_neg (by omega)]
  have hcnt : countsFrom { mtA L p c with acks := (mtA L p c).acks.set ((mtDone L).frm - 1).toNat 1, mat := (mtA L p c).mat.set ((mtDone L).frm - 1).toNat (L.length + 1), next := (mtA L p c).next.set ((mtDone L).frm - 1).toNat (L.length + 1 + 1) } (L ++ [eT]).length = L.length + 1 := by
    have hlen : (L ++ [eT]).length = L.length + 1 := by simp
    rw [hlen]
    unfold countsFrom
    rw [if_neg (by show ¬ (0 : Int) + ((L.length + 1 : Nat) : Int) ≤ 0; omega)]
    have h1 : (((mtA L p c).log.getD L.length Ent.none).term == (mtA L p c).term) = true := by
      show (((L ++ [eT]).getD L.length Ent.none).term == 10) = true
      rw [getD_last]; rfl
    have h2 : countsAt { mtA L p c with acks := (mtA L p c).acks.set ((mtDone L).frm - 1).toNat 1, mat := (mtA L p c).mat.set ((mtDone L).frm - 1).toNat (L.length + 1), next := (mtA L p c).next.set ((mtDone L).frm - 1).toNat (L.length + 1 + 1) } ((mtA L p c).snap.idx + ((L.length + 1 : Nat) : Int)) = true := by
      have hd : decide ((mtA L p c).snap.idx + ((L.length + 1 : Nat) : Int) ≤ (L.length : Int) + 1) = true := decide_eq_true (by show (0 : Int) + ((L.length + 1 : Nat) : Int) ≤ _; omega)
      unfold countsAt most
      have ho : ∀ (a b c' : List Int), others { mtA L p c with acks := a, mat := b, next := c' } = [2] := fun _ _ _ => rfl
      simp only [ho, List.countP_cons, List.countP_nil]
      have n1 : nth ((mtA L p c).mat.set ((mtDone L).frm - 1).toNat ((L.length : Int) + 1)) (2 - 1) = (L.length : Int) + 1 := rfl
      simp only [n1, hd]
      rfl
    rw [h1, h2, if_pos (by rfl)]
    show (0 : Int) + ((L.length + 1 : Nat) : Int) = _
    omega
  unfold Sp.counts
  refine ⟨?_, rfl⟩
  show ({ mtA L p c with acks := (mtA L p c).acks.set ((mtDone L).frm - 1).toNat 1, mat := (mtA L p c).mat.set ((mtDone L).frm - 1).toNat (L.length + 1), next := (mtA L p c).next.set ((mtDone L).frm - 1).toNat (L.length + 1 + 1), commit := countsFrom { mtA L p c with acks := (mtA L p c).acks.set ((mtDone L).frm - 1).toNat 1, mat := (mtA L p c).mat.set ((mtDone L).frm - 1).toNat (L.length + 1), next := (mtA L p c).next.set ((mtDone L).frm - 1).toNat (L.length + 1 + 1) } (L ++ [eT]).length, reads := [] } : Raft) = _
  rw [hcnt]
  rfl

theorem mt_beat (L : List Ent) : (beat (mtA3 L)).r = { mtA3 L with round := 2 } ∧ (beat (mtA3 L)).q.send = [mtBeat L] := by
  have e : beat (mtA3 L) = (Sp.sends ((Rf.start (mtA3 L)).round 2) 2).answers := rfl
  rw [e]
  have hx : ((Rf.start (mtA3 L)).round 2).r = { mtA3 L with round := 2 } := rfl
  have hn : nth ((Rf.start (mtA3 L)).round 2).r.next (2 - 1) = L.length + 1 + 1 := rfl
  have hs : ((Rf.start (mtA3 L)).round 2).r.snap.idx = 0 := rfl
  rw [sends_app (by rw [hn, hs]; omega), hn, show (L.length : Int) + 1 + 1 - 1 = L.length + 1 by omega, tl_last (L := L) rfl rfl, hs]
  have hd : ((Rf.start (mtA3 L)).round 2).r.log.drop (min ((L.length : Int) + 1 - 0) ((Rf.start (mtA3 L)).round 2).r.log.length).toNat = [] := by
    rw [← drop_all (L := L)]
    show (L ++ [eT]).drop _ = (L ++ [eT]).drop _
    rw [show (L.length : Int) + 1 + 1 - 1 - 0 = (L.length : Int) + 1 - 0 by omega]
    rfl
  rw [hd]
  exact ⟨rfl, rfl⟩

theorem mt_end (L : List Ent) : (got (mtB2 L) (mtBeat L)).r = { mtB2 L with commit := L.length + 1 } := by
  have e : got (mtB2 L) (mtBeat L) = Sp.appends (Rf.start (mtB2 L)) (mtBeat L) := rfl
  rw [e]
  unfold Sp.appends
  have hl : (Rf.start (mtB2 L)).led (mtBeat L) = (⟨mtB2 L, Out.none⟩, true) := rfl
  rw [hl]
  rw [if_neg (by simp)]
  have ht : termAt (mtB2 L) (mtBeat L).index = (10, true) := tl_last (L := L) rfl rfl
  simp only [ht]
  rw [if_neg (by intro h; rcases h.2 with h | h; cases h; exact h rfl)]
  show ({ mtB2 L with commit := max 0 (min ((L.length : Int) + 1) ((L.length : Int) + 1 + 0)) } : Raft) = _
  rw [show max 0 (min ((L.length : Int) + 1) ((L.length : Int) + 1 + 0)) = (L.length : Int) + 1 by omega]

/-! what fits -/
theorem mt_fitA1 {L : List Ent} (h : L.length ≤ 15) : Fit (mtA1 L) := el_fit rfl (by show L.length ≤ _; omega) (of_decide_eq_true rfl) (of_decide_eq_true rfl) (of_decide_eq_true rfl) (of_decide_eq_true rfl) el_nil el_nil rfl (of_decide_eq_true rfl) (of_decide_eq_true rfl) (of_decide_eq_true rfl) (of_decide_eq_true rfl) (of_decide_eq_true rfl)
theorem mt_fitB {M : List Ent} {t ld : Int} (h : M.length ≤ 16) (ht : t = 9 ∧ ld = 0 ∨ t = 10 ∧ ld = 1) : Fit (mtB M t ld) := by
  have h0 : 0 ≤ t ∧ t ≤ 100 := by omega
  exact el_fit rfl (by show M.length ≤ _; omega) h0.1 h0.2 (of_decide_eq_true rfl) (of_decide_eq_true rfl) el_nil el_nil rfl (of_decide_eq_true rfl) (of_decide_eq_true rfl) (of_decide_eq_true rfl) (of_decide_eq_true rfl) (of_decide_eq_true rfl)
theorem mt_fitA {L : List Ent} {p : Nat} {c : Int} (h : L.length ≤ 15) (hp : p ≤ L.length) : Fit (mtA L p c) := by
  refine el_fit rfl (by show (L ++ [eT]).length ≤ _; simp; omega) (of_decide_eq_true rfl) (of_decide_eq_true rfl) (of_decide_eq_true rfl) (of_decide_eq_true rfl) (fun x hx => ?_) (fun x hx => ?_) rfl (of_decide_eq_true rfl) (of_decide_eq_true rfl) (of_decide_eq_true rfl) (of_decide_eq_true rfl) (of_decide_eq_true rfl)
  · have hx : x ∈ [(0 : Int), 0] := hx
    simp at hx; omega
  · have hx : x ∈ [(L.length : Int) + 1, (p : Int) + 1] := hx
    simp at hx; omega
theorem mt_fitA3 {L : List Ent} (h : L.length ≤ 15) : Fit (mtA3 L) := by
  refine el_fit rfl (by show (L ++ [eT]).length ≤ _; simp; omega) (of_decide_eq_true rfl) (of_decide_eq_true rfl) (of_decide_eq_true rfl) (of_decide_eq_true rfl) (fun x hx => ?_) (fun x hx => ?_) rfl (of_decide_eq_true rfl) (of_decide_eq_true rfl) (of_decide_eq_true rfl) (of_decide_eq_true rfl) (of_decide_eq_true rfl)
  · have hx : x ∈ [(0 : Int), (L.length : Int) + 1] := hx
    simp at hx; omega
  · have hx : x ∈ [(L.length : Int) + 1, (L.length : Int) + 1 + 1] := hx
    simp at hx; omega
theorem mt_lmVote : Lm mtVote := by constructor <;> simp [mtVote, Msg.none, Snp.none]
theorem mt_lmApp {L : List Ent} {p : Nat} (h : L.length ≤ 15) (hp : p ≤ L.length) : Lm (mtApp L p) := by constructor <;> simp [mtApp, Msg.none, Snp.none] <;> omega
theorem mt_lmNay {y : Nat} (h : y ≤ 15) : Lm (mtNay y) := by constructor <;> simp [mtNay, Msg.none, Snp.none] <;> omega
theorem mt_lmDone {L : List Ent} (h : L.length ≤ 15) : Lm (mtDone L) := by constructor <;> simp [mtDone, Msg.none, Snp.none] <;> omega
theorem mt_lmBeat {L : List Ent} (h : L.length ≤ 15) : Lm (mtBeat L) := by constructor <;> simp [mtBeat, Msg.none, Snp.none] <;> omega
end Go.Vc.Rf
