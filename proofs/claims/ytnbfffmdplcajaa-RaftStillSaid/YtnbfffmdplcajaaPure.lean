/- Raft's steps as plain Lean: what each function of the program comes to. No program in sight. -/
import Derived.Test.YtnbfffmdplcajaaOpen
namespace Go.Vc
namespace Rf

def lastI (r : Raft) : Int := r.snap.idx + r.log.length
def lastT (r : Raft) : Int := match r.log.getLast? with | some e => e.term | none => r.snap.term
def termAt (r : Raft) (i : Int) : Int × Bool :=
  if i = r.snap.idx then (r.snap.term, true)
  else if i < r.snap.idx ∨ lastI r < i then (0, false)
  else ((r.log.getD (i - r.snap.idx - 1).toNat Ent.none).term, true)

/-- A step: what a node is, what comes of it. -/
structure Sp where
  r : Raft
  q : Out

def recH (t v : Int) : Rec := { Rec.none with kind := 1, term := t, vote := v }
def recE (e : Ent) : Rec := { Rec.none with kind := 2, ent := e }
def recC (i : Int) : Rec := { Rec.none with kind := 3, idx := i }
def recS (x : Snp) : Rec := { Rec.none with kind := 4, snap := x }

def Sp.save (s : Sp) (l : List Rec) : Sp := { s with q := { s.q with save := s.q.save ++ l } }
def Sp.hard (s : Sp) : Sp := s.save [recH s.r.term s.r.vote]
def Sp.send (s : Sp) (m : Msg) : Sp := { s with q := { s.q with send := s.q.send ++ [{ m with frm := s.r.id, term := s.r.term }] } }
/-- All others, counted from one. -/
def others (r : Raft) : List Int := ((List.range r.n.toNat).map fun i : Nat => (i : Int) + 1).filter fun i => i != r.id
/-- Has a majority something? 'has' is asked at places, from nought on. -/
def most (r : Raft) (own : Bool) (has : Int → Bool) : Bool := decide (2 * ((if own then 1 else 0) + ((others r).countP fun i => has (i - 1) : Nat) : Int) > r.n)
def bare (r : Raft) : Raft := { r with votes := [], next := [], mat := [], acks := [], reads := [] }
def Sp.bare (s : Sp) : Sp := { s with r := Rf.bare s.r }
def Sp.follows (s : Sp) (t : Int) : Sp := Sp.hard { s with r := Rf.bare { s.r with term := t, vote := 0, role := 0, lead := 0 } }
def Sp.log (s : Sp) (l : List Ent) : Sp := { s with r := { s.r with log := l } }
def Sp.put (s : Sp) (d : List UInt8) : Sp := (s.log (s.r.log ++ [⟨s.r.term, d⟩])).save [recE ⟨s.r.term, d⟩]
def nth (l : List Int) (i : Int) : Int := l.getD i.toNat 0
def countsAt (r : Raft) (i : Int) : Bool := most r true fun n => decide (i ≤ nth r.mat n)
def countsFrom (r : Raft) : Nat → Int
  | 0 => r.commit
  | k + 1 => if r.snap.idx + (k + 1 : Nat) ≤ r.commit then r.commit
    else if (r.log.getD k Ent.none).term == r.term && countsAt r (r.snap.idx + (k + 1 : Nat)) then r.snap.idx + (k + 1 : Nat) else countsFrom r k
def Sp.commit (s : Sp) (c : Int) : Sp := { s with r := { s.r with commit := c } }
def Sp.counts (s : Sp) : Sp := s.commit (countsFrom s.r s.r.log.length)
def readOk (r : Raft) (x : Rd) : Bool := most r (decide (x.round ≤ r.round)) fun k => decide (x.round ≤ nth r.acks k)
def Sp.answers (s : Sp) : Sp :=
  { r := { s.r with reads := s.r.reads.filter fun x => !readOk s.r x }, q := { s.q with ready := s.q.ready ++ s.r.reads.filter (readOk s.r) } }
def Sp.sends (s : Sp) (to : Int) : Sp :=
  if nth s.r.next (to - 1) ≤ s.r.snap.idx then s.send { Msg.none with kind := 5, dest := to, snap := s.r.snap, round := s.r.round }
  else s.send { Msg.none with kind := 3, dest := to, index := nth s.r.next (to - 1) - 1, logTerm := (termAt s.r (nth s.r.next (to - 1) - 1)).1, entries := s.r.log.drop (min (nth s.r.next (to - 1) - 1 - s.r.snap.idx) s.r.log.length).toNat, commit := s.r.commit, round := s.r.round }
def Sp.round (s : Sp) (c : Int) : Sp := { s with r := { s.r with round := c } }
def Sp.calls (s : Sp) : Sp := ((others s.r).foldl Sp.sends (s.round (s.r.round + 1))).answers
def lead (r : Raft) : Raft :=
  { bare r with role := 2, lead := r.id, round := 0, next := List.replicate r.n.toNat (lastI r + 1), mat := List.replicate r.n.toNat 0, acks := List.replicate r.n.toNat 0 }
def Sp.leads (s : Sp) : Sp := (({ s with r := Rf.lead s.r } : Sp).put []).counts.calls
def Sp.elects (s : Sp) : Sp := if most s.r (s.r.votes.getD (s.r.id - 1).toNat false) fun i => s.r.votes.getD i.toNat false then s.leads else s

def mayR (r : Raft) : Bool :=
  decide (1 ≤ r.id) && decide (r.id ≤ r.n) && decide (r.n ≤ 7) &&
    (if r.role = 2 then decide ((r.next.length : Int) = r.n) && decide ((r.mat.length : Int) = r.n) && decide ((r.acks.length : Int) = r.n) else if r.role = 1 then decide ((r.votes.length : Int) = r.n) else true)

def start (r : Raft) : Sp := ⟨r, Out.none⟩
/-- One who asks for votes, ahead of the count. -/
def stands (r : Raft) : Raft := { bare { r with term := r.term + 1, vote := r.id, role := 1, lead := 0 } with votes := (List.replicate r.n.toNat false).set (r.id - 1).toNat true }
def askMsg (r : Raft) (to : Int) : Msg := { Msg.none with kind := 1, dest := to, index := lastI r, logTerm := lastT r }
def timeout (r : Raft) : Sp :=
  if r.role = 2 ∨ mayR r = false then start r
  else
    let s := (start (stands r)).hard.elects
    if s.r.role = 2 then s else (others s.r).foldl (fun x to => x.send (askMsg s.r to)) s
def beat (r : Raft) : Sp := if r.role = 2 ∧ mayR r = true then (start r).calls else start r
def propose (r : Raft) (d : List UInt8) : Sp × Bool :=
  if r.role = 2 ∧ mayR r = true then (((start r).put d).counts.calls, true) else (⟨Raft.none, Out.none⟩, false)
def ask (r : Raft) (id : Int) : Sp × Bool :=
  if r.role = 2 ∧ mayR r = true ∧ (termAt r r.commit).2 = true ∧ (termAt r r.commit).1 = r.term then
    ((start { r with reads := r.reads ++ [⟨id, r.commit, r.round + 1⟩] }).calls, true)
  else (⟨Raft.none, Out.none⟩, false)
def fresh (r : Raft) (m : Msg) : Bool := decide (lastT r < m.logTerm) || (m.logTerm == lastT r && decide (lastI r ≤ m.index))
def grants (r : Raft) (m : Msg) : Bool := m.term == r.term && (r.vote == 0 || r.vote == m.frm) && fresh r m
def Sp.asked (s : Sp) (m : Msg) : Sp :=
  (if grants s.r m && s.r.vote == 0 then ({ s with r := { s.r with vote := m.frm } } : Sp).hard else s).send { Msg.none with kind := 2, dest := m.frm, ok := grants s.r m }
def Sp.voted (s : Sp) (m : Msg) : Sp :=
  if s.r.role = 1 ∧ m.term = s.r.term ∧ m.ok = true then ({ s with r := { s.r with votes := s.r.votes.set (m.frm - 1).toNat true } } : Sp).elects else s
def Sp.led (s : Sp) (m : Msg) : Sp × Bool :=
  if m.term < s.r.term then (s.send { Msg.none with kind := 4, dest := m.frm, round := m.round }, false)
  else ({ s with r := Rf.bare { s.r with role := 0, lead := m.frm } }, true)
def Sp.takes (s : Sp) (i : Int) (e : Ent) : Sp :=
  if i ≤ s.r.snap.idx then s
  else if (termAt s.r i).2 = true ∧ (termAt s.r i).1 = e.term then s
  else
    let s1 := if (termAt s.r i).2 = true then (s.save [recC i]).log (s.r.log.take (i - s.r.snap.idx - 1).toNat) else s
    (s1.log (s1.r.log ++ [e])).save [recE e]
def Sp.takesAll (s : Sp) (i : Int) : List Ent → Sp
  | [] => s
  | e :: es => Sp.takesAll (s.takes i e) (i + 1) es
def Sp.appends (s : Sp) (m : Msg) : Sp :=
  if (s.led m).2 = false then (s.led m).1
  else
    let s := (s.led m).1
    if s.r.snap.idx ≤ m.index ∧ ((termAt s.r m.index).2 = false ∨ (termAt s.r m.index).1 ≠ m.logTerm) then
      s.send { Msg.none with kind := 4, dest := m.frm, index := min (lastI s.r) (max m.index 1 - 1), round := m.round }
    else
      let s := s.takesAll (m.index + 1) m.entries
      (s.commit (max s.r.commit (min m.commit (m.index + m.entries.length)))).send { Msg.none with kind := 4, dest := m.frm, ok := true, index := m.index + m.entries.length, round := m.round }
def Sp.shift (s : Sp) (x : Snp) : Sp :=
  { s with r := { s.r with log := if (termAt s.r x.idx).2 = true ∧ (termAt s.r x.idx).1 = x.term then s.r.log.drop (x.idx - s.r.snap.idx).toNat else [], snap := x } }
def Sp.snaps (s : Sp) (m : Msg) : Sp :=
  if (s.led m).2 = false then (s.led m).1
  else
    let s := (s.led m).1
    let s := if s.r.commit < m.snap.idx then
        (let s := s.save [recS m.snap]
         (if s.r.snap.idx < m.snap.idx then s.shift m.snap else s).commit m.snap.idx)
      else s
    s.send { Msg.none with kind := 4, dest := m.frm, ok := true, index := s.r.commit, round := m.round }
def Sp.done (s : Sp) (m : Msg) : Sp :=
  if s.r.role ≠ 2 ∨ m.term ≠ s.r.term then s
  else
    let k := (m.frm - 1).toNat
    let last := lastI s.r
    let s : Sp := { s with r := { s.r with acks := s.r.acks.set k (max (s.r.acks.getD k 0) m.round) } }
    let s := if m.ok = true then
        (let v := max (s.r.mat.getD k 0) (min m.index last)
         let s : Sp := Sp.counts { s with r := { s.r with mat := s.r.mat.set k v, next := s.r.next.set k (v + 1) } }
         if v + 1 ≤ last then s.sends m.frm else s)
      else if m.index + 1 < s.r.next.getD k 0 then
        (let s : Sp := { s with r := { s.r with next := s.r.next.set k (max (m.index + 1) (s.r.mat.getD k 0 + 1)) } }
         s.sends m.frm)
      else s
    s.answers
def mine (r : Raft) (m : Msg) : Bool :=
  mayR r && decide (1 ≤ m.frm) && decide (m.frm ≤ r.n) && m.frm != r.id && m.dest == r.id && decide (1 ≤ m.kind) && decide (m.kind ≤ 5)
def got (r : Raft) (m : Msg) : Sp :=
  if mine r m = false then start r
  else
    let s := if r.term < m.term then (start r).follows m.term else start r
    if m.kind = 1 then s.asked m else if m.kind = 2 then s.voted m else if m.kind = 3 then s.appends m else if m.kind = 5 then s.snaps m else s.done m
def compact (r : Raft) (d : List UInt8) : Sp :=
  if r.snap.idx < r.commit then ((start r).shift ⟨r.commit, (termAt r r.commit).1, d⟩).save [recS ⟨r.commit, (termAt r r.commit).1, d⟩] else start r
def newR (id n : Int) (k : Kept) : Raft := { Raft.none with term := k.term, vote := k.vote, id := id, n := n, snap := k.snap, log := k.entries, commit := k.snap.idx }

/-! ### bounds: wide ones, with a little to spare -/
structure Bd (k : Nat) (s : Sp) : Prop where
  idx : 0 ≤ s.r.snap.idx
  last : lastI s.r ≤ 2000000000000000000 + k
  term0 : 0 ≤ s.r.term
  term : s.r.term ≤ 2000000000000000000 + k
  round0 : 0 ≤ s.r.round
  round : s.r.round ≤ 2000000000000000000 + k
  mat : ∀ x ∈ s.r.mat, 0 ≤ x ∧ x ≤ 2000000000000000000 + k
  next : ∀ x ∈ s.r.next, 0 ≤ x ∧ x ≤ 2000000000000000001 + k
  log : s.r.log.length ≤ 1000000 + k
  reads : s.r.reads.length ≤ 1000000 + k
  n : s.r.n ≤ 7
  save : s.q.save.length ≤ 1000000 + k
  send : s.q.send.length ≤ 1000000 + k
  ready : s.q.ready.length ≤ 1000000 + k

theorem Bd.mono {k k' : Nat} {s : Sp} (h : Bd k s) (hk : k ≤ k') : Bd k' s :=
  ⟨h.idx, by have := h.last; omega, h.term0, by have := h.term; omega, h.round0, by have := h.round; omega, fun x hx => ⟨(h.mat x hx).1, by have := (h.mat x hx).2; omega⟩,
    fun x hx => ⟨(h.next x hx).1, by have := (h.next x hx).2; omega⟩, by have := h.log; omega, by have := h.reads; omega, h.n, by have := h.save; omega, by have := h.send; omega, by have := h.ready; omega⟩
end Rf
end Go.Vc
