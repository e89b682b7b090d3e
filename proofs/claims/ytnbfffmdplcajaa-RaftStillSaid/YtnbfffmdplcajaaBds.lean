/- Bounds, step by step: how little each step adds. -/
import Derived.Test.YtnbfffmdplcajaaData
namespace Go.Vc
namespace Rf
/-- The lists that a leader has: one place for each node. -/
structure Lr (r : Raft) : Prop where
  next : (r.next.length : Int) = r.n
  mat : (r.mat.length : Int) = r.n
  acks : (r.acks.length : Int) = r.n

theorem nth_mem {l : List Int} {i : Int} (h0 : 0 ≤ i) (h1 : i < l.length) : nth l i ∈ l := by
  unfold nth
  have hil : i.toNat < l.length := by omega
  rw [List.getD_eq_getElem?_getD, List.getElem?_eq_getElem hil]
  exact List.getElem_mem hil

section
variable {k : Nat} {x : Sp}
theorem Bd.sent {m : Msg} (h : Bd k x) : Bd (k + 1) (x.send m) := by
  have h' := h.mono (Nat.le_succ k)
  exact ⟨h'.idx, h'.last, h'.term0, h'.term, h'.round0, h'.round, h'.mat, h'.next, h'.log, h'.reads, h'.n, h'.save, by have := h.send; simp [Sp.send]; omega, h'.ready⟩
theorem Bd.saved {l : List Rec} (h : Bd k x) (hl : l.length ≤ 1) : Bd (k + 1) (x.save l) := by
  have h' := h.mono (Nat.le_succ k)
  exact ⟨h'.idx, h'.last, h'.term0, h'.term, h'.round0, h'.round, h'.mat, h'.next, h'.log, h'.reads, h'.n, by have := h.save; simp [Sp.save]; omega, h'.send, h'.ready⟩
theorem Bd.hard (h : Bd k x) : Bd (k + 1) x.hard := h.saved (by simp)
theorem Bd.put {d : List UInt8} (h : Bd k x) : Bd (k + 1) (x.put d) := by
  have h' := h.mono (Nat.le_succ k)
  refine ⟨h'.idx, ?_, h'.term0, h'.term, h'.round0, h'.round, h'.mat, h'.next, ?_, h'.reads, h'.n, ?_, h'.send, h'.ready⟩
  · have := h.last; simp [Sp.put, Sp.save, Sp.log, lastI] at this ⊢; omega
  · have := h.log; simp [Sp.put, Sp.save, Sp.log]; omega
  · have := h.save; simp [Sp.put, Sp.save, Sp.log]; omega
theorem Bd.commit {c : Int} (h : Bd k x) : Bd k (x.commit c) := ⟨h.idx, h.last, h.term0, h.term, h.round0, h.round, h.mat, h.next, h.log, h.reads, h.n, h.save, h.send, h.ready⟩
theorem Bd.counts (h : Bd k x) : Bd k x.counts := h.commit
theorem Bd.bare (h : Bd k x) : Bd k x.bare := ⟨h.idx, h.last, h.term0, h.term, h.round0, h.round, by simp [Sp.bare, Rf.bare], by simp [Sp.bare, Rf.bare], h.log, by simp [Sp.bare, Rf.bare], h.n, h.save, h.send, h.ready⟩
theorem Bd.roundSucc (h : Bd k x) : Bd (k + 1) (x.round (x.r.round + 1)) := by
  have h' := h.mono (Nat.le_succ k)
  have h0 := h.round0
  have h1 := h.round
  exact ⟨h'.idx, h'.last, h'.term0, h'.term, by simp [Sp.round]; omega, by simp [Sp.round]; omega, h'.mat, h'.next, h'.log, h'.reads, h'.n, h'.save, h'.send, h'.ready⟩
theorem Bd.sends {to : Int} (h : Bd k x) : Bd (k + 1) (x.sends to) := by
  unfold Sp.sends
  split
  · exact h.sent
  · exact h.sent
theorem sends_r {to : Int} : (x.sends to).r = x.r := by
  unfold Sp.sends
  split <;> rfl
theorem sends_fold : ∀ (l : List Int) (x : Sp) (k : Nat), Bd k x → (l.foldl Sp.sends x).r = x.r ∧ Bd (k + l.length) (l.foldl Sp.sends x)
  | [], x, k, h => ⟨rfl, h⟩
  | t :: l, x, k, h => by
    have := sends_fold l (x.sends t) (k + 1) h.sends
    exact ⟨this.1.trans sends_r, this.2.mono (by simp; omega)⟩
end
end Rf
end Go.Vc
