/- What the laws' walks share: marked texts; what compacting comes to. -/
import Derived.Test.YtnbfffmdplcajaaMay
import Derived.Test.YtnbfffmdplcajaaR14
namespace Go.Vc
section
variable {P : Program} {R : Value → World → Prop} {env : Nat → List Value → World → Prop} {w0 w : World} {H M : Mp}

theorem Hp.mark (hp : Hp w0 w H M) {b : Nat} {cs : List Value} (hb : H b = some cs) (hn : w0.heap.size ≤ b) : Hp w0 (markW w ⟨b, 0, none⟩) H M := by
  obtain ⟨e, fr, hc⟩ := hp.imm b cs hb
  have hs : w.shape? b = some (e, cs.toArray.size) := by simp [World.shape?, hc]
  have hm : markW w ⟨b, 0, none⟩ = w.freeze ⟨b, cs.toArray.size, none⟩ 1 := by
    unfold markW
    show (match w.shape? b with | some (_, n) => _ | none => w) = _
    rw [hs]
  rw [hm]
  unfold World.freeze
  rw [if_neg (by omega)]
  refine ⟨⟨hp.below.os, hp.below.tape, hp.below.output, by simpa using hp.below.size, fun k hk => ?_⟩, fun x c hx => ?_, fun x c hx => ?_, hp.sep, hp.new⟩
  · have hne : b ≠ k := by omega
    show (w.heap.modify b _)[k]? = _
    rw [Array.getElem?_modify, if_neg hne]
    exact hp.below.block k hk
  · show ∃ e fr, (w.heap.modify b _)[x]? = _
    rw [Array.getElem?_modify]
    by_cases e1 : b = x
    · subst e1
      rw [hb] at hx; cases hx
      rw [if_pos rfl, hc]
      obtain ⟨lo, hi⟩ := fr
      exact ⟨e, _, rfl⟩
    · rw [if_neg e1]; exact hp.imm x c hx
  · have e1 : b ≠ x := fun e1 => by subst e1; rw [hp.sep _ _ hx] at hb; cases hb
    show ∃ e, (w.heap.modify b _)[x]? = _
    rw [Array.getElem?_modify, if_neg e1]
    exact hp.mem x c hx

theorem wp_newMark (hp : Hp w0 w H M) {e : TypeId} {cs : List Value} {k : Nat → VC} (hk : ∀ b w' H', Hp w0 w' H' M → H.le H' → H' b = some cs → (k b).wp P R env w') : (VC.new e cs fun b => .mark ⟨b, 0, none⟩ (k b)).wp P R env w := by
  obtain ⟨h1, h2⟩ := (hp.alloc cs e).fix hp.fresh.2
  exact hk _ _ _ (h1.mark (Mp.put_same _ _ _) hp.below.size) h2 (Mp.put_same _ _ _)

/-- Two variables written, written no more. -/
theorem Hp.fix2 {M2 : Mp} (hp : Hp w0 w H M2) {p q : Nat} {vs us : List Value} (h1 : M2 p = some vs) (h2 : M2 q = some us) (n1 : M p = none) (n2 : M q = none) (hk : ∀ b, b ≠ p → b ≠ q → M2 b = M b) :
    ∃ H', Hp w0 w H' M ∧ H.le H' ∧ H' p = some vs ∧ H' q = some us := by
  have ha : Adv M [] M2 [p, q] := ⟨fun b hb _ => hk b (fun e => hb (by rw [e]; exact n1)) (fun e => hb (by rw [e]; exact n2)), fun b hb => by
    simp only [List.mem_cons, List.not_mem_nil, or_false] at hb
    rcases hb with rfl | rfl
    · exact .inr n1
    · exact .inr n2⟩
  exact ⟨_, hp.give ha, hp.froz_le _, by simp [Mp.froz, h1], by simp [Mp.froz, h2]⟩
end
end Go.Vc
namespace Go.Proofs.Ytnbfffmdplcajaa
open Go.Vc Go.Vc.Rf

theorem termAt_mid {r : Raft} {i : Int} (h1 : r.snap.idx < i) (h2 : i ≤ lastI r) : termAt r i = ((r.log.getD (i - r.snap.idx - 1).toNat Ent.none).term, true) := by
  unfold termAt
  rw [if_neg (by omega), if_neg (by omega)]
theorem termAt_snap {r : Raft} {i : Int} (h : i = r.snap.idx) : termAt r i = (r.snap.term, true) := by
  unfold termAt; rw [if_pos h]
theorem termAt_out {r : Raft} {i : Int} (h : i < r.snap.idx ∨ lastI r < i) : termAt r i = (0, false) := by
  unfold termAt
  rw [if_neg (by unfold lastI at h; omega), if_pos h]
theorem termAt_is {r : Raft} {i : Int} (h1 : r.snap.idx ≤ i) (h2 : i ≤ lastI r) : (termAt r i).2 = true := by
  by_cases e : i = r.snap.idx
  · rw [termAt_snap e]
  · rw [termAt_mid (by omega) h2]
theorem lastT_log {r : Raft} (h : 0 < r.log.length) : lastT r = (r.log.getD (r.log.length - 1) Ent.none).term := by
  unfold lastT
  rw [getLast_get (List.getElem?_eq_getElem (show r.log.length - 1 < r.log.length by omega)), List.getD_eq_getElem?_getD, List.getElem?_eq_getElem (show r.log.length - 1 < r.log.length by omega)]
  rfl
theorem termAt_last {r : Raft} : (termAt r (lastI r)).1 = lastT r := by
  by_cases e : r.log.length = 0
  · have : r.log = [] := List.eq_nil_of_length_eq_zero e
    rw [termAt_snap (by simp [lastI, this])]
    simp [lastT, this]
  · rw [termAt_mid (by unfold lastI; omega) (Int.le_refl _), lastT_log (by omega)]
    have : (lastI r - r.snap.idx - 1).toNat = r.log.length - 1 := by unfold lastI; omega
    rw [this]

/-- A raft whose log stands from what is committed on. -/
def compacted (r : Raft) (d : List UInt8) : Raft := { r with log := r.log.drop (r.commit - r.snap.idx).toNat, snap := ⟨r.commit, (termAt r r.commit).1, d⟩ }

theorem compact_eq {r : Raft} {d : List UInt8} (h1 : r.snap.idx < r.commit) (h2 : r.commit ≤ lastI r) : compact r d = ⟨compacted r d, { Out.none with save := [recS ⟨r.commit, (termAt r r.commit).1, d⟩] }⟩ := by
  unfold compact
  rw [if_pos h1]
  unfold Sp.shift Sp.save compacted
  simp only [termAt_is (Int.le_of_lt h1) h2, Rf.start, and_self, if_true]
  rfl

theorem compacted_last {r : Raft} {d : List UInt8} (h1 : r.snap.idx ≤ r.commit) (h2 : r.commit ≤ lastI r) : lastI (compacted r d) = lastI r := by
  unfold lastI at h2
  simp only [lastI, compacted, List.length_drop]
  omega

theorem compacted_termAt {r : Raft} {d : List UInt8} {i : Int} (h1 : r.snap.idx ≤ r.commit) (h2 : r.commit ≤ lastI r) (hi : r.commit ≤ i) : termAt (compacted r d) i = termAt r i := by
  have hl := compacted_last (d := d) h1 h2
  by_cases e : i = r.commit
  · have := termAt_is h1 h2
    rw [termAt_snap (r := compacted r d) e, e]
    show ((termAt r r.commit).1, true) = _
    rw [← this]
  · by_cases e2 : lastI r < i
    · rw [termAt_out (.inr e2), termAt_out (.inr (by omega))]
    · have hc : (compacted r d).snap.idx = r.commit := rfl
      rw [termAt_mid (by omega) (by omega), termAt_mid (by omega) (by omega), hc]
      show (((r.log.drop (r.commit - r.snap.idx).toNat).getD _ _).term, true) = _
      rw [List.getD_eq_getElem?_getD, List.getElem?_drop, List.getD_eq_getElem?_getD]
      congr 4
      omega

theorem compacted_lastT {r : Raft} {d : List UInt8} (h1 : r.snap.idx ≤ r.commit) (h2 : r.commit ≤ lastI r) : lastT (compacted r d) = lastT r := by
  rw [← termAt_last, ← termAt_last, compacted_last h1 h2, compacted_termAt h1 h2 h2]

theorem compacted_fit {r : Raft} {d : List UInt8} (hf : Fit r) (h1 : r.snap.idx ≤ r.commit) (h2 : r.commit ≤ lastI r) : Fit (compacted r d) := by
  obtain ⟨hb, hc⟩ := hf
  have hi0 := hb.idx
  have hll : (compacted r d).log.length ≤ r.log.length := by simp [compacted]
  have h3 := hb.log
  have h4 := hc.log
  refine ⟨⟨?_, ?_, hb.term0, hb.term, hb.round0, hb.round, hb.mat, hb.next, ?_, hb.reads, hb.n, hb.save, hb.send, hb.ready⟩, ⟨by omega, hc.votes, hc.next, hc.mat, hc.acks, hc.reads⟩⟩
  · exact Int.le_trans hi0 h1
  · show lastI (compacted r d) ≤ _
    rw [compacted_last h1 h2]; exact hb.last
  · exact Nat.le_trans hll h3
end Go.Proofs.Ytnbfffmdplcajaa
