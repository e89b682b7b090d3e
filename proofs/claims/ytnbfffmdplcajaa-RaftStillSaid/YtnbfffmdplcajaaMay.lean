/- Contract of the document's May: where it says yes, a raft is one that P25.3 speaks of. -/
import Derived.Test.YtnbfffmdplcajaaRef1
import Derived.Test.YtnbfffmdplcajaaRead2
namespace Go.Proofs.Ytnbfffmdplcajaa
open Go.Vc Go.Vc.Rf

/-- A raft that P25.3 speaks of. -/
structure MayP (r : Raft) : Prop where
  n1 : 1 ≤ r.n
  n7 : r.n ≤ 7
  id1 : 1 ≤ r.id
  idn : r.id ≤ r.n
  v0 : 0 ≤ r.vote
  vn : r.vote ≤ r.n
  r0 : 0 ≤ r.role
  r2 : r.role ≤ 2
  c0 : r.snap.idx ≤ r.commit
  c1 : r.commit ≤ lastI r
  s0 : 0 ≤ r.snap.idx
  s1 : r.snap.idx ≤ 1099511627776
  log : r.log.length ≤ 100
  reads : r.reads.length ≤ 20
  t0 : 0 ≤ r.term
  t1 : r.term ≤ 1125899906842624
  q0 : 0 ≤ r.round
  q1 : r.round ≤ 1125899906842624
  l0 : 0 ≤ r.lead
  ln : r.lead ≤ r.n
  cand : r.role = 1 → (r.votes.length : Int) = r.n
  notc : r.role ≠ 1 → r.votes = []
  notl : r.role ≠ 2 → r.next = [] ∧ r.mat = [] ∧ r.acks = [] ∧ r.reads = []
  lead : r.role = 2 → Lr r
  ahead : r.role = 2 → ∀ i : Nat, i < r.next.length → 1 ≤ nth r.next i ∧ nth r.next i ≤ lastI r + 1 ∧ nth r.mat i < nth r.next i
  m0 : ∀ x ∈ r.mat, 0 ≤ x
  a0 : ∀ x ∈ r.acks, 0 ≤ x

theorem MayP.may {r : Raft} (h : MayP r) : mayR r = true := by
  have h1 := h.id1
  have h2 := h.idn
  have h3 := h.n7
  simp only [mayR, h1, h2, h3, decide_true, Bool.and_self, Bool.true_and]
  by_cases e : r.role = 2
  · obtain ⟨q1, q2, q3⟩ := h.lead e
    simp [e, q1, q2, q3]
  · by_cases e1 : r.role = 1
    · have := h.cand e1
      simp [e1, this]
    · simp [e, e1]

theorem MayP.cpy {r : Raft} (h : MayP r) : Cpy r := by
  have h3 := h.n7
  have hl := h.log
  have hr := h.reads
  by_cases e : r.role = 2
  · obtain ⟨q1, q2, q3⟩ := h.lead e
    have := h.notc (by omega)
    exact ⟨by omega, by rw [this]; simp, by omega, by omega, by omega, by omega⟩
  · obtain ⟨e1, e2, e3, e4⟩ := h.notl e
    have hv : r.votes.length ≤ 7 := by
      by_cases e5 : r.role = 1
      · have := h.cand e5; omega
      · rw [h.notc e5]; simp
    exact ⟨by omega, by omega, by rw [e1]; simp, by rw [e2]; simp, by rw [e3]; simp, by rw [e4]; simp⟩

theorem mem_nth {l : List Int} {x : Int} (h : x ∈ l) : ∃ i : Nat, i < l.length ∧ nth l i = x := by
  obtain ⟨i, hi, rfl⟩ := List.getElem_of_mem h
  refine ⟨i, hi, ?_⟩
  unfold nth
  rw [Int.toNat_natCast, List.getD_eq_getElem?_getD, List.getElem?_eq_getElem hi]; rfl

theorem MayP.fit {r : Raft} (h : MayP r) : Fit r := by
  have hs0 := h.s0
  have hs := h.s1
  have hl := h.log
  have ht := h.t1
  have hq := h.q1
  have hr := h.reads
  have hla : lastI r ≤ 1099511627876 := by unfold lastI; omega
  refine ⟨⟨hs0, by show lastI r ≤ _; omega, h.t0, by show r.term ≤ _; omega, h.q0, by show r.round ≤ _; omega, ?_, ?_, by show r.log.length ≤ _; omega, by show r.reads.length ≤ _; omega, h.n7, by simp [Rf.start, Out.none], by simp [Rf.start, Out.none], by simp [Rf.start, Out.none]⟩, h.cpy⟩
  · intro x hx
    have hx : x ∈ r.mat := hx
    by_cases e : r.role = 2
    · obtain ⟨i, hi, rfl⟩ := mem_nth hx
      obtain ⟨q1, q2, _⟩ := h.lead e
      obtain ⟨_, a2, a3⟩ := h.ahead e i (by omega)
      exact ⟨h.m0 _ hx, by omega⟩
    · rw [(h.notl e).2.1] at hx; cases hx
  · intro x hx
    have hx : x ∈ r.next := hx
    by_cases e : r.role = 2
    · obtain ⟨i, hi, rfl⟩ := mem_nth hx
      obtain ⟨a1, a2, _⟩ := h.ahead e i hi
      exact ⟨by omega, by omega⟩
    · rw [(h.notl e).1] at hx; cases hx

section
variable {w0 w : World} {H M U : Mp}

set_option maxHeartbeats 8000000 in
theorem may25_runs {r : Raft} {cs : List Value} (hp : Hp w0 w H M) (hr : Ra H cs r) (ho : RaOk r) :
    Runs Try.prog 30 [.agg cs.toArray] w fun v w' => ∃ b, v = .bool b ∧ (b = true → MayP r) ∧ Hp w0 w' H M := by
  have hr0 := hr
  obtain ⟨ss, ls, vs, ns, ms, ak, rs, rfl, hr⟩ := hr
  have eL := hr.log.1
  have eV := hr.votes.1
  have eN := hr.next.1
  have eM := hr.mat.1
  have eA := hr.acks.1
  have eR := hr.reads.1
  have b1 := ho.logN
  have b2 := ho.votesN
  have b3 := ho.nextN
  have b4 := ho.matN
  have b5 := ho.acksN
  have b6 := ho.readsN
  obtain ⟨s0, s1⟩ := ho.snap.1
  obtain ⟨t0, t1⟩ := ho.term
  obtain ⟨q0, q1⟩ := ho.round
  obtain ⟨c0, c1⟩ := ho.commit
  apply r30
  refine wp_newH hp fun p1 w1 H1 hp1 hle1 f1 => ?_
  have hle := hle1
  have hr1 := hr.mono hle1
  (refine wp_load (hp1.loadH f1 (by simp)) ?_; (repeat apply Exists.intro); refine ⟨rfl, ?_⟩)
  refine wp_call (refLast_runs hp1 hp1.le_uni (hr0.mono hle1) ho.snap.1 b1) fun v2 w2 h2 => ?_
  obtain ⟨rfl, hp2⟩ := h2
  ((repeat apply Exists.intro); refine ⟨rfl, ?_⟩)
  have no : ∀ {w' : World}, Hp w0 w' H1 M → ∃ b, Value.bool false = .bool b ∧ (b = true → MayP r) ∧ Hp w0 w' H M := fun h => ⟨false, rfl, fun h => (by cases h), h.lessH hle⟩
  (refine wp_load (hp2.loadH f1 (by simp)) ?_; (repeat apply Exists.intro); refine ⟨rfl, ?_⟩)
  refine wp_bif (fun _ => no hp2) fun h1 => ?_
  (refine wp_load (hp2.loadH f1 (by simp)) ?_; (repeat apply Exists.intro); refine ⟨rfl, ?_⟩)
  refine wp_bif (fun _ => no hp2) fun h2 => ?_
  (refine wp_load (hp2.loadH f1 (by simp)) ?_; (repeat apply Exists.intro); refine ⟨rfl, ?_⟩)
  refine wp_bif (fun _ => no hp2) fun h3 => ?_
  (refine wp_load (hp2.loadH f1 (by simp)) ?_; (repeat apply Exists.intro); refine ⟨rfl, ?_⟩)
  (refine wp_load (hp2.loadH f1 (by simp)) ?_; (repeat apply Exists.intro); refine ⟨rfl, ?_⟩)
  refine wp_bif (fun _ => no hp2) fun h4 => ?_
  (refine wp_load (hp2.loadH f1 (by simp)) ?_; (repeat apply Exists.intro); refine ⟨rfl, ?_⟩)
  refine wp_bif (fun _ => no hp2) fun h5 => ?_
  (refine wp_load (hp2.loadH f1 (by simp)) ?_; (repeat apply Exists.intro); refine ⟨rfl, ?_⟩)
  (refine wp_load (hp2.loadH f1 (by simp)) ?_; (repeat apply Exists.intro); refine ⟨rfl, ?_⟩)
  refine wp_bif (fun _ => no hp2) fun h6 => ?_
  (refine wp_load (hp2.loadH f1 (by simp)) ?_; (repeat apply Exists.intro); refine ⟨rfl, ?_⟩)
  refine wp_bif (fun _ => no hp2) fun h7 => ?_
  (refine wp_load (hp2.loadH f1 (by simp)) ?_; (repeat apply Exists.intro); refine ⟨rfl, ?_⟩)
  refine wp_bif (fun _ => no hp2) fun h8 => ?_
  (refine wp_load (hp2.loadH f1 (by simp)) ?_; (repeat apply Exists.intro); refine ⟨rfl, ?_⟩)
  (refine wp_load (hp2.loadH f1 (by simp)) ?_; (repeat apply Exists.intro); refine ⟨rfl, ?_⟩)
  refine wp_bif (fun _ => no hp2) fun h9 => ?_
  (refine wp_load (hp2.loadH f1 (by simp)) ?_; (repeat apply Exists.intro); refine ⟨rfl, ?_⟩)
  refine wp_bif (fun _ => no hp2) fun h10 => ?_
  (refine wp_load (hp2.loadH f1 (by simp)) ?_; (repeat apply Exists.intro); refine ⟨rfl, ?_⟩)
  refine wp_bif (fun _ => no hp2) fun h11 => ?_
  (refine wp_load (hp2.loadH f1 (by simp)) ?_; (repeat apply Exists.intro); refine ⟨rfl, ?_⟩)
  refine wp_bif (fun _ => no hp2) fun h12 => ?_
  (refine wp_load (hp2.loadH f1 (by simp)) ?_; (repeat apply Exists.intro); refine ⟨rfl, ?_⟩)
  refine wp_bif (fun _ => no hp2) fun h13 => ?_
  (refine wp_load (hp2.loadH f1 (by simp)) ?_; (repeat apply Exists.intro); refine ⟨rfl, ?_⟩)
  refine wp_bif (fun _ => no hp2) fun h14 => ?_
  (refine wp_load (hp2.loadH f1 (by simp)) ?_; (repeat apply Exists.intro); refine ⟨rfl, ?_⟩)
  refine wp_bif (fun _ => no hp2) fun h15 => ?_
  (refine wp_load (hp2.loadH f1 (by simp)) ?_; (repeat apply Exists.intro); refine ⟨rfl, ?_⟩)
  refine wp_bif (fun _ => no hp2) fun h16 => ?_
  (refine wp_load (hp2.loadH f1 (by simp)) ?_; (repeat apply Exists.intro); refine ⟨rfl, ?_⟩)
  (refine wp_load (hp2.loadH f1 (by simp)) ?_; (repeat apply Exists.intro); refine ⟨rfl, ?_⟩)
  refine wp_bif (fun _ => no hp2) fun h17 => ?_
  replace h1 : ¬ r.n < 1 := of_decide_eq_false h1
  replace h2 : ¬ r.n > 7 := of_decide_eq_false h2
  replace h3 : ¬ r.id < 1 := of_decide_eq_false h3
  replace h4 : ¬ r.id > r.n := of_decide_eq_false h4
  replace h5 : ¬ r.vote < 0 := of_decide_eq_false h5
  replace h6 : ¬ r.vote > r.n := of_decide_eq_false h6
  replace h7 : ¬ r.role < 0 := of_decide_eq_false h7
  replace h8 : ¬ r.role > 2 := of_decide_eq_false h8
  replace h9 : ¬ r.commit < r.snap.idx := of_decide_eq_false h9
  replace h10 : ¬ r.commit > IntKind.u64.wrap (lastI r) := of_decide_eq_false h10
  replace h11 : ¬ r.snap.idx > 1099511627776 := of_decide_eq_false h11
  replace h12 : ¬ (ls.n : Int) > 100 := of_decide_eq_false h12
  replace h13 : ¬ (rs.n : Int) > 20 := of_decide_eq_false h13
  replace h14 : ¬ r.term > 1125899906842624 := of_decide_eq_false h14
  replace h15 : ¬ r.round > 1125899906842624 := of_decide_eq_false h15
  replace h16 : ¬ r.lead < 0 := of_decide_eq_false h16
  replace h17 : ¬ r.lead > r.n := of_decide_eq_false h17
  have hlw : IntKind.u64.wrap (lastI r) = lastI r := wrap_u64 (by unfold lastI; omega) (by unfold lastI; omega)
  have hl0 : 0 ≤ lastI r := by unfold lastI; omega
  have hl1 : lastI r ≤ 1099511627876 := by unfold lastI; omega
  rw [hlw] at h10 ⊢
  have mk : ∀ (_ : r.role = 1 → (r.votes.length : Int) = r.n) (_ : r.role ≠ 1 → r.votes = []) (_ : r.role ≠ 2 → r.next = [] ∧ r.mat = [] ∧ r.acks = [] ∧ r.reads = []) (_ : r.role = 2 → Lr r)
      (_ : r.role = 2 → ∀ i : Nat, i < r.next.length → 1 ≤ nth r.next i ∧ nth r.next i ≤ lastI r + 1 ∧ nth r.mat i < nth r.next i), MayP r := fun a b c d e =>
    ⟨by omega, by omega, by omega, by omega, by omega, by omega, by omega, by omega, by omega, by omega, s0, by omega, by omega, by omega, t0, by omega, q0, by omega, by omega, by omega, a, b, c, d, e, fun x hx => (ho.mat x hx).1, fun x hx => (ho.acks x hx).1⟩
  (refine wp_load (hp2.loadH f1 (by simp)) ?_; (repeat apply Exists.intro); refine ⟨rfl, ?_⟩)
  refine wp_bif (fun h18 => ?_) fun h18 => ?_
  · have g18 : r.role = 1 := by simpa using h18
    (refine wp_load (hp2.loadH f1 (by simp)) ?_; (repeat apply Exists.intro); refine ⟨rfl, ?_⟩)
    (refine wp_load (hp2.loadH f1 (by simp)) ?_; (repeat apply Exists.intro); refine ⟨rfl, ?_⟩)
    refine wp_bif (fun _ => no hp2) fun h19 => ?_
    have g19 : (r.votes.length : Int) = r.n := by
      have : (vs.n : Int) = r.n := by simpa using h19
      omega
    (refine wp_load (hp2.loadH f1 (by simp)) ?_; (repeat apply Exists.intro); refine ⟨rfl, ?_⟩)
    refine wp_bif (fun h => absurd h (by simp [g18])) fun _ => ?_
    (refine wp_load (hp2.loadH f1 (by simp)) ?_; (repeat apply Exists.intro); refine ⟨rfl, ?_⟩)
    refine wp_bif (fun _ => ?_) fun h => absurd h (by simp [g18])
    (refine wp_load (hp2.loadH f1 (by simp)) ?_; (repeat apply Exists.intro); refine ⟨rfl, ?_⟩)
    (refine wp_load (hp2.loadH f1 (by simp)) ?_; (repeat apply Exists.intro); refine ⟨rfl, ?_⟩)
    (refine wp_load (hp2.loadH f1 (by simp)) ?_; (repeat apply Exists.intro); refine ⟨rfl, ?_⟩)
    (refine wp_load (hp2.loadH f1 (by simp)) ?_; (repeat apply Exists.intro); refine ⟨rfl, ?_⟩)
    refine ⟨_, rfl, fun hz => ?_, hp2.lessH hle⟩
    have hz' := (beq_iff_eq).1 hz
    rw [wrap_i64 (x := (ns.n : Int) + ms.n) (by omega) (by omega), wrap_i64 (x := (ns.n : Int) + ms.n + ak.n) (by omega) (by omega), wrap_i64 (by omega) (by omega)] at hz'
    exact mk (fun _ => g19) (fun h => absurd g18 h) (fun _ => ⟨List.eq_nil_of_length_eq_zero (by omega), List.eq_nil_of_length_eq_zero (by omega), List.eq_nil_of_length_eq_zero (by omega), List.eq_nil_of_length_eq_zero (by omega)⟩) (fun h => by omega) fun h => by omega
  · have g18 : ¬ r.role = 1 := by simpa using h18
    (refine wp_load (hp2.loadH f1 (by simp)) ?_; (repeat apply Exists.intro); refine ⟨rfl, ?_⟩)
    refine wp_bif (fun _ => ?_) fun h => absurd h (by simp [g18])
    (refine wp_load (hp2.loadH f1 (by simp)) ?_; (repeat apply Exists.intro); refine ⟨rfl, ?_⟩)
    refine wp_bif (fun _ => no hp2) fun h19 => ?_
    have g19 : r.votes = [] := by
      have : (vs.n : Int) = 0 := by simpa using h19
      exact List.eq_nil_of_length_eq_zero (by omega)
    (refine wp_load (hp2.loadH f1 (by simp)) ?_; (repeat apply Exists.intro); refine ⟨rfl, ?_⟩)
    refine wp_bif (fun h20 => ?_) fun h20 => ?_
    · have g20 : ¬ r.role = 2 := by simpa using h20
      (refine wp_load (hp2.loadH f1 (by simp)) ?_; (repeat apply Exists.intro); refine ⟨rfl, ?_⟩)
      (refine wp_load (hp2.loadH f1 (by simp)) ?_; (repeat apply Exists.intro); refine ⟨rfl, ?_⟩)
      (refine wp_load (hp2.loadH f1 (by simp)) ?_; (repeat apply Exists.intro); refine ⟨rfl, ?_⟩)
      (refine wp_load (hp2.loadH f1 (by simp)) ?_; (repeat apply Exists.intro); refine ⟨rfl, ?_⟩)
      refine ⟨_, rfl, fun hz => ?_, hp2.lessH hle⟩
      have hz' := (beq_iff_eq).1 hz
      rw [wrap_i64 (x := (ns.n : Int) + ms.n) (by omega) (by omega), wrap_i64 (x := (ns.n : Int) + ms.n + ak.n) (by omega) (by omega), wrap_i64 (by omega) (by omega)] at hz'
      exact mk (fun h => absurd h g18) (fun _ => g19) (fun _ => ⟨List.eq_nil_of_length_eq_zero (by omega), List.eq_nil_of_length_eq_zero (by omega), List.eq_nil_of_length_eq_zero (by omega), List.eq_nil_of_length_eq_zero (by omega)⟩) (fun h => by omega) fun h => by omega
    · have g20 : r.role = 2 := by simpa using h20
      (refine wp_load (hp2.loadH f1 (by simp)) ?_; (repeat apply Exists.intro); refine ⟨rfl, ?_⟩)
      (refine wp_load (hp2.loadH f1 (by simp)) ?_; (repeat apply Exists.intro); refine ⟨rfl, ?_⟩)
      refine wp_bif (fun _ => no hp2) fun h21 => ?_
      (refine wp_load (hp2.loadH f1 (by simp)) ?_; (repeat apply Exists.intro); refine ⟨rfl, ?_⟩)
      (refine wp_load (hp2.loadH f1 (by simp)) ?_; (repeat apply Exists.intro); refine ⟨rfl, ?_⟩)
      refine wp_bif (fun _ => no hp2) fun h22 => ?_
      (refine wp_load (hp2.loadH f1 (by simp)) ?_; (repeat apply Exists.intro); refine ⟨rfl, ?_⟩)
      (refine wp_load (hp2.loadH f1 (by simp)) ?_; (repeat apply Exists.intro); refine ⟨rfl, ?_⟩)
      refine wp_bif (fun _ => no hp2) fun h23 => ?_
      have g21 : (r.next.length : Int) = r.n := by
        have : (ns.n : Int) = r.n := by simpa using h21
        omega
      have g22 : (r.mat.length : Int) = r.n := by
        have : (ms.n : Int) = r.n := by simpa using h22
        omega
      have g23 : (r.acks.length : Int) = r.n := by
        have : (ak.n : Int) = r.n := by simpa using h23
        omega
      refine ⟨fun vs w' => ∃ j : Nat, vs = [.int .i64 j] ∧ j ≤ r.next.length ∧ Hp w0 w' H1 M ∧ ∀ i : Nat, i < j → 1 ≤ nth r.next i ∧ nth r.next i ≤ lastI r + 1 ∧ nth r.mat i < nth r.next i,
        fun vs _ => match vs with | [.int _ q] => 9 - q.toNat | _ => 0, ⟨0, rfl, Nat.zero_le _, hp2, fun i hi => by omega⟩, ?_⟩
      rintro vs' w3 ⟨j, rfl, hj, hp3, hall⟩
      ((repeat apply Exists.intro); refine ⟨rfl, ?_⟩)
      (refine wp_load (hp3.loadH f1 (by simp)) ?_; (repeat apply Exists.intro); refine ⟨rfl, ?_⟩)
      refine wp_bif (fun h24 => ?_) fun h24 => ?_
      · have g24 : (j : Int) < r.n := of_decide_eq_true h24
        have hp4 := hp3.drew
        (refine wp_load (hp4.loadH f1 (by simp)) ?_; (repeat apply Exists.intro); refine ⟨rfl, ?_⟩)
        refine wp_idx Nu.len (by omega) hp4 hp4.le_uni hr1.next 0 1 (by omega) (by omega) (by omega) fun cs hcs => ?_
        cases hcs
        ((repeat apply Exists.intro); refine ⟨rfl, ?_⟩)
        change VC.wp _ _ (bif decide (nth r.next j < 1) then _ else _) _ _
        refine wp_bif (fun _ => no hp4) fun h25 => ?_
        (refine wp_load (hp4.loadH f1 (by simp)) ?_; (repeat apply Exists.intro); refine ⟨rfl, ?_⟩)
        refine wp_idx Nu.len (by omega) hp4 hp4.le_uni hr1.next 0 1 (by omega) (by omega) (by omega) fun cs hcs => ?_
        cases hcs
        ((repeat apply Exists.intro); refine ⟨rfl, ?_⟩)
        change VC.wp _ _ (bif decide (nth r.next j > IntKind.u64.wrap (lastI r + 1)) then _ else _) _ _
        refine wp_bif (fun _ => no hp4) fun h26 => ?_
        (refine wp_load (hp4.loadH f1 (by simp)) ?_; (repeat apply Exists.intro); refine ⟨rfl, ?_⟩)
        refine wp_idx Nu.len (by omega) hp4 hp4.le_uni hr1.mat 0 1 (by omega) (by omega) (by omega) fun cs hcs => ?_
        cases hcs
        ((repeat apply Exists.intro); refine ⟨rfl, ?_⟩)
        (refine wp_load (hp4.loadH f1 (by simp)) ?_; (repeat apply Exists.intro); refine ⟨rfl, ?_⟩)
        refine wp_idx Nu.len (by omega) hp4 hp4.le_uni hr1.next 0 1 (by omega) (by omega) (by omega) fun cs hcs => ?_
        cases hcs
        ((repeat apply Exists.intro); refine ⟨rfl, ?_⟩)
        change VC.wp _ _ (bif decide (nth r.mat j ≥ nth r.next j) then _ else _) _ _
        refine wp_bif (fun _ => no hp4) fun h27 => ?_
        have g25 : ¬ nth r.next j < 1 := of_decide_eq_false h25
        have g26 : ¬ nth r.next j > IntKind.u64.wrap (lastI r + 1) := of_decide_eq_false h26
        have g27 : ¬ nth r.mat j ≥ nth r.next j := of_decide_eq_false h27
        rw [wrap_u64 (by omega) (by omega)] at g26
        have ewrap : IntKind.i64.wrap ((j : Int) + 1) = ((j + 1 : Nat) : Int) := by rw [wrap_i64 (by omega) (by omega)]; rfl
        refine ⟨⟨j + 1, by rw [ewrap], by omega, hp4, fun i hi => ?_⟩, ?_⟩
        · by_cases e : i = j
          · subst e; exact ⟨by omega, by omega, by omega⟩
          · exact hall i (by omega)
        · show 9 - (IntKind.i64.wrap ((j : Int) + 1)).toNat < 9 - (j : Int).toNat
          rw [ewrap]; omega
      · have g24 : ¬ (j : Int) < r.n := of_decide_eq_false h24
        refine ⟨true, rfl, fun _ => ?_, hp3.lessH hle⟩
        exact mk (fun h => absurd h g18) (fun _ => g19) (fun h => absurd g20 h) (fun _ => ⟨g21, g22, g23⟩) fun _ i hi => hall i (by omega)
end
end Go.Proofs.Ytnbfffmdplcajaa
