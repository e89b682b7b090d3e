/- Contracts: done, Got, Compact. -/
import Derived.Test.YtnbfffmdplcajaaR12
namespace Go.Proofs.Ytnbfffmdplcajaa
open Go.Vc Go.Vc.Rf

section
variable {w0 w : World} {H M U : Mp} {s : Nat} {o : List Nat} {x : Sp} {k : Nat} {R : Value → World → Prop} {env : Nat → List Value → World → Prop}

theorem getD_set {l : List Int} {i : Nat} {v : Int} (h : i < l.length) : (l.set i v).getD i 0 = v := by
  rw [List.getD_eq_getElem?_getD, List.getElem?_set_self h]; rfl

theorem mem_set_of {l : List Int} {i : Nat} {v : Int} {P : Int → Prop} (h : ∀ y ∈ l, P y) (hv : P v) : ∀ y ∈ l.set i v, P y := fun y hy => by
  rcases List.mem_or_eq_of_mem_set hy with h1 | h1
  · exact h y h1
  · rw [h1]; exact hv

set_option maxHeartbeats 2000000 in
theorem done_runs {m : Msg} {cs : List Value} (hp : Hp w0 w H M) (st : St H M s o x.r x.q) (hm : Ms H cs m) (hb : Bd k x) (hk : k ≤ 800) (lm : Lm m)
    (hl : x.r.role = 2 → Lr x.r) (f0 : 1 ≤ m.frm) (fn : m.frm ≤ x.r.n) :
    Runs Try.prog 76 [.pointer (some ⟨s, 0, none⟩), .agg cs.toArray] w fun v w' => v = .tuple #[] ∧ Dd w0 H M s o (x.done m) w' := by
  have st0 := st
  obtain ⟨ss, g, rfl, low, sem⟩ := st.ex
  obtain ⟨a1, n1, c1, a2, n2, c2, rfl, he, hs⟩ := hm
  have hn := hb.n
  have hi0 := hb.idx
  have hla := hb.last
  have l1 := lm.index0
  have l2 := lm.index
  have hll0 : 0 ≤ lastI x.r := by unfold lastI; omega
  apply r76
  refine wp_newH hp fun p1 w1 H1 hp1 hle1 f1 => ?_
  have no : ∀ {w' : World}, Hp w0 w' H1 M → (x.r.role ≠ 2 ∨ m.term ≠ x.r.term) → Value.tuple #[] = .tuple #[] ∧ Dd w0 H M s (g.own s) (x.done m) w' := fun hp' h => by
    have e : x.done m = x := if_pos h
    rw [e]
    exact ⟨rfl, H1, M, _, hp', hle1, Adv.refl _ _, st0.mono hle1⟩
  have hpd := hp1.drew
  have sem1 := sem.mono hle1
  (refine wp_load (hpd.loadM low.var (by simp [cells20])) ?_; (repeat apply Exists.intro); refine ⟨rfl, ?_⟩)
  refine wp_bif (fun h => no hpd (.inl (by simpa using h))) fun h => ?_
  have hro : x.r.role = 2 := by simpa using h
  have lr := hl hro
  obtain ⟨q1, q2, q3⟩ := lr
  (refine wp_load (hpd.loadH f1 (by simp)) ?_; (repeat apply Exists.intro); refine ⟨rfl, ?_⟩)
  (refine wp_load (hpd.loadM low.var (by simp [cells20])) ?_; (repeat apply Exists.intro); refine ⟨rfl, ?_⟩)
  refine wp_bif (fun h => no hpd (.inr (by simpa using h))) fun h => ?_
  have hte : m.term = x.r.term := by simpa using h
  have e0 : x.done m = (
    let k := (m.frm - 1).toNat
    let last := lastI x.r
    let s : Sp := { x with r := { x.r with acks := x.r.acks.set k (max (x.r.acks.getD k 0) m.round) } }
    let s := if m.ok = true then
        (let v := max (s.r.mat.getD k 0) (min m.index last)
         let s : Sp := Sp.counts { s with r := { s.r with mat := s.r.mat.set k v, next := s.r.next.set k (v + 1) } }
         if v + 1 ≤ last then s.sends m.frm else s)
      else if m.index + 1 < s.r.next.getD k 0 then
        (let s : Sp := { s with r := { s.r with next := s.r.next.set k (max (m.index + 1) (s.r.mat.getD k 0 + 1)) } }
         s.sends m.frm)
      else s
    s.answers) := if_neg fun hh => hh.elim (fun h => h hro) fun h => h hte
  dsimp only at e0
  (refine wp_load (hpd.loadH f1 (by simp)) ?_; (repeat apply Exists.intro); refine ⟨rfl, ?_⟩)
  have ef : IntKind.i64.wrap (m.frm - 1) = m.frm - 1 := wrap_i64 (by omega) (by omega)
  (refine wp_load (hpd.loadM low.var (by simp [cells20])) ?_; (repeat apply Exists.intro); refine ⟨rfl, ?_⟩)
  refine wp_call (last_runs hpd (Mp.le.refl _) ⟨_, _, _, _, _, _, _, rfl, Low.ra hpd low sem1⟩ hi0 (by omega)) fun v2 w2 h2 => ?_
  obtain ⟨rfl, hp2⟩ := h2
  ((repeat apply Exists.intro); refine ⟨rfl, ?_⟩)
  have hp3 := hp2.drew
  (refine wp_load (hp3.loadM low.var (by simp [cells20])) ?_; (repeat apply Exists.intro); refine ⟨rfl, ?_⟩)
  (refine wp_load (hp3.loadM low.var (by simp [cells20])) ?_; (repeat apply Exists.intro); refine ⟨rfl, ?_⟩)
  rw [ef]
  refine wp_idx Nu.len (by omega) hp3 (Mp.le.refl _) (Low.ra hp3 low sem1).acks 0 1 (by omega) (by omega) (by omega) fun cs hcs => ?_
  cases hcs
  ((repeat apply Exists.intro); refine ⟨rfl, ?_⟩)
  (refine wp_load (hp3.loadH f1 (by simp)) ?_; (repeat apply Exists.intro); refine ⟨rfl, ?_⟩)
  have emax : ∀ a b : Int, (if b > a then b else a) = max a b := fun a b => by split <;> omega
  rw [emax]
  refine wp_setL 4 (by omega) rfl hp3 low (p := Nu) sem1.acks Nu.len (by omega) (by omega) (y := max (x.r.acks.getD (m.frm - 1).toNat 0) m.round) rfl rfl fun w4 M4 cells4 hp4 low4 hl4 a4 => ?_
  have st4 : St H1 M4 s _ ({ x with r := { x.r with acks := x.r.acks.set (m.frm - 1).toNat (max (x.r.acks.getD (m.frm - 1).toNat 0) m.round) } } : Sp).r x.q := St.of (ss := ss) low4 rfl ⟨sem1.state, sem1.log, sem1.votes, sem1.next, sem1.mat, hl4, sem1.reads, sem1.save, sem1.send, sem1.ready⟩
  have hb4 : Bd k ({ x with r := { x.r with acks := x.r.acks.set (m.frm - 1).toNat (max (x.r.acks.getD (m.frm - 1).toNat 0) m.round) } } : Sp) := ⟨hb.idx, hb.last, hb.term0, hb.term, hb.round0, hb.round, hb.mat, hb.next, hb.log, hb.reads, hb.n, hb.save, hb.send, hb.ready⟩
  have q4 : ((x.r.acks.set (m.frm - 1).toNat (max (x.r.acks.getD (m.frm - 1).toNat 0) m.round)).length : Int) = x.r.n := by rw [List.length_set]; exact q3
  generalize x.r.acks.set (m.frm - 1).toNat (max (x.r.acks.getD (m.frm - 1).toNat 0) m.round) = A at *
  obtain ⟨s5, g5, e5, low5, sem5⟩ := id st4.ex
  (refine wp_load (hp4.loadH f1 (by simp)) ?_; (repeat apply Exists.intro); refine ⟨rfl, ?_⟩)
  -- the answers, at the end of each way
  have fin : ∀ {w' : World} {H' M' : Mp} {o' : List Nat} {z : Sp} {j : Nat}, Hp w0 w' H' M' → H1.le H' → Adv M (g.own s) M' o' → St H' M' s o' z.r z.q → Bd j z → j ≤ 1000 → (z.r.acks.length : Int) = z.r.n → x.done m = z.answers →
      (VC.call 103 [.pointer (some ⟨s, 0, none⟩)] fun v => .isL [v] [.tuple #[]] <| .ret (.tuple #[])).wp Try.prog (fun v w' => v = .tuple #[] ∧ Dd w0 H M s (g.own s) (x.done m) w') (fun _ _ _ => False) w' := by
    intro w' H' M' o' z j hp' hl' ha' st' hb' hj ha e
    refine wp_call (answers_runs hp' st' hb' hj ha) fun v w2 h2 => ?_
    obtain ⟨rfl, h2⟩ := h2
    ((repeat apply Exists.intro); refine ⟨rfl, ?_⟩)
    rw [e]
    exact ⟨rfl, Dd.more (hle1.trans hl') ha' h2⟩
  refine wp_bif (fun hok => ?_) fun hok => ?_
  · simp only [hok, if_true] at e0
    have hp5 := hp4.drew
    (refine wp_load (hp5.loadM low4.var (by simp [cells20])) ?_; (repeat apply Exists.intro); refine ⟨rfl, ?_⟩)
    (refine wp_load (hp5.loadM low4.var (by simp [cells20])) ?_; (repeat apply Exists.intro); refine ⟨rfl, ?_⟩)
    refine wp_idx Nu.len (by omega) hp5 (Mp.le.refl _) (Low.ra (r := { x.r with acks := A }) (q := x.q) hp5 low4 ⟨sem1.state, sem1.log, sem1.votes, sem1.next, sem1.mat, hl4, sem1.reads, sem1.save, sem1.send, sem1.ready⟩).mat 0 1 (by omega) (by show _ < (x.r.mat.length : Int); omega) (by omega) fun cs hcs => ?_
    cases hcs
    ((repeat apply Exists.intro); refine ⟨rfl, ?_⟩)
    (refine wp_load (hp5.loadH f1 (by simp)) ?_; (repeat apply Exists.intro); refine ⟨rfl, ?_⟩)
    have emx : ∀ a b c : Int, (if (if a < b then a else b) > c then if a < b then a else b else c) = max c (min b a) := fun a b c => by split <;> split <;> omega
    rw [emx]
    have hmm := nth_mem (l := x.r.mat) (i := m.frm - 1) (by omega) (by omega)
    obtain ⟨u0, u1⟩ := hb.mat _ hmm
    have hv0 : 0 ≤ max (x.r.mat.getD (m.frm - 1).toNat 0) (min m.index (lastI x.r)) := by omega
    have hv1 : max (x.r.mat.getD (m.frm - 1).toNat 0) (min m.index (lastI x.r)) ≤ 2000000000000000000 + k := by
      have : nth x.r.mat (m.frm - 1) = x.r.mat.getD (m.frm - 1).toNat 0 := rfl
      omega
    change VC.wp _ _ (VC.some _ fun x' => .need _ <| .store _ [.int .u64 (max (x.r.mat.getD (m.frm - 1).toNat 0) (min m.index (lastI x.r)))] _) _ _
    generalize max (x.r.mat.getD (m.frm - 1).toNat 0) (min m.index (lastI x.r)) = v at *
    refine wp_setL 3 (by omega) rfl hp5 low4 (p := Nu) (l := x.r.mat) sem1.mat Nu.len (by omega) (by omega) (y := v) rfl rfl fun w6 M6 cells6 hp6 low6 hl6 a6 => ?_
    have hp7 := hp6.drew
    (refine wp_load (hp7.loadM low6.var (by simp [cells20])) ?_; (repeat apply Exists.intro); refine ⟨rfl, ?_⟩)
    (refine wp_load (hp7.loadM low6.var (by simp [cells20])) ?_; (repeat apply Exists.intro); refine ⟨rfl, ?_⟩)
    have hlm : (m.frm - 1).toNat < x.r.mat.length := by omega
    refine wp_idx Nu.len (by omega) hp7 (Mp.le.refl _) (Low.ra (r := { x.r with acks := A, mat := x.r.mat.set (m.frm - 1).toNat v }) (q := x.q) hp7 low6 ⟨sem1.state, sem1.log, sem1.votes, sem1.next, hl6, hl4, sem1.reads, sem1.save, sem1.send, sem1.ready⟩).mat 0 1 (by omega) (by show _ < ((x.r.mat.set _ _).length : Int); rw [List.length_set]; omega) (by omega) fun cs hcs => ?_
    have eg : ({ x.r with acks := A, mat := x.r.mat.set (m.frm - 1).toNat v } : Raft).mat.getD (m.frm - 1).toNat 0 = v := getD_set hlm
    rw [eg] at hcs
    cases hcs
    ((repeat apply Exists.intro); refine ⟨rfl, ?_⟩)
    change VC.wp _ _ (VC.some _ fun x' => .need _ <| .store _ [.int .u64 (IntKind.u64.wrap (v + 1))] _) _ _
    have ev : IntKind.u64.wrap (v + 1) = v + 1 := wrap_u64 (by omega) (by omega)
    rw [ev]
    refine wp_setL 2 (by omega) rfl hp7 low6 (p := Nu) (l := x.r.next) sem1.next Nu.len (by omega) (by omega) (y := v + 1) rfl rfl fun w8 M8 cells8 hp8 low8 hl8 a8 => ?_
    have st8 : St H1 M8 s _ ({ x with r := { x.r with acks := A, mat := x.r.mat.set (m.frm - 1).toNat v, next := x.r.next.set (m.frm - 1).toNat (v + 1) } } : Sp).r x.q := St.of (ss := ss) low8 rfl ⟨sem1.state, sem1.log, sem1.votes, hl8, hl6, hl4, sem1.reads, sem1.save, sem1.send, sem1.ready⟩
    have hb8 : Bd k ({ x with r := { x.r with acks := A, mat := x.r.mat.set (m.frm - 1).toNat v, next := x.r.next.set (m.frm - 1).toNat (v + 1) } } : Sp) :=
      ⟨hb.idx, hb.last, hb.term0, hb.term, hb.round0, hb.round, mem_set_of hb.mat ⟨hv0, hv1⟩, mem_set_of hb.next ⟨by omega, by omega⟩, hb.log, hb.reads, hb.n, hb.save, hb.send, hb.ready⟩
    have a18 := ((a4.trans a6).trans a8)
    have hln : (m.frm - 1).toNat < x.r.next.length := by omega
    refine wp_call (counts_runs (x := { x with r := { x.r with acks := A, mat := x.r.mat.set (m.frm - 1).toNat v, next := x.r.next.set (m.frm - 1).toNat (v + 1) } }) hp8 st8 hb8 (by omega) (by show ((x.r.mat.set _ _).length : Int) = _; rw [List.length_set]; exact q2)) fun v9 w9 h9 => ?_
    obtain ⟨rfl, H9, M9, o9, hp9, hle9, ha9, st9⟩ := h9
    ((repeat apply Exists.intro); refine ⟨rfl, ?_⟩)
    obtain ⟨sx, gx, rfl, lowx, semx⟩ := id st9.ex
    (refine wp_load (hp9.loadM lowx.var (by simp [cells20])) ?_; (repeat apply Exists.intro); refine ⟨rfl, ?_⟩)
    have q9 : ((x.r.next.set (m.frm - 1).toNat (v + 1)).length : Int) = x.r.n := by rw [List.length_set]; exact q1
    refine wp_idx Nu.len (by omega) hp9 (Mp.le.refl _) (Low.ra hp9 lowx semx).next 0 1 (by omega) (by show _ < ((x.r.next.set _ _).length : Int); omega) (by omega) fun cs hcs => ?_
    have eg2 : (x.r.next.set (m.frm - 1).toNat (v + 1)).getD (m.frm - 1).toNat 0 = v + 1 := getD_set hln
    change Nu cs ((x.r.next.set (m.frm - 1).toNat (v + 1)).getD (m.frm - 1).toNat 0) at hcs
    rw [eg2] at hcs
    cases hcs
    ((repeat apply Exists.intro); refine ⟨rfl, ?_⟩)
    refine wp_bif (fun h10 => ?_) fun h10 => ?_
    · have g10 : v + 1 ≤ lastI x.r := of_decide_eq_true h10
      rw [if_pos g10] at e0
      (refine wp_load (hp9.loadH (hle9 _ _ f1) (by simp)) ?_; (repeat apply Exists.intro); refine ⟨rfl, ?_⟩)
      refine wp_call (sends_runs hp9 st9 hb8.counts (by omega) q9 f0 fn) fun v11 w11 h11 => ?_
      obtain ⟨rfl, H11, M11, o11, hp11, hle11, ha11, st11⟩ := h11
      ((repeat apply Exists.intro); refine ⟨rfl, ?_⟩)
      exact fin hp11 (hle9.trans hle11) ((a18.trans ha9).trans ha11) st11 hb8.counts.sends (by omega) (by rw [sends_r]; exact q4) e0
    · have g10 : ¬ v + 1 ≤ lastI x.r := of_decide_eq_false h10
      rw [if_neg g10] at e0
      exact fin hp9 hle9 (a18.trans ha9) st9 hb8.counts (by omega) q4 e0
  · simp only [hok, Bool.false_eq_true, if_false] at e0
    have hp5 := hp4.drew
    have ei : IntKind.u64.wrap (m.index + 1) = m.index + 1 := wrap_u64 (by omega) (by omega)
    (refine wp_load (hp5.loadH f1 (by simp)) ?_; (repeat apply Exists.intro); refine ⟨rfl, ?_⟩)
    (refine wp_load (hp5.loadM low4.var (by simp [cells20])) ?_; (repeat apply Exists.intro); refine ⟨rfl, ?_⟩)
    refine wp_idx Nu.len (by omega) hp5 (Mp.le.refl _) (Low.ra (r := { x.r with acks := A }) (q := x.q) hp5 low4 ⟨sem1.state, sem1.log, sem1.votes, sem1.next, sem1.mat, hl4, sem1.reads, sem1.save, sem1.send, sem1.ready⟩).next 0 1 (by omega) (by show _ < (x.r.next.length : Int); omega) (by omega) fun cs hcs => ?_
    cases hcs
    ((repeat apply Exists.intro); refine ⟨rfl, ?_⟩)
    change VC.wp _ _ (bif decide (IntKind.u64.wrap (m.index + 1) < x.r.next.getD (m.frm - 1).toNat 0) then _ else _) _ _
    rw [ei]
    refine wp_bif (fun h6 => ?_) fun h6 => ?_
    · have g6 : m.index + 1 < x.r.next.getD (m.frm - 1).toNat 0 := of_decide_eq_true h6
      rw [if_pos g6] at e0
      have hp7 := hp5.drew
      (refine wp_load (hp7.loadM low4.var (by simp [cells20])) ?_; (repeat apply Exists.intro); refine ⟨rfl, ?_⟩)
      (refine wp_load (hp7.loadH f1 (by simp)) ?_; (repeat apply Exists.intro); refine ⟨rfl, ?_⟩)
      (refine wp_load (hp7.loadM low4.var (by simp [cells20])) ?_; (repeat apply Exists.intro); refine ⟨rfl, ?_⟩)
      refine wp_idx Nu.len (by omega) hp7 (Mp.le.refl _) (Low.ra (r := { x.r with acks := A }) (q := x.q) hp7 low4 ⟨sem1.state, sem1.log, sem1.votes, sem1.next, sem1.mat, hl4, sem1.reads, sem1.save, sem1.send, sem1.ready⟩).mat 0 1 (by omega) (by show _ < (x.r.mat.length : Int); omega) (by omega) fun cs hcs => ?_
      cases hcs
      ((repeat apply Exists.intro); refine ⟨rfl, ?_⟩)
      have hmm := nth_mem (l := x.r.mat) (i := m.frm - 1) (by omega) (by omega)
      obtain ⟨u0, u1⟩ := hb.mat _ hmm
      change 0 ≤ x.r.mat.getD (m.frm - 1).toNat 0 at u0
      change x.r.mat.getD (m.frm - 1).toNat 0 ≤ _ at u1
      change VC.wp _ _ (VC.some _ fun x' => .need _ <| .store _ [.int .u64 (if IntKind.u64.wrap (x.r.mat.getD (m.frm - 1).toNat 0 + 1) > IntKind.u64.wrap (m.index + 1) then IntKind.u64.wrap (x.r.mat.getD (m.frm - 1).toNat 0 + 1) else IntKind.u64.wrap (m.index + 1))] _) _ _
      rw [wrap_u64 (x := x.r.mat.getD (m.frm - 1).toNat 0 + 1) (by omega) (by omega), ei, emax]
      have hv0 : 0 ≤ max (m.index + 1) (x.r.mat.getD (m.frm - 1).toNat 0 + 1) := by omega
      have hv1 : max (m.index + 1) (x.r.mat.getD (m.frm - 1).toNat 0 + 1) ≤ 2000000000000000001 + k := by omega
      change x.done m = Sp.answers (Sp.sends { x with r := { x.r with acks := A, next := x.r.next.set (m.frm - 1).toNat (max (m.index + 1) (x.r.mat.getD (m.frm - 1).toNat 0 + 1)) } } m.frm) at e0
      generalize max (m.index + 1) (x.r.mat.getD (m.frm - 1).toNat 0 + 1) = v at *
      refine wp_setL 2 (by omega) rfl hp7 low4 (p := Nu) (l := x.r.next) sem1.next Nu.len (by omega) (by omega) (y := v) rfl rfl fun w8 M8 cells8 hp8 low8 hl8 a8 => ?_
      have st8 : St H1 M8 s _ ({ x with r := { x.r with acks := A, next := x.r.next.set (m.frm - 1).toNat v } } : Sp).r x.q := St.of (ss := ss) low8 rfl ⟨sem1.state, sem1.log, sem1.votes, hl8, sem1.mat, hl4, sem1.reads, sem1.save, sem1.send, sem1.ready⟩
      have hb8 : Bd k ({ x with r := { x.r with acks := A, next := x.r.next.set (m.frm - 1).toNat v } } : Sp) :=
        ⟨hb.idx, hb.last, hb.term0, hb.term, hb.round0, hb.round, hb.mat, mem_set_of hb.next ⟨hv0, hv1⟩, hb.log, hb.reads, hb.n, hb.save, hb.send, hb.ready⟩
      (refine wp_load (hp8.loadH f1 (by simp)) ?_; (repeat apply Exists.intro); refine ⟨rfl, ?_⟩)
      refine wp_call (sends_runs (x := { x with r := { x.r with acks := A, next := x.r.next.set (m.frm - 1).toNat v } }) hp8 st8 hb8 (by omega) (by show ((x.r.next.set _ _).length : Int) = _; rw [List.length_set]; exact q1) f0 fn) fun v11 w11 h11 => ?_
      obtain ⟨rfl, H11, M11, o11, hp11, hle11, ha11, st11⟩ := h11
      ((repeat apply Exists.intro); refine ⟨rfl, ?_⟩)
      exact fin hp11 hle11 ((a4.trans a8).trans ha11) st11 hb8.sends (by omega) (by rw [sends_r]; exact q4) e0
    · have g6 : ¬ m.index + 1 < x.r.next.getD (m.frm - 1).toNat 0 := of_decide_eq_false h6
      rw [if_neg g6] at e0
      exact fin hp5 (Mp.le.refl _) a4 st4 hb4 (by omega) q4 e0
end
end Go.Proofs.Ytnbfffmdplcajaa
