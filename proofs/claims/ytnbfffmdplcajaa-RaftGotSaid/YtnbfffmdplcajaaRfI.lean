/- Contracts of the document's answer: follows, asked, voted; appends; Fold of a snapshot alone, snaps; done, Got. -/
import Derived.Test.YtnbfffmdplcajaaRfD
import Derived.Test.YtnbfffmdplcajaaTreeRf2
namespace Go.Proofs.Ytnbfffmdplcajaa
open Go.Vc Go.Vc.Rf

/-- How many of the first votes are given. -/
theorem votes_cnt {r : Raft} (h1 : 1 ≤ r.id) (t : Nat) : ((List.range t).countP fun i => r.votes.getD i false) =
    (if r.id ≤ t ∧ r.votes.getD (r.id - 1).toNat false = true then 1 else 0) + (othersTo r t).countP fun i => r.votes.getD (i - 1).toNat false := by
  induction t with
  | zero =>
    have : ¬ r.id ≤ ((0 : Nat) : Int) := by omega
    rw [if_neg fun h => this h.1]; rfl
  | succ t ih =>
    have e1 : ((t : Int) + 1 - 1).toNat = t := by omega
    rw [List.range_succ, List.countP_append, ih, countTo_succ, List.countP_singleton, e1]
    by_cases e : r.id = (t : Int) + 1
    · have e2 : (r.id - 1).toNat = t := by omega
      have n1 : ¬ r.id ≤ (t : Int) := by omega
      have n2 : r.id ≤ ((t + 1 : Nat) : Int) := by omega
      have n3 : ((t : Int) + 1 != r.id) = false := by simp [e]
      rw [if_neg fun h => n1 h.1, n3, e2]
      by_cases hv : r.votes.getD t false = true
      · rw [if_pos hv, if_pos ⟨n2, hv⟩, if_neg fun h => by cases h.1]; omega
      · rw [if_neg hv, if_neg fun h => hv h.2, if_neg fun h => by cases h.1]; omega
    · have n3 : ((t : Int) + 1 != r.id) = true := by simp; omega
      have n4 : (r.id ≤ ((t + 1 : Nat) : Int)) ↔ (r.id ≤ (t : Int)) := by omega
      simp only [n3, n4, true_and]
      omega

section
variable {w0 w : World} {H M U : Mp} {s : Nat} {o : List Nat} {x : Sp} {k : Nat}
variable {P : Program} {R : Value → World → Prop} {env : Nat → List Value → World → Prop}

theorem refFollows_runs {t : Int} (hp : Hp w0 w H M) (st : St H M s o x.r x.q) (hb : x.q.save.length ≤ 10000000) : Runs Try.prog 88 [.pointer (some ⟨s, 0, none⟩), .int .u64 t] w fun v w' => v = .tuple #[] ∧ Dd w0 H M s o (x.follows t) w' := by
  obtain ⟨ss, g, rfl, low, sem⟩ := st.ex
  apply r88
  refine wp_storeL hp low (by simp [cells20]) (by simp [Value.oneCell']) fun w1 M1 hp1 low1 a1 => ?_
  refine wp_storeL hp1 low1 (by simp [cells20, splice]) (by simp [Value.oneCell']) fun w2 M2 hp2 low2 a2 => ?_
  have st2 : St H M2 s (g.own s) { x.r with term := t, vote := 0 } x.q := St.of (ss := ss) low2 rfl ⟨sem.state, sem.log, sem.votes, sem.next, sem.mat, sem.acks, sem.reads, sem.save, sem.send, sem.ready⟩
  refine wp_call (refBare_runs (role := 0) (lead := 0) (x := ⟨{ x.r with term := t, vote := 0 }, x.q⟩) hp2 st2) fun v4 w4 h4 => ?_
  obtain ⟨rfl, H4, M4, o4, hp4, hle4, ha4, st4⟩ := h4
  ((repeat apply Exists.intro); refine ⟨rfl, ?_⟩)
  refine wp_call (refHard_runs (x := Sp.bareAs ⟨{ x.r with term := t, vote := 0 }, x.q⟩ 0 0) hp4 st4 (by show x.q.save.length ≤ _; omega)) fun v5 w5 h5 => ?_
  obtain ⟨rfl, h5⟩ := h5
  ((repeat apply Exists.intro); refine ⟨rfl, ?_⟩)
  exact ⟨rfl, Dd.more hle4 ((a1.trans a2).trans ha4) h5⟩

set_option maxHeartbeats 4000000 in
theorem refAsked_runs {m : Msg} {cs : List Value} (hp : Hp w0 w H M) (st : St H M s o x.r x.q) (hm : Ms H cs m) (hb : Bd k x) (hk : k ≤ 1000) (f0 : 1 ≤ m.frm) :
    Runs Try.prog 89 [.pointer (some ⟨s, 0, none⟩), .agg cs.toArray] w fun v w' => v = .tuple #[] ∧ Dd w0 H M s o (x.asked m) w' := by
  have st0 := st
  obtain ⟨ss, g, rfl, low, sem⟩ := st.ex
  obtain ⟨a1, n1, c1, a2, n2, c2, rfl, he, hs⟩ := hm
  have hi0 := hb.idx
  have hla := hb.last
  have hsd := hb.send
  have hsv := hb.save
  have hlg := hb.log
  apply r89
  refine wp_newH hp fun p1 w1 H1 hp1 hle1 f1 => ?_
  (refine wp_load (hp1.loadM low.var (by simp [cells20])) ?_; (repeat apply Exists.intro); refine ⟨rfl, ?_⟩)
  refine wp_call (refLast_runs (r := x.r) hp1 (Mp.le.refl _) ⟨_, _, _, _, _, _, _, rfl, Low.ra hp1 low (sem.mono hle1)⟩ ⟨hi0, by unfold lastI at hla; omega⟩ (by omega)) fun v2 w2 h2 => ?_
  obtain ⟨rfl, hp2⟩ := h2
  ((repeat apply Exists.intro); refine ⟨rfl, ?_⟩)
  have el : IntKind.u64.wrap (lastI x.r) = lastI x.r := wrap_u64 (by unfold lastI; omega) (by omega)
  rw [el]
  have leafN : ∀ {w' : World} {b : Bool}, Hp w0 w' H1 M → grants x.r m = b → (b = true → x.r.vote ≠ 0) →
      (VC.call 81 [.pointer (some ⟨s, 0, none⟩), .agg #[.int .i64 2, .int .i64 0, .int .i64 m.frm, .int .u64 0, .int .u64 0, .int .u64 0, .slice none 0 0, .int .u64 0, .int .u64 0, .bool b, .int .u64 0, .int .u64 0, .slice none 0 0, .int .i64 0, .int .i64 0, .int .u64 0, .string ⟨#[]⟩, .string ⟨#[]⟩, .int .u64 0, .int .i64 0, .string ⟨#[]⟩]] fun v => .isL [v] [.tuple #[]] <| .ret (.tuple #[])).wp Try.prog
        (fun v w' => v = .tuple #[] ∧ Dd w0 H M s (g.own s) (x.asked m) w') (fun _ _ _ => False) w' := by
    intro w' b hp' hg hv
    refine wp_call (refSend_runs (m := { Msg.none with kind := 2, dest := m.frm, ok := b }) hp' (st0.mono hle1) ⟨_, _, _, _, _, _, rfl, Sl.nil _ _, Bs.nil _⟩ (by omega)) fun v3 w3 h3 => ?_
    obtain ⟨rfl, h3⟩ := h3
    ((repeat apply Exists.intro); refine ⟨rfl, ?_⟩)
    have e : x.asked m = x.send { Msg.none with kind := 2, dest := m.frm, ok := b } := by
      unfold Sp.asked
      rw [hg, if_neg]
      rw [Bool.and_eq_true]
      exact fun hh => hv hh.1 (by simpa using hh.2)
    rw [e]
    exact ⟨rfl, Dd.of hle1 h3⟩
  have leafY : ∀ {w' : World} {b : Bool}, Hp w0 w' H1 M → grants x.r m = b → b = true → x.r.vote = 0 →
      (VC.store ⟨s, 1, none⟩ [.int .i64 m.frm] <| .call 78 [.pointer (some ⟨s, 0, none⟩)] fun v => .isL [v] [.tuple #[]] <| .load ⟨p1, 1, none⟩ 1 fun v => .exI fun i => .isL v [.int .i64 i] <|
       VC.call 81 [.pointer (some ⟨s, 0, none⟩), .agg #[.int .i64 2, .int .i64 0, .int .i64 i, .int .u64 0, .int .u64 0, .int .u64 0, .slice none 0 0, .int .u64 0, .int .u64 0, .bool b, .int .u64 0, .int .u64 0, .slice none 0 0, .int .i64 0, .int .i64 0, .int .u64 0, .string ⟨#[]⟩, .string ⟨#[]⟩, .int .u64 0, .int .i64 0, .string ⟨#[]⟩]] fun v => .isL [v] [.tuple #[]] <| .ret (.tuple #[])).wp Try.prog
        (fun v w' => v = .tuple #[] ∧ Dd w0 H M s (g.own s) (x.asked m) w') (fun _ _ _ => False) w' := by
    intro w' b hp' hg hbt hv
    refine wp_storeL hp' low (by simp [cells20]) (by simp [Value.oneCell']) fun w3 M3 hp3 low3 a3 => ?_
    have sm := sem.mono hle1
    have st3 : St H1 M3 s _ ({ x with r := { x.r with vote := m.frm } } : Sp).r x.q := St.of (ss := ss) low3 rfl ⟨sm.state, sm.log, sm.votes, sm.next, sm.mat, sm.acks, sm.reads, sm.save, sm.send, sm.ready⟩
    refine wp_call (refHard_runs (x := { x with r := { x.r with vote := m.frm } }) hp3 st3 (by show x.q.save.length ≤ _; omega)) fun v4 w4 h4 => ?_
    obtain ⟨rfl, H4, M4, o4, hp4, hle4, ha4, st4⟩ := h4
    ((repeat apply Exists.intro); refine ⟨rfl, ?_⟩)
    (refine wp_load (hp4.loadH (hle4 _ _ f1) (by simp)) ?_; (repeat apply Exists.intro); refine ⟨rfl, ?_⟩)
    refine wp_call (refSend_runs (m := { Msg.none with kind := 2, dest := m.frm, ok := b }) hp4 st4 ⟨_, _, _, _, _, _, rfl, Sl.nil _ _, Bs.nil _⟩ (by show x.q.send.length ≤ _; omega)) fun v5 w5 h5 => ?_
    obtain ⟨rfl, h5⟩ := h5
    ((repeat apply Exists.intro); refine ⟨rfl, ?_⟩)
    have e : x.asked m = (({ x with r := { x.r with vote := m.frm } } : Sp).hard).send { Msg.none with kind := 2, dest := m.frm, ok := b } := by
      unfold Sp.asked
      rw [hg, if_pos]
      rw [hbt, hv]; rfl
    rw [e]
    exact ⟨rfl, Dd.more (hle1.trans hle4) (a3.trans ha4) h5⟩
  (repeat' (first | refine wp_bif (fun h => ?_) (fun h => ?_) | (refine wp_load (Hp.loadH (by repeat (first | assumption | apply Hp.drew)) (f1) (by simp)) ?_; (repeat apply Exists.intro); refine ⟨rfl, ?_⟩) | (refine wp_load (Hp.loadM (by repeat (first | assumption | apply Hp.drew)) (low.var) (by simp [cells20])) ?_; (repeat apply Exists.intro); refine ⟨rfl, ?_⟩) | refine wp_draw ?_))
  all_goals first | refine leafN (by repeat (first | assumption | apply Hp.drew)) ?_ ?_ | refine leafY (by repeat (first | assumption | apply Hp.drew)) ?_ ?_ ?_
  all_goals clear leafN leafY
  all_goals simp_all [grants, fresh]
  all_goals first | omega | done

theorem refVoted_runs {m : Msg} {cs : List Value} (hp : Hp w0 w H M) (st : St H M s o x.r x.q) (hm : Ms H cs m) (hb : Bd k x) (hk : k ≤ 800)
    (h1 : 1 ≤ x.r.id) (h2 : x.r.id ≤ x.r.n) (hv : x.r.role = 1 → (x.r.votes.length : Int) = x.r.n) (f0 : 1 ≤ m.frm) (f1 : m.frm ≤ x.r.n) (hc : x.r.snap.idx ≤ x.r.commit) :
    Runs Try.prog 90 [.pointer (some ⟨s, 0, none⟩), .agg cs.toArray] w fun v w' => v = .tuple #[] ∧ Dd w0 H M s o (x.voted m) w' := by
  have st0 := st
  obtain ⟨ss, g, rfl, low, sem⟩ := st.ex
  obtain ⟨a1, n1, c1, a2, n2, c2, rfl, he, hs⟩ := hm
  have hn := hb.n
  apply r90
  refine wp_newH hp fun p1 w1 H1 hp1 hle1 g1 => ?_
  have hpd := hp1.drew
  have no : ∀ w', Hp w0 w' H1 M → ¬ (x.r.role = 1 ∧ m.term = x.r.term ∧ m.ok = true) → Value.tuple #[] = .tuple #[] ∧ Dd w0 H M s (g.own s) (x.voted m) w' := fun w' hp' hn => by
    have e : x.voted m = x := if_neg hn
    rw [e]
    exact ⟨rfl, H1, M, _, hp', hle1, Adv.refl _ _, st0.mono hle1⟩
  (refine wp_load (hpd.loadM low.var (by simp [cells20])) ?_; (repeat apply Exists.intro); refine ⟨rfl, ?_⟩)
  refine wp_bif (fun h => no _ hpd fun hh => by rw [hh.1] at h; simp at h) fun h => ?_
  have hro : x.r.role = 1 := by simpa using h
  (refine wp_load (hpd.loadH g1 (by simp)) ?_; (repeat apply Exists.intro); refine ⟨rfl, ?_⟩)
  (refine wp_load (hpd.loadM low.var (by simp [cells20])) ?_; (repeat apply Exists.intro); refine ⟨rfl, ?_⟩)
  refine wp_bif (fun h => no _ hpd fun hh => by rw [hh.2.1] at h; simp at h) fun h => ?_
  have hte : m.term = x.r.term := by simpa using h
  (refine wp_load (hpd.loadH g1 (by simp)) ?_; (repeat apply Exists.intro); refine ⟨rfl, ?_⟩)
  refine wp_bif (fun h => no _ hpd fun hh => by rw [hh.2.2] at h; simp at h) fun h => ?_
  have hok : m.ok = true := by simpa using h
  have hpe := hpd.drew
  have hvl := hv hro
  (refine wp_load (hpe.loadM low.var (by simp [cells20])) ?_; (repeat apply Exists.intro); refine ⟨rfl, ?_⟩)
  (refine wp_load (hpe.loadH g1 (by simp)) ?_; (repeat apply Exists.intro); refine ⟨rfl, ?_⟩)
  have ei : IntKind.i64.wrap (m.frm - 1) = m.frm - 1 := wrap_i64 (by omega) (by omega)
  rw [ei]
  refine wp_setL 1 (by omega) rfl hpe low (p := Bo) sem.votes Bo.len (by omega) (by omega) (y := true) rfl rfl fun w2 M2 cells2 hp2 low2 hl2 a2 => ?_
  have sm := sem.mono hle1
  have e : x.voted m = ({ x with r := { x.r with votes := x.r.votes.set (m.frm - 1).toNat true } } : Sp).elects := if_pos ⟨hro, hte, hok⟩
  rw [e]
  have hvl2 : ((x.r.votes.set (m.frm - 1).toNat true).length : Int) = x.r.n := by simpa using hvl
  have hb2 : Bd k ({ x with r := { x.r with votes := x.r.votes.set (m.frm - 1).toNat true } } : Sp) := ⟨hb.idx, hb.last, hb.term0, hb.term, hb.round0, hb.round, hb.mat, hb.next, hb.log, hb.reads, hb.n, hb.save, hb.send, hb.ready⟩
  have sem2 : Rf.Sem H1 ({ x with r := { x.r with votes := x.r.votes.set (m.frm - 1).toNat true } } : Sp).r x.q ss (g.upd 1 ⟨(g 1).sl, cells2, (g 1).o⟩) := ⟨sm.state, sm.log, hl2, sm.next, sm.mat, sm.acks, sm.reads, sm.save, sm.send, sm.ready⟩
  generalize hy : ({ x with r := { x.r with votes := x.r.votes.set (m.frm - 1).toNat true } } : Sp) = y at *
  have hyid : y.r.id = x.r.id := by subst hy; rfl
  have hyn : y.r.n = x.r.n := by subst hy; rfl
  have hyq : y.q = x.q := by subst hy; rfl
  have hyv : y.r.votes = x.r.votes.set (m.frm - 1).toNat true := by subst hy; rfl
  have hyc : y.r.snap.idx ≤ y.r.commit := by subst hy; exact hc
  have low3 : Low M2 s (cells20 y.r ss (g.upd 1 ⟨(g 1).sl, cells2, (g 1).o⟩)) (g.upd 1 ⟨(g 1).sl, cells2, (g 1).o⟩) := by subst hy; exact low2
  rw [← hyv] at hvl2
  rw [← hyq] at sem2
  have st2 : St H1 M2 s _ y.r y.q := St.of (ss := ss) low3 rfl sem2
  have hcnt := votes_cnt (r := y.r) (by omega) y.r.n.toNat
  have hmost : most y.r (y.r.votes.getD (y.r.id - 1).toNat false) (fun i => y.r.votes.getD i.toNat false) = decide (2 * (((List.range y.r.n.toNat).countP fun i => y.r.votes.getD i false : Nat) : Int) > y.r.n) := by
    rw [hcnt]
    unfold most
    rw [← others_to]
    have : y.r.id ≤ ((y.r.n.toNat : Nat) : Int) := by omega
    simp only [this, true_and]
    congr 2
    split <;> simp
  refine ⟨fun vs w' => ∃ t : Nat, vs = [.int .i64 ((List.range t).countP fun i => y.r.votes.getD i false : Nat), .int .i64 (t : Int)] ∧ t ≤ y.r.n.toNat ∧ Hp w0 w' H1 M2,
    fun vs _ => match vs with | [_, .int _ q] => 9 - q.toNat | _ => 0, ⟨0, rfl, Nat.zero_le _, hp2⟩, ?_⟩
  rintro vs w4 ⟨t, rfl, ht, hp4⟩
  have hcl : (List.range t).countP (fun i => y.r.votes.getD i false) ≤ t := Nat.le_trans List.countP_le_length (by simp)
  ((repeat apply Exists.intro); refine ⟨rfl, ?_⟩)
  (refine wp_load (hp4.loadM low3.var (by simp [cells20])) ?_; (repeat apply Exists.intro); refine ⟨rfl, ?_⟩)
  refine wp_bif (fun h => ?_) fun h => ?_
  · have htn : (t : Int) < y.r.n := of_decide_eq_true h
    (refine wp_load (hp4.loadM low3.var (by simp [cells20])) ?_; (repeat apply Exists.intro); refine ⟨rfl, ?_⟩)
    refine wp_idx Bo.len (by omega) hp4 (Mp.le.refl _) (Low.ra hp4 low3 sem2).votes false 1 (by omega) (by omega) (by omega) fun cs hcs => ?_
    cases hcs
    ((repeat apply Exists.intro); refine ⟨rfl, ?_⟩)
    have ew : IntKind.i64.wrap ((t : Int) + 1) = ((t + 1 : Nat) : Int) := by rw [wrap_i64 (by omega) (by omega)]; rfl
    have es : (List.range (t + 1)).countP (fun i => y.r.votes.getD i false) = (List.range t).countP (fun i => y.r.votes.getD i false) + if y.r.votes.getD t false = true then 1 else 0 := by
      rw [List.range_succ, List.countP_append, List.countP_singleton]
    refine wp_bif (fun h5 => ?_) fun h5 => ?_
    · have h5' : y.r.votes.getD t false = true := h5
      refine ⟨⟨t + 1, ?_, by omega, hp4⟩, ?_⟩
      · rw [es, if_pos h5', ew, wrap_i64 (by omega) (by omega)]
        simp
      · show 9 - (IntKind.i64.wrap ((t : Int) + 1)).toNat < 9 - (t : Int).toNat
        rw [ew]; omega
    · have h5' : ¬ y.r.votes.getD t false = true := by rw [show y.r.votes.getD t false = false from h5]; simp
      refine ⟨⟨t + 1, ?_, by omega, hp4⟩, ?_⟩
      · rw [es, if_neg h5', ew]
        simp
      · show 9 - (IntKind.i64.wrap ((t : Int) + 1)).toNat < 9 - (t : Int).toNat
        rw [ew]; omega
  · have hte2 : t = y.r.n.toNat := by have := of_decide_eq_false h; omega
    subst hte2
    refine wp_call (refMost_runs hp4 st2 (by omega) (by omega)) fun v5 w5 h5 => ?_
    obtain ⟨rfl, hp5⟩ := h5
    ((repeat apply Exists.intro); refine ⟨rfl, ?_⟩)
    rw [← hmost]
    refine wp_bif (fun h6 => ?_) fun h6 => ?_
    · refine wp_call (refLeads_runs hp5 st2 hb2 hk (by omega) hyc) fun v7 w7 h7 => ?_
      obtain ⟨rfl, h7⟩ := h7
      ((repeat apply Exists.intro); refine ⟨rfl, ?_⟩)
      refine ⟨rfl, ?_⟩
      unfold Sp.elects
      rw [if_pos h6]
      exact Dd.more hle1 a2 h7
    · refine ⟨rfl, ?_⟩
      unfold Sp.elects
      rw [if_neg (by rw [h6]; simp)]
      exact ⟨H1, M2, _, hp5, hle1, a2, st2⟩
end
end Go.Proofs.Ytnbfffmdplcajaa
namespace Go.Proofs.Ytnbfffmdplcajaa
open Go.Vc Go.Vc.Rf

section
variable {w0 w : World} {H M U : Mp} {s : Nat} {o : List Nat} {x y : Sp} {k : Nat}
variable {R : Value → World → Prop} {env : Nat → List Value → World → Prop}

/-- What takes up the entries of a letter, and answers it. -/
def appV (s p1 : Nat) : VC :=
  .loop 0 [.int .i64 0] (fun v183 =>
  .exI fun i184 =>
  .isL v183 [.int .i64 i184] <|
  .load ⟨p1, 6, none⟩ 1 fun v185 =>
  .exS fun a186 n186 c186 =>
  .isL v185 [.slice a186 n186 c186] <|
  bif (decide (i184 < (↑n186 : Int))) then
   (.load ⟨p1, 4, none⟩ 1 fun v187 =>
   .exI fun i188 =>
   .isL v187 [.int .u64 i188] <|
   .load ⟨s, 0, none⟩ 17 fun v189 =>
   .exI fun i190 =>
   .exI fun i191 =>
   .exI fun i192 =>
   .exI fun i193 =>
   .exI fun i194 =>
   .exI fun i195 =>
   .exS fun a196 n196 c196 =>
   .exS fun a197 n197 c197 =>
   .exI fun i198 =>
   .exI fun i199 =>
   .exI fun i200 =>
   .exS fun a201 n201 c201 =>
   .exS fun a202 n202 c202 =>
   .exS fun a203 n203 c203 =>
   .exS fun a204 n204 c204 =>
   .exI fun i205 =>
   .exS fun a206 n206 c206 =>
   .isL v189 [.int .u64 i190, .int .i64 i191, .int .i64 i192, .int .i64 i193, .int .u64 i194, .int .u64 i195, .slice a196 n196 c196, .slice a197 n197 c197, .int .u64 i198, .int .i64 i199, .int .i64 i200, .slice a201 n201 c201, .slice a202 n202 c202, .slice a203 n203 c203, .slice a204 n204 c204, .int .u64 i205, .slice a206 n206 c206] <|
   .call 28 ([.agg #[.int .u64 i190, .int .i64 i191, .int .i64 i192, .int .i64 i193, .int .u64 i194, .int .u64 i195, .slice a196 n196 c196, .slice a197 n197 c197, .int .u64 i198, .int .i64 i199, .int .i64 i200, .slice a201 n201 c201, .slice a202 n202 c202, .slice a203 n203 c203, .slice a204 n204 c204, .int .u64 i205, .slice a206 n206 c206], .int .u64 (IntKind.u64.wrap (IntKind.u64.wrap (i188 + 1) + IntKind.u64.wrap i184))]) fun v207 =>
   .exI fun i208 =>
   .exB fun b209 =>
   .isL [v207] [.tuple #[.int .u64 i208, .bool b209]] <|
   .load ⟨s, 4, none⟩ 1 fun v210 =>
   .exI fun i211 =>
   .isL v210 [.int .u64 i211] <|
   bif (decide (IntKind.u64.wrap (IntKind.u64.wrap (i188 + 1) + IntKind.u64.wrap i184) ≤ i211)) then
    (.again 0 [.int .i64 (IntKind.i64.wrap (i184 + 1))])
   else
   (bif b209 then
    (.load ⟨p1, 6, none⟩ 1 fun v212 =>
    .exS fun a213 n213 c213 =>
    .isL v212 [.slice a213 n213 c213] <|
    .some a213 fun x214 =>
    .need ((0 : Int) ≤ i184 ∧ i184 < (↑n213 : Int)) <|
    .load (x214.add (i184.toNat * 2)) 1 fun v215 =>
    .exI fun i216 =>
    .isL v215 [.int .u64 i216] <|
    bif (i208 == i216) then
     (.again 0 [.int .i64 (IntKind.i64.wrap (i184 + 1))])
    else
    (bif b209 then
     (.draw <|
     .load ⟨s, 7, none⟩ 1 fun v217 =>
     .exS fun a218 n218 c218 =>
     .isL v217 [.slice a218 n218 c218] <|
     .load ⟨s, 4, none⟩ 1 fun v219 =>
     .exI fun i220 =>
     .isL v219 [.int .u64 i220] <|
     .need ((0 : Int) ≤ IntKind.u64.wrap (IntKind.u64.wrap (IntKind.u64.wrap (IntKind.u64.wrap (i188 + 1) + IntKind.u64.wrap i184) - i220) - 1) ∧ IntKind.u64.wrap (IntKind.u64.wrap (IntKind.u64.wrap (IntKind.u64.wrap (i188 + 1) + IntKind.u64.wrap i184) - i220) - 1) ≤ (↑c218 : Int)) <|
     .store ⟨s, 7, none⟩ [.slice (if c218 = 0 then a218 else Option.map (fun x => x) a218) ((IntKind.u64.wrap (IntKind.u64.wrap (IntKind.u64.wrap (IntKind.u64.wrap (i188 + 1) + IntKind.u64.wrap i184) - i220) - 1)).toNat - 0) (c218 - 0)] <|
     .load ⟨s, 17, none⟩ 1 fun v221 =>
     .exS fun a222 n222 c222 =>
     .isL v221 [.slice a222 n222 c222] <|
     .new 59 [.int .i64 3, .int .u64 0, .int .i64 0, .int .u64 0, .slice none 0 0, .int .u64 (IntKind.u64.wrap (IntKind.u64.wrap (i188 + 1) + IntKind.u64.wrap i184)), .int .u64 0, .int .u64 0, .slice none 0 0] fun p223 =>
     .append 59 9 104 [.int .i64 0, .int .u64 0, .int .i64 0, .int .u64 0, .slice none 0 0, .int .u64 0, .int .u64 0, .int .u64 0, .slice none 0 0] a222 n222 c222 (some ⟨p223, 0, none⟩) 1 fun a224 n224 c224 =>
     .store ⟨s, 17, none⟩ [.slice a224 n224 c224] <|
     .load ⟨p1, 6, none⟩ 1 fun v225 =>
     .exS fun a226 n226 c226 =>
     .isL v225 [.slice a226 n226 c226] <|
     .some a226 fun x227 =>
     .need ((0 : Int) ≤ i184 ∧ i184 < (↑n226 : Int)) <|
     .load (x227.add (i184.toNat * 2)) 2 fun v228 =>
     .exI fun i229 =>
     .exS fun a230 n230 c230 =>
     .isL v228 [.int .u64 i229, .slice a230 n230 c230] <|
     .call 84 ([.pointer (some ⟨s, 0, none⟩), .agg #[.int .u64 i229, .slice a230 n230 c230]]) fun v231 =>
     .isL [v231] [.tuple #[]] <|
     .again 0 [.int .i64 (IntKind.i64.wrap (i184 + 1))])
    else
    (.load ⟨p1, 6, none⟩ 1 fun v232 =>
    .exS fun a233 n233 c233 =>
    .isL v232 [.slice a233 n233 c233] <|
    .some a233 fun x234 =>
    .need ((0 : Int) ≤ i184 ∧ i184 < (↑n233 : Int)) <|
    .load (x234.add (i184.toNat * 2)) 2 fun v235 =>
    .exI fun i236 =>
    .exS fun a237 n237 c237 =>
    .isL v235 [.int .u64 i236, .slice a237 n237 c237] <|
    .call 84 ([.pointer (some ⟨s, 0, none⟩), .agg #[.int .u64 i236, .slice a237 n237 c237]]) fun v238 =>
    .isL [v238] [.tuple #[]] <|
    .again 0 [.int .i64 (IntKind.i64.wrap (i184 + 1))])))
   else
   (bif b209 then
    (.draw <|
    .load ⟨s, 7, none⟩ 1 fun v239 =>
    .exS fun a240 n240 c240 =>
    .isL v239 [.slice a240 n240 c240] <|
    .load ⟨s, 4, none⟩ 1 fun v241 =>
    .exI fun i242 =>
    .isL v241 [.int .u64 i242] <|
    .need ((0 : Int) ≤ IntKind.u64.wrap (IntKind.u64.wrap (IntKind.u64.wrap (IntKind.u64.wrap (i188 + 1) + IntKind.u64.wrap i184) - i242) - 1) ∧ IntKind.u64.wrap (IntKind.u64.wrap (IntKind.u64.wrap (IntKind.u64.wrap (i188 + 1) + IntKind.u64.wrap i184) - i242) - 1) ≤ (↑c240 : Int)) <|
    .store ⟨s, 7, none⟩ [.slice (if c240 = 0 then a240 else Option.map (fun x => x) a240) ((IntKind.u64.wrap (IntKind.u64.wrap (IntKind.u64.wrap (IntKind.u64.wrap (i188 + 1) + IntKind.u64.wrap i184) - i242) - 1)).toNat - 0) (c240 - 0)] <|
    .load ⟨s, 17, none⟩ 1 fun v243 =>
    .exS fun a244 n244 c244 =>
    .isL v243 [.slice a244 n244 c244] <|
    .new 59 [.int .i64 3, .int .u64 0, .int .i64 0, .int .u64 0, .slice none 0 0, .int .u64 (IntKind.u64.wrap (IntKind.u64.wrap (i188 + 1) + IntKind.u64.wrap i184)), .int .u64 0, .int .u64 0, .slice none 0 0] fun p245 =>
    .append 59 9 104 [.int .i64 0, .int .u64 0, .int .i64 0, .int .u64 0, .slice none 0 0, .int .u64 0, .int .u64 0, .int .u64 0, .slice none 0 0] a244 n244 c244 (some ⟨p245, 0, none⟩) 1 fun a246 n246 c246 =>
    .store ⟨s, 17, none⟩ [.slice a246 n246 c246] <|
    .load ⟨p1, 6, none⟩ 1 fun v247 =>
    .exS fun a248 n248 c248 =>
    .isL v247 [.slice a248 n248 c248] <|
    .some a248 fun x249 =>
    .need ((0 : Int) ≤ i184 ∧ i184 < (↑n248 : Int)) <|
    .load (x249.add (i184.toNat * 2)) 2 fun v250 =>
    .exI fun i251 =>
    .exS fun a252 n252 c252 =>
    .isL v250 [.int .u64 i251, .slice a252 n252 c252] <|
    .call 84 ([.pointer (some ⟨s, 0, none⟩), .agg #[.int .u64 i251, .slice a252 n252 c252]]) fun v253 =>
    .isL [v253] [.tuple #[]] <|
    .again 0 [.int .i64 (IntKind.i64.wrap (i184 + 1))])
   else
   (.load ⟨p1, 6, none⟩ 1 fun v254 =>
   .exS fun a255 n255 c255 =>
   .isL v254 [.slice a255 n255 c255] <|
   .some a255 fun x256 =>
   .need ((0 : Int) ≤ i184 ∧ i184 < (↑n255 : Int)) <|
   .load (x256.add (i184.toNat * 2)) 2 fun v257 =>
   .exI fun i258 =>
   .exS fun a259 n259 c259 =>
   .isL v257 [.int .u64 i258, .slice a259 n259 c259] <|
   .call 84 ([.pointer (some ⟨s, 0, none⟩), .agg #[.int .u64 i258, .slice a259 n259 c259]]) fun v260 =>
   .isL [v260] [.tuple #[]] <|
   .again 0 [.int .i64 (IntKind.i64.wrap (i184 + 1))]))))
  else
  (.load ⟨p1, 4, none⟩ 1 fun v261 =>
  .exI fun i262 =>
  .isL v261 [.int .u64 i262] <|
  .load ⟨p1, 6, none⟩ 1 fun v263 =>
  .exS fun a264 n264 c264 =>
  .isL v263 [.slice a264 n264 c264] <|
  .draw <|
  .load ⟨s, 8, none⟩ 1 fun v265 =>
  .exI fun i266 =>
  .isL v265 [.int .u64 i266] <|
  .load ⟨p1, 7, none⟩ 1 fun v267 =>
  .exI fun i268 =>
  .isL v267 [.int .u64 i268] <|
  .store ⟨s, 8, none⟩ [.int .u64 (if (if IntKind.u64.wrap (i262 + IntKind.u64.wrap (↑n264 : Int)) < i268 then IntKind.u64.wrap (i262 + IntKind.u64.wrap (↑n264 : Int)) else i268) > i266 then if IntKind.u64.wrap (i262 + IntKind.u64.wrap (↑n264 : Int)) < i268 then IntKind.u64.wrap (i262 + IntKind.u64.wrap (↑n264 : Int)) else i268 else i266)] <|
  .load ⟨p1, 1, none⟩ 1 fun v269 =>
  .exI fun i270 =>
  .isL v269 [.int .i64 i270] <|
  .load ⟨p1, 8, none⟩ 1 fun v271 =>
  .exI fun i272 =>
  .isL v271 [.int .u64 i272] <|
  .call 81 ([.pointer (some ⟨s, 0, none⟩), .agg #[.int .i64 4, .int .i64 0, .int .i64 i270, .int .u64 0, .int .u64 (IntKind.u64.wrap (i262 + IntKind.u64.wrap (↑n264 : Int))), .int .u64 0, .slice none 0 0, .int .u64 0, .int .u64 i272, .bool true, .int .u64 0, .int .u64 0, .slice none 0 0, .int .i64 0, .int .i64 0, .int .u64 0, .string ({ data := #[] }), .string ({ data := #[] }), .int .u64 0, .int .i64 0, .string ({ data := #[] })]]) fun v273 =>
  .isL [v273] [.tuple #[]] <|
  .ret (.tuple #[])))

/-- What the letter's entries come to. -/
def Sp.took (y : Sp) (m : Msg) : Sp :=
  (((y.takesAll (m.index + 1) m.entries).commit (max (y.takesAll (m.index + 1) m.entries).r.commit (min m.commit (m.index + m.entries.length)))).send { Msg.none with kind := 4, dest := m.frm, ok := true, index := m.index + m.entries.length, round := m.round })

set_option maxHeartbeats 2000000 in
theorem appV_wp {p1 : Nat} {m : Msg} {a1 a2 : Option Addr} {n1 c1 n2 c2 : Nat} {b0 b1 b2 b3 b4 b5 b6 b7 : Value} (hp : Hp w0 w H M) (st : St H M s o y.r y.q)
    (f1 : H p1 = some [.int .i64 m.kind, .int .i64 m.frm, .int .i64 m.dest, .int .u64 m.term, .int .u64 m.index, .int .u64 m.logTerm, .slice a1 n1 c1, .int .u64 m.commit, .int .u64 m.round, .bool m.ok, .int .u64 m.snap.idx, .int .u64 m.snap.term, .slice a2 n2 c2, b0, b1, b2, b3, b4, b5, b6, b7])
    (he : Sl H (En H) a1 n1 c1 m.entries) (hb : Bd k y) (hk : k ≤ 900) (lm : Lm m) (hR : ∀ w', Dd w0 H M s o (Sp.took y m) w' → R (.tuple #[]) w') : (appV s p1).wp Try.prog R env w := by
  have l1 := lm.index0
  have l2 := lm.index
  have l3 := lm.commit0
  have l4 := lm.commit
  have l5 := lm.size
  have hen := he.1
  unfold appV
  refine ⟨fun vs w' => ∃ j : Nat, vs = [.int .i64 j] ∧ j ≤ m.entries.length ∧ Dd w0 H M s o (y.takesAll (m.index + 1) (m.entries.take j)) w', fun vs _ => match vs with | [.int _ q] => m.entries.length - q.toNat | _ => 0,
    ⟨0, rfl, Nat.zero_le _, H, M, o, hp, Mp.le.refl _, Adv.refl _ _, st⟩, ?_⟩
  rintro vs w3 ⟨j, rfl, hj, H3, M3, o3, hp3, hle3, ha3, st3⟩
  have hbX : Bd (k + 40) (y.takesAll (m.index + 1) (m.entries.take j)) := (Bd.takesAll (m.entries.take j) hb).mono (by rw [List.length_take]; omega)
  obtain ⟨ss, g, rfl, low, sem⟩ := id st3.ex
  have f3 := hle3 _ _ f1
  ((repeat apply Exists.intro); refine ⟨rfl, ?_⟩)
  (refine wp_load (hp3.loadH f3 (by simp)) ?_; (repeat apply Exists.intro); refine ⟨rfl, ?_⟩)
  refine wp_bif (fun h => ?_) fun h => ?_
  · have hjl : j < m.entries.length := by have := of_decide_eq_true h; omega
    have ewrap : IntKind.i64.wrap ((j : Int) + 1) = ((j + 1 : Nat) : Int) := by rw [wrap_i64 (by omega) (by omega)]; rfl
    have eg : m.entries.getD ((j : Int)).toNat Ent.none = m.entries[j] := by rw [List.getD_eq_getElem?_getD, Int.toNat_natCast, List.getElem?_eq_getElem hjl]; rfl
    have est : y.takesAll (m.index + 1) (m.entries.take (j + 1)) = (y.takesAll (m.index + 1) (m.entries.take j)).takes (m.index + 1 + j) m.entries[j] := by
      rw [List.take_succ_eq_append_getElem hjl, takesAll_snoc, List.length_take, Nat.min_eq_left (by omega)]
    have on : ∀ w'', Dd w0 H M s o ((y.takesAll (m.index + 1) (m.entries.take j)).takes (m.index + 1 + j) m.entries[j]) w'' →
        (∃ j2 : Nat, [Value.int .i64 (IntKind.i64.wrap ((j : Int) + 1))] = [.int .i64 j2] ∧ j2 ≤ m.entries.length ∧ Dd w0 H M s o (y.takesAll (m.index + 1) (m.entries.take j2)) w'') ∧ m.entries.length - (IntKind.i64.wrap ((j : Int) + 1)).toNat < m.entries.length - (j : Int).toNat := fun w'' h =>
      ⟨⟨j + 1, by rw [ewrap], hjl, by rw [est]; exact h⟩, by rw [ewrap]; omega⟩
    clear est
    generalize y.takesAll (m.index + 1) (m.entries.take j) = X at *
    generalize hee : m.entries[j] = e at *
    have hi0 := hbX.idx
    have hla := hbX.last
    have hlg := hbX.log
    have hsv := hbX.save
    -- the entry, logged and kept
    have entry : ∀ {w' : World} {H' M' : Mp} {o' : List Nat} {X' : Sp} {k' : Nat} {env' : Nat → List Value → World → Prop}, Hp w0 w' H' M' → H3.le H' → Adv M3 (g.own s) M' o' → St H' M' s o' X'.r X'.q → Bd k' X' → k' ≤ 1000 → X.takes (m.index + 1 + j) e = Sp.entry X' e →
        (∀ w'', Dd w0 H M s o (X.takes (m.index + 1 + j) e) w'' → env' 0 [.int .i64 (IntKind.i64.wrap ((j : Int) + 1))] w'') →
        (VC.load ⟨p1, 6, none⟩ 1 fun v => .exS fun a n c => .isL v [.slice a n c] <| .some a fun x => .need ((0 : Int) ≤ (j : Int) ∧ (j : Int) < (n : Int)) <| .load (x.add ((j : Int).toNat * 2)) 2 fun v => .exI fun i => .exS fun a n c => .isL v [.int .u64 i, .slice a n c] <|
          .call 84 [.pointer (some ⟨s, 0, none⟩), .agg #[.int .u64 i, .slice a n c]] fun v => .isL [v] [.tuple #[]] <| .again 0 [.int .i64 (IntKind.i64.wrap ((j : Int) + 1))]).wp Try.prog R env' w' := by
      intro w' H' M' o' X' k' env' hp' hl' ha' st' hb' hk' e' hE
      (refine wp_load (hp'.loadH (hl' _ _ f3) (by simp)) ?_; (repeat apply Exists.intro); refine ⟨rfl, ?_⟩)
      refine wp_idx En.len (by omega) hp' hp'.le_uni (he.mono (hle3.trans hl') (En.mono (hle3.trans hl'))) Ent.none 2 (by omega) (by omega) (by omega) fun cs hcs => ?_
      rw [eg] at hcs
      obtain ⟨ea, en, ec, rfl, hed⟩ := hcs
      ((repeat apply Exists.intro); refine ⟨rfl, ?_⟩)
      refine wp_call (refEntry_runs (e := e) hp' st' hed hb' hk') fun v7 w7 h7 => ?_
      obtain ⟨rfl, h7⟩ := h7
      ((repeat apply Exists.intro); refine ⟨rfl, ?_⟩)
      refine hE _ ?_
      rw [e']
      exact Dd.more (hle3.trans hl') (ha3.trans ha') h7
    (refine wp_load (hp3.loadH f3 (by simp)) ?_; (repeat apply Exists.intro); refine ⟨rfl, ?_⟩)
    have ei : IntKind.u64.wrap (IntKind.u64.wrap (m.index + 1) + IntKind.u64.wrap (j : Int)) = m.index + 1 + j := by
      rw [wrap_u64 (x := m.index + 1) (by omega) (by omega), wrap_u64 (x := (j : Int)) (by omega) (by omega), wrap_u64 (by omega) (by omega)]
    rw [ei]
    (refine wp_load (hp3.loadM low.var (by simp [cells20])) ?_; (repeat apply Exists.intro); refine ⟨rfl, ?_⟩)
    refine wp_call (refTermAt_runs (r := X.r) (i := m.index + 1 + j) hp3 (Mp.le.refl _) ⟨_, _, _, _, _, _, _, rfl, Low.ra hp3 low sem⟩ hi0 (by omega) ⟨by omega, by omega⟩) fun v4 w4 h4 => ?_
    obtain ⟨rfl, hp4⟩ := h4
    ((repeat apply Exists.intro); refine ⟨rfl, ?_⟩)
    (refine wp_load (hp4.loadM low.var (by simp [cells20])) ?_; (repeat apply Exists.intro); refine ⟨rfl, ?_⟩)
    refine wp_bif (fun h5 => ?_) fun h5 => ?_
    · have g5 : m.index + 1 + j ≤ X.r.snap.idx := of_decide_eq_true h5
      refine on _ ?_
      unfold Sp.takes
      rw [if_pos g5]
      exact ⟨H3, M3, _, hp4, hle3, ha3, st3⟩
    have g5 : ¬ m.index + 1 + j ≤ X.r.snap.idx := of_decide_eq_false h5
    refine wp_bif (fun h6 => ?_) fun h6 => ?_
    · (refine wp_load (hp4.loadH f3 (by simp)) ?_; (repeat apply Exists.intro); refine ⟨rfl, ?_⟩)
      refine wp_idx En.len (by omega) hp4 hp4.le_uni (he.mono hle3 (En.mono hle3)) Ent.none 1 (by omega) (by omega) (by omega) fun cs hcs => ?_
      rw [eg] at hcs
      obtain ⟨ea, en, ec, rfl, hed⟩ := hcs
      ((repeat apply Exists.intro); refine ⟨rfl, ?_⟩)
      refine wp_bif (fun h7 => ?_) fun h7 => ?_
      · refine on _ ?_
        unfold Sp.takes
        rw [if_neg g5, if_pos ⟨h6, by simpa using h7⟩]
        exact ⟨H3, M3, _, hp4, hle3, ha3, st3⟩
      have g7 : ¬ (termAt X.r (m.index + 1 + j)).1 = e.term := by simpa using h7
      refine wp_bif (fun _ => ?_) fun h8 => by rw [h6] at h8; cases h8
      obtain ⟨b1, b2⟩ := termAt_in h6
      unfold lastI at b2 hla
      have hcur := low.n (i := 0) (by omega) En.len (by decide) sem.log
      have hcc := (low.own 0 (by omega)).le
      have hcur6 := low.n (i := 6) (by omega) Rc.len (by decide) sem.save
      have hp5 := hp4.drew
      (refine wp_load (hp5.loadM low.var (by simp [cells20])) ?_; (repeat apply Exists.intro); refine ⟨rfl, ?_⟩)
      (refine wp_load (hp5.loadM low.var (by simp [cells20])) ?_; (repeat apply Exists.intro); refine ⟨rfl, ?_⟩)
      rw [wrap_u64 (x := m.index + 1 + j - X.r.snap.idx) (by omega) (by omega), wrap_u64 (x := m.index + 1 + j - X.r.snap.idx - 1) (by omega) (by omega)]
      refine ⟨⟨by omega, by omega⟩, ?_⟩
      have ho := Rf.Own.cut (low.own 0 (by omega)) (j := (m.index + 1 + j - X.r.snap.idx - 1).toNat) (by omega)
      have low4 := low.turn (i := 0) (c := ⟨⟨(g 0).sl.a, (m.index + 1 + j - X.r.snap.idx - 1).toNat, (g 0).sl.c⟩, (g 0).cells.take ((m.index + 1 + j - X.r.snap.idx - 1).toNat * wd 0), (g 0).o⟩) (by omega) ho (Adv.refl _ _)
      have a4 := adv_own (M := M3) (M' := M3) (g := g) (s := s) (i := 0) (c := ⟨⟨(g 0).sl.a, (m.index + 1 + j - X.r.snap.idx - 1).toNat, (g 0).sl.c⟩, (g 0).cells.take ((m.index + 1 + j - X.r.snap.idx - 1).toNat * wd 0), (g 0).o⟩) (by omega) (Adv.refl _ _)
      have ea : (if (g 0).sl.c = 0 then (g 0).sl.a else Option.map (fun x => x) (g 0).sl.a) = (g 0).sl.a := by split <;> simp
      rw [ea]
      refine wp_storeL hp5 low4 (by simp [cells20]) (by simp [Value.oneCell']) fun w5 M5 hp5 low5 a5 => ?_
      have low6 : Low M5 s (cells20 (X.log (X.r.log.take (m.index + 1 + j - X.r.snap.idx - 1).toNat)).r ss (g.upd 0 ⟨⟨(g 0).sl.a, (m.index + 1 + j - X.r.snap.idx - 1).toNat, (g 0).sl.c⟩, (g 0).cells.take ((m.index + 1 + j - X.r.snap.idx - 1).toNat * wd 0), (g 0).o⟩)) _ := low5
      (refine wp_load (hp5.loadM low6.var (by simp [cells20])) ?_; (repeat apply Exists.intro); refine ⟨rfl, ?_⟩)
      refine wp_newH hp5 fun p7 w7 H7 hp7 hle7 f7 => ?_
      refine wp_appendL 6 (by omega) hp7 low6 rfl (hp7.read1 f7 rfl) rfl (by simp [Value.oneCell']) (by omega) (by rw [Gs.upd_other (by omega)]; omega) fun t8 M8 o8 w8 hp8 low8 hn8 a8 => ?_
      refine wp_storeL hp8 low8 (by simp [cells20]) (by simp [Value.oneCell']) fun w9 M9 hp9 low9 a9 => ?_
      have sm := sem.mono hle7
      have st9 : St H7 M9 s _ ((X.log (X.r.log.take (m.index + 1 + j - X.r.snap.idx - 1).toNat)).save [recC (m.index + 1 + j)]).r ((X.log (X.r.log.take (m.index + 1 + j - X.r.snap.idx - 1).toNat)).save [recC (m.index + 1 + j)]).q :=
        St.of (ss := ss) low9 rfl ⟨sm.state, sm.log.take En.len (m.index + 1 + j - X.r.snap.idx - 1).toNat, sm.votes, sm.next, sm.mat, sm.acks, sm.reads, sm.save.append (LL.one Rc_C), sm.send, sm.ready⟩
      have hb9 : Bd (k + 41) ((X.log (X.r.log.take (m.index + 1 + j - X.r.snap.idx - 1).toNat)).save [recC (m.index + 1 + j)]) := by
        have h' := hbX.mono (show k + 40 ≤ k + 41 by omega)
        have t1 : (X.r.log.take (m.index + 1 + j - X.r.snap.idx - 1).toNat).length ≤ X.r.log.length := by rw [List.length_take]; omega
        have h1 := h'.last
        have h2 := h'.log
        unfold lastI at h1
        refine ⟨h'.idx, ?_, h'.term0, h'.term, h'.round0, h'.round, h'.mat, h'.next, ?_, h'.reads, h'.n, ?_, h'.send, h'.ready⟩
        · show X.r.snap.idx + ((X.r.log.take (m.index + 1 + j - X.r.snap.idx - 1).toNat).length : Int) ≤ _; omega
        · show (X.r.log.take (m.index + 1 + j - X.r.snap.idx - 1).toNat).length ≤ _; omega
        · show (X.q.save ++ [_]).length ≤ _; rw [List.length_append]; simp; omega
      refine entry hp9 hle7 (((a4.trans a5).trans a8).trans a9) st9 hb9 (by omega) ?_ on
      unfold Sp.takes
      rw [if_neg g5, if_neg fun hh => g7 hh.2, if_pos h6]
      rfl
    · refine wp_bif (fun h8 => by rw [h6] at h8; cases h8) fun _ => ?_
      refine entry hp4 (Mp.le.refl _) (Adv.refl _ _) st3 hbX (by omega) ?_ on
      have n6 : ¬ (termAt X.r (m.index + 1 + j)).2 = true := by rw [show (termAt X.r (m.index + 1 + j)).2 = false from h6]; simp
      unfold Sp.takes
      rw [if_neg g5, if_neg fun hh => n6 hh.1]
      dsimp only
      rw [if_neg n6]
      rfl
  · have hje : j = m.entries.length := by have := of_decide_eq_false h; omega
    subst hje
    rw [List.take_length] at sem hbX low
    (refine wp_load (hp3.loadH f3 (by simp)) ?_; (repeat apply Exists.intro); refine ⟨rfl, ?_⟩)
    (refine wp_load (hp3.loadH f3 (by simp)) ?_; (repeat apply Exists.intro); refine ⟨rfl, ?_⟩)
    have hp4 := hp3.drew
    (refine wp_load (hp4.loadM low.var (by simp [cells20])) ?_; (repeat apply Exists.intro); refine ⟨rfl, ?_⟩)
    (refine wp_load (hp4.loadH f3 (by simp)) ?_; (repeat apply Exists.intro); refine ⟨rfl, ?_⟩)
    have ei : IntKind.u64.wrap (m.index + IntKind.u64.wrap (n1 : Int)) = m.index + m.entries.length := by
      rw [hen, wrap_u64 (x := ((m.entries.length : Nat) : Int)) (by omega) (by omega), wrap_u64 (by omega) (by omega)]
    rw [ei]
    have emx : ∀ a b c : Int, (if (if a < b then a else b) > c then if a < b then a else b else c) = max c (min b a) := fun a b c => by split <;> split <;> omega
    rw [emx]
    refine wp_storeL hp4 low (by simp [cells20]) (by simp [Value.oneCell']) fun w5 M5 hp5 low5 a5 => ?_
    have st5 : St H3 M5 s _ ((y.takesAll (m.index + 1) m.entries).commit (max (y.takesAll (m.index + 1) m.entries).r.commit (min m.commit (m.index + m.entries.length)))).r ((y.takesAll (m.index + 1) m.entries).commit (max (y.takesAll (m.index + 1) m.entries).r.commit (min m.commit (m.index + m.entries.length)))).q :=
      St.of (ss := ss) low5 rfl ⟨sem.state, sem.log, sem.votes, sem.next, sem.mat, sem.acks, sem.reads, sem.save, sem.send, sem.ready⟩
    (refine wp_load (hp5.loadH f3 (by simp)) ?_; (repeat apply Exists.intro); refine ⟨rfl, ?_⟩)
    (refine wp_load (hp5.loadH f3 (by simp)) ?_; (repeat apply Exists.intro); refine ⟨rfl, ?_⟩)
    have hsd := hbX.send
    refine wp_call (refSend_runs (m := { Msg.none with kind := 4, dest := m.frm, ok := true, index := m.index + m.entries.length, round := m.round }) hp5 st5 ⟨_, _, _, _, _, _, rfl, Sl.nil _ _, Bs.nil _⟩ (by show (y.takesAll (m.index + 1) m.entries).q.send.length ≤ _; omega)) fun v6 w6 h6 => ?_
    obtain ⟨rfl, h6⟩ := h6
    ((repeat apply Exists.intro); refine ⟨rfl, ?_⟩)
    exact hR _ (Dd.more hle3 (ha3.trans a5) h6)
theorem refAppends_runs {m : Msg} {cs : List Value} (hp : Hp w0 w H M) (st : St H M s o x.r x.q) (hm : Ms H cs m) (hb : Bd k x) (hk : k ≤ 900) (lm : Lm m) :
    Runs Try.prog 91 [.pointer (some ⟨s, 0, none⟩), .agg cs.toArray] w fun v w' => v = .tuple #[] ∧ Dd w0 H M s o (x.appends m) w' := by
  have st0 := st
  obtain ⟨ss, g, rfl, low, sem⟩ := st.ex
  obtain ⟨a1, n1, c1, a2, n2, c2, rfl, he, hs⟩ := hm
  have hsd := hb.send
  have hi0 := hb.idx
  have hla := hb.last
  have hlg := hb.log
  have l1 := lm.index0
  have l2 := lm.index
  apply r91
  refine wp_newH hp fun p1 w1 H1 hp1 hle1 f1 => ?_
  have hpd := hp1.drew
  (refine wp_load (hpd.loadH f1 (by simp)) ?_; (repeat apply Exists.intro); refine ⟨rfl, ?_⟩)
  (refine wp_load (hpd.loadM low.var (by simp [cells20])) ?_; (repeat apply Exists.intro); refine ⟨rfl, ?_⟩)
  refine wp_bif (fun h => ?_) fun h => ?_
  · have hlt : m.term < x.r.term := of_decide_eq_true h
    (refine wp_load (hpd.loadH f1 (by simp)) ?_; (repeat apply Exists.intro); refine ⟨rfl, ?_⟩)
    (refine wp_load (hpd.loadH f1 (by simp)) ?_; (repeat apply Exists.intro); refine ⟨rfl, ?_⟩)
    refine wp_call (refSend_runs (m := { Msg.none with kind := 4, dest := m.frm, round := m.round }) hpd (st0.mono hle1) ⟨_, _, _, _, _, _, rfl, Sl.nil _ _, Bs.nil _⟩ (by omega)) fun v2 w2 h2 => ?_
    obtain ⟨rfl, h2⟩ := h2
    ((repeat apply Exists.intro); refine ⟨rfl, ?_⟩)
    have e : x.led m = (x.send { Msg.none with kind := 4, dest := m.frm, round := m.round }, false) := if_pos hlt
    have e2 : x.appends m = x.send { Msg.none with kind := 4, dest := m.frm, round := m.round } := by
      unfold Sp.appends; rw [e]; exact if_pos rfl
    rw [e2]
    exact ⟨rfl, Dd.of hle1 h2⟩
  have hlt : ¬ m.term < x.r.term := of_decide_eq_false h
  have el : x.led m = (Sp.bareAs x 0 m.frm, true) := if_neg hlt
  (refine wp_load (hpd.loadH f1 (by simp)) ?_; (repeat apply Exists.intro); refine ⟨rfl, ?_⟩)
  refine wp_call (refBare_runs (role := 0) (lead := m.frm) hpd (st0.mono hle1)) fun v2 w2 h2 => ?_
  obtain ⟨rfl, H2, M2, o2, hp2, hle2, ha2, st2⟩ := h2
  ((repeat apply Exists.intro); refine ⟨rfl, ?_⟩)
  have hbY : Bd k (Sp.bareAs x 0 m.frm) := by
    have := Bd.bare (x := { x with r := { x.r with role := 0, lead := m.frm } }) ⟨hb.idx, hb.last, hb.term0, hb.term, hb.round0, hb.round, hb.mat, hb.next, hb.log, hb.reads, hb.n, hb.save, hb.send, hb.ready⟩
    exact this
  have e0 : x.appends m = if (Sp.bareAs x 0 m.frm).r.snap.idx ≤ m.index ∧ ((termAt (Sp.bareAs x 0 m.frm).r m.index).2 = false ∨ (termAt (Sp.bareAs x 0 m.frm).r m.index).1 ≠ m.logTerm) then
      (Sp.bareAs x 0 m.frm).send { Msg.none with kind := 4, dest := m.frm, index := min (lastI (Sp.bareAs x 0 m.frm).r) (max m.index 1 - 1), round := m.round } else Sp.took (Sp.bareAs x 0 m.frm) m := by
    unfold Sp.appends
    rw [el]
    exact if_neg (by simp)
  have hyi : (Sp.bareAs x 0 m.frm).r.snap.idx = x.r.snap.idx := rfl
  have hyl : lastI (Sp.bareAs x 0 m.frm).r = lastI x.r := rfl
  have hyg : (Sp.bareAs x 0 m.frm).r.log = x.r.log := rfl
  have hyq : (Sp.bareAs x 0 m.frm).q = x.q := rfl
  rw [e0]
  generalize Sp.bareAs x 0 m.frm = y at *
  obtain ⟨ss2, g2, rfl, low2, sem2⟩ := id st2.ex
  have f2 := hle2 _ _ f1
  (refine wp_load (hp2.loadM low2.var (by simp [cells20])) ?_; (repeat apply Exists.intro); refine ⟨rfl, ?_⟩)
  refine wp_call (refLast_runs (r := y.r) hp2 (Mp.le.refl _) ⟨_, _, _, _, _, _, _, rfl, Low.ra hp2 low2 sem2⟩ ⟨by omega, by rw [hyi]; unfold lastI at hla; omega⟩ (by rw [hyg]; omega)) fun v3 w3 h3 => ?_
  obtain ⟨rfl, hp3⟩ := h3
  ((repeat apply Exists.intro); refine ⟨rfl, ?_⟩)
  have elw : IntKind.u64.wrap (lastI y.r) = lastI y.r := wrap_u64 (by rw [hyl]; unfold lastI; omega) (by omega)
  rw [elw]
  have hp4 := hp3.drew
  (refine wp_load (hp4.loadM low2.var (by simp [cells20])) ?_; (repeat apply Exists.intro); refine ⟨rfl, ?_⟩)
  (refine wp_load (hp4.loadH f2 (by simp)) ?_; (repeat apply Exists.intro); refine ⟨rfl, ?_⟩)
  refine wp_call (refTermAt_runs (r := y.r) (i := m.index) hp4 (Mp.le.refl _) ⟨_, _, _, _, _, _, _, rfl, Low.ra hp4 low2 sem2⟩ (by omega) (by omega) ⟨by omega, by omega⟩) fun v5 w5 h5 => ?_
  obtain ⟨rfl, hp5⟩ := h5
  ((repeat apply Exists.intro); refine ⟨rfl, ?_⟩)
  have hp6 := hp5.drew
  have hl12 := hle1.trans hle2
  -- refused
  have nay : ∀ {w' : World} {i : Int}, Hp w0 w' H2 M2 → y.r.snap.idx ≤ m.index → ((termAt y.r m.index).2 = false ∨ (termAt y.r m.index).1 ≠ m.logTerm) → i = min (lastI y.r) (max m.index 1 - 1) →
      (VC.load ⟨p1, 1, none⟩ 1 fun v => .exI fun f => .isL v [.int .i64 f] <| .load ⟨p1, 8, none⟩ 1 fun v => .exI fun r => .isL v [.int .u64 r] <| .call 81 [.pointer (some ⟨s, 0, none⟩), .agg #[.int .i64 4, .int .i64 0, .int .i64 f, .int .u64 0, .int .u64 i, .int .u64 0, .slice none 0 0, .int .u64 0, .int .u64 r, .bool false, .int .u64 0, .int .u64 0, .slice none 0 0, .int .i64 0, .int .i64 0, .int .u64 0, .string ⟨#[]⟩, .string ⟨#[]⟩, .int .u64 0, .int .i64 0, .string ⟨#[]⟩]] fun v => .isL [v] [.tuple #[]] <| .ret (.tuple #[])).wp Try.prog
        (fun v w' => v = .tuple #[] ∧ Dd w0 H M s (g.own s) (if y.r.snap.idx ≤ m.index ∧ ((termAt y.r m.index).2 = false ∨ (termAt y.r m.index).1 ≠ m.logTerm) then
      y.send { Msg.none with kind := 4, dest := m.frm, index := min (lastI y.r) (max m.index 1 - 1), round := m.round } else Sp.took y m) w') (fun _ _ _ => False) w' := by
    intro w' i hp' h1 h2 hi
    subst hi
    (refine wp_load (hp'.loadH f2 (by simp)) ?_; (repeat apply Exists.intro); refine ⟨rfl, ?_⟩)
    (refine wp_load (hp'.loadH f2 (by simp)) ?_; (repeat apply Exists.intro); refine ⟨rfl, ?_⟩)
    refine wp_call (refSend_runs (m := { Msg.none with kind := 4, dest := m.frm, index := min (lastI y.r) (max m.index 1 - 1), round := m.round }) hp' st2 ⟨_, _, _, _, _, _, rfl, Sl.nil _ _, Bs.nil _⟩ (by rw [hyq]; omega)) fun v2 w2 h3 => ?_
    obtain ⟨rfl, h3⟩ := h3
    ((repeat apply Exists.intro); refine ⟨rfl, ?_⟩)
    rw [if_pos ⟨h1, h2⟩]
    exact ⟨rfl, Dd.more hl12 ha2 h3⟩
  have imin : ∀ {i : Int}, i > 0 → (if IntKind.u64.wrap (i - 1) < lastI y.r then IntKind.u64.wrap (i - 1) else lastI y.r) = min (lastI y.r) (max i 1 - 1) ∨ i > 9000000000000000000 := fun {i} hi => by
    by_cases hb : i > 9000000000000000000
    · exact .inr hb
    · left
      rw [wrap_u64 (by omega) (by omega)]
      split <;> omega
  (refine wp_load (hp6.loadH f2 (by simp)) ?_; (repeat apply Exists.intro); refine ⟨rfl, ?_⟩)
  (refine wp_load (hp6.loadM low2.var (by simp [cells20])) ?_; (repeat apply Exists.intro); refine ⟨rfl, ?_⟩)
  have yea : ∀ {w' : World}, Hp w0 w' H2 M2 → ¬ (y.r.snap.idx ≤ m.index ∧ ((termAt y.r m.index).2 = false ∨ (termAt y.r m.index).1 ≠ m.logTerm)) → (appV s p1).wp Try.prog
        (fun v w' => v = .tuple #[] ∧ Dd w0 H M s (g.own s) (if y.r.snap.idx ≤ m.index ∧ ((termAt y.r m.index).2 = false ∨ (termAt y.r m.index).1 ≠ m.logTerm) then
      y.send { Msg.none with kind := 4, dest := m.frm, index := min (lastI y.r) (max m.index 1 - 1), round := m.round } else Sp.took y m) w') (fun _ _ _ => False) w' := by
    intro w' hp' hn
    rw [if_neg hn]
    exact appV_wp (y := y) (m := m) hp' st2 f2 (he.mono hl12 (En.mono hl12)) hbY hk lm fun w'' h => ⟨rfl, Dd.more hl12 ha2 h⟩
  refine wp_bif (fun h7 => ?_) fun h7 => ?_
  · have g7 : y.r.snap.idx ≤ m.index := of_decide_eq_true h7
    refine wp_bif (fun h8 => ?_) fun h8 => ?_
    · have g8 : (termAt y.r m.index).2 = false := by simpa using h8
      (refine wp_load (hp6.loadH f2 (by simp)) ?_; (repeat apply Exists.intro); refine ⟨rfl, ?_⟩)
      refine wp_bif (fun h9 => ?_) fun h9 => ?_
      · have g9 : m.index > 0 := of_decide_eq_true h9
        (refine wp_load (hp6.loadH f2 (by simp)) ?_; (repeat apply Exists.intro); refine ⟨rfl, ?_⟩)
        exact nay hp6 g7 (.inl g8) ((imin g9).resolve_right (by omega))
      · have g9 : ¬ m.index > 0 := of_decide_eq_false h9
        exact nay hp6 g7 (.inl g8) (by rw [hyl]; unfold lastI; omega)
    have g8 : (termAt y.r m.index).2 = true := by simpa using h8
    (refine wp_load (hp6.loadH f2 (by simp)) ?_; (repeat apply Exists.intro); refine ⟨rfl, ?_⟩)
    refine wp_bif (fun h8 => ?_) fun h8 => ?_
    · have g8' : (termAt y.r m.index).1 ≠ m.logTerm := by simpa using h8
      (refine wp_load (hp6.loadH f2 (by simp)) ?_; (repeat apply Exists.intro); refine ⟨rfl, ?_⟩)
      refine wp_bif (fun h9 => ?_) fun h9 => ?_
      · have g9 : m.index > 0 := of_decide_eq_true h9
        (refine wp_load (hp6.loadH f2 (by simp)) ?_; (repeat apply Exists.intro); refine ⟨rfl, ?_⟩)
        exact nay hp6 g7 (.inr g8') ((imin g9).resolve_right (by omega))
      · have g9 : ¬ m.index > 0 := of_decide_eq_false h9
        exact nay hp6 g7 (.inr g8') (by rw [hyl]; unfold lastI; omega)
    · have g8' : (termAt y.r m.index).1 = m.logTerm := by simpa using h8
      exact yea hp6 fun hh => hh.2.elim (fun h => by rw [g8] at h; cases h) fun h => h g8'
  · have g7 : ¬ y.r.snap.idx ≤ m.index := of_decide_eq_false h7
    exact yea hp6 fun hh => g7 hh.1
end
end Go.Proofs.Ytnbfffmdplcajaa
namespace Go.Proofs.Ytnbfffmdplcajaa
open Go.Vc Go.Vc.Rf

/-- What a snapshot leaves of a log. -/
def cutLog (S : Snp) (es : List Ent) (y : Snp) : List Ent := if y.idx - S.idx ≤ es.length ∧ (es.getD (y.idx - S.idx - 1).toNat Ent.none).term = y.term then es.drop (y.idx - S.idx).toNat else []

theorem cutLog_shift {x : Sp} {y : Snp} (h : x.r.snap.idx < y.idx) : (x.shift y).r = { x.r with log := cutLog x.r.snap x.r.log y, snap := y } := by
  have e : (if (termAt x.r y.idx).2 = true ∧ (termAt x.r y.idx).1 = y.term then x.r.log.drop (y.idx - x.r.snap.idx).toNat else []) = cutLog x.r.snap x.r.log y := by
    unfold cutLog
    by_cases h2 : y.idx - x.r.snap.idx ≤ x.r.log.length
    · rw [termAt_mid h (by unfold lastI; omega)]
      simp only [h2, true_and]
    · rw [termAt_out (.inr (by unfold lastI; omega)), if_neg (by simp), if_neg fun hh => h2 hh.1]
  unfold Sp.shift
  rw [e]

section
variable {w0 w : World} {H M U : Mp} {s : Nat} {o : List Nat} {x y : Sp} {k : Nat}
variable {R : Value → World → Prop} {env : Nat → List Value → World → Prop}

set_option maxHeartbeats 2000000 in
theorem fold1_runs {S y : Snp} {es : List Ent} {la sa ya : Option Addr} {ln lc sn sc yn yc p : Nat} (hp : Hp w0 w H M) (he : Sl (uni H M) (En H) la ln lc es)
    (f : H p = some [.int .i64 4, .int .u64 0, .int .i64 0, .int .u64 0, .slice none 0 0, .int .u64 0, .int .u64 y.idx, .int .u64 y.term, .slice ya yn yc]) (_ : Bs H ya yn yc y.state) (hlt : S.idx < y.idx) (h0 : 0 ≤ S.idx) (hi : y.idx ≤ 4000000000000) (hl : es.length ≤ 2000000) :
    Runs Try.prog 86 [.agg #[.int .u64 0, .int .i64 0, .int .u64 S.idx, .int .u64 S.term, .slice sa sn sc, .slice la ln lc], .slice (some ⟨p, 0, none⟩) 1 1] w fun v w' => ∃ (t : Sl3) (cells : List Value) (o' : List Nat) (M' : Mp),
      v = .agg #[.int .u64 0, .int .i64 0, .int .u64 y.idx, .int .u64 y.term, .slice ya yn yc, .slice t.a t.n t.c] ∧ Hp w0 w' H M' ∧ Own M' 2 t cells o' ∧ LL (En H) cells (cutLog S es y) ∧ Adv M [] M' o' := by
  have hln := he.1
  apply r86
  refine wp_new hp fun p1 w1 hp1 hM1 _ => wp_new hp1 fun p2 w2 hp2 hM2 _ => ?_
  have hne : p1 ≠ p2 := fun e => by subst e; simp at hM2
  have hM2' : M p2 = none := by rwa [Mp.put_other (Ne.symm hne)] at hM2
  let St2 : World → Prop := fun w' => ∃ (t : Sl3) (cells : List Value) (o' : List Nat) (M' : Mp), Hp w0 w' H M' ∧ M' p1 = some [.int .u64 0, .int .i64 0, .int .u64 y.idx, .int .u64 y.term, .slice ya yn yc, .slice t.a t.n t.c] ∧ (∃ z, z.length = 6 ∧ M' p2 = some z) ∧
    Own M' 2 t cells o' ∧ LL (En H) cells (cutLog S es y) ∧ (∀ b, M b ≠ none → M' b = M b) ∧ ∀ b ∈ o', M b = none ∧ b ≠ p2
  refine ⟨fun vs w' => (vs = [.int .i64 0] ∧ Hp w0 w' H ((M.put p1 [.int .u64 0, .int .i64 0, .int .u64 S.idx, .int .u64 S.term, .slice sa sn sc, .slice la ln lc]).put p2 [.int .u64 0, .int .i64 0, .int .u64 0, .int .u64 0, .slice none 0 0, .slice none 0 0])) ∨ (vs = [.int .i64 1] ∧ St2 w'),
    fun vs _ => match vs with | [.int _ q] => 2 - q.toNat | _ => 0, .inl ⟨rfl, hp2⟩, ?_⟩
  clear hp1 hp2
  rintro vs w3 (⟨rfl, hp3⟩ | ⟨rfl, t, cells, o', M', hp3, m1, ⟨z2, hz2, m2⟩, ho, hll, hkeep, hfr⟩)
  rotate_left
  · ((repeat apply Exists.intro); refine ⟨rfl, ?_⟩)
    refine wp_no (by decide) ?_
    (refine wp_load (hp3.loadM m1 (by simp)) ?_; (repeat apply Exists.intro); refine ⟨rfl, ?_⟩)
    refine wp_store hp3 m2 (by simp [hz2]) (by simp [Value.oneCell']) fun w5 hp5 => ?_
    rw [splice_all (by simp [hz2])] at hp5
    (refine wp_load (hp5.loadM (Mp.put_same _ _ _) (by simp)) ?_; (repeat apply Exists.intro); refine ⟨rfl, ?_⟩)
    refine ⟨t, cells, o', _, rfl, hp5, ho.frame fun b hb => Mp.put_other (hfr b hb).2, hll, fun b hb _ => ?_, fun b hb => .inr (hfr b hb).1⟩
    rw [Mp.put_other fun e => hb (by rw [e]; exact hM2')]
    exact hkeep b hb
  ((repeat apply Exists.intro); refine ⟨rfl, ?_⟩)
  refine wp_yes (by decide) ?_
  refine ⟨_, rfl, ⟨by omega, by omega⟩, ?_⟩
  simp only [add_mk]
  (refine wp_load (hp3.loadH (b := p) f (by simp)) ?_; (repeat apply Exists.intro); refine ⟨rfl, ?_⟩)
  refine wp_new hp3 fun p16 w4 hp4 hM4 _ => ?_
  refine wp_store1 hp4 (by simp) (by simp [Value.oneCell']) fun w5 hp5 => ?_
  rw [splice_all (by simp)] at hp5
  have n1 : p16 ≠ p1 := fun e => by subst e; rw [Mp.put_other hne] at hM4; simp at hM4
  have n2 : p16 ≠ p2 := fun e => by subst e; simp at hM4
  have hM4' : M p16 = none := by rwa [Mp.put_other n2, Mp.put_other n1] at hM4
  obtain ⟨M5, hM5⟩ : ∃ M5, M5 = ((M.put p1 [.int .u64 0, .int .i64 0, .int .u64 S.idx, .int .u64 S.term, .slice sa sn sc, .slice la ln lc]).put p2 [.int .u64 0, .int .i64 0, .int .u64 0, .int .u64 0, .slice none 0 0, .slice none 0 0]).put p16 [.int .i64 4, .int .u64 0, .int .i64 0, .int .u64 0, .slice none 0 0, .int .u64 0, .int .u64 y.idx, .int .u64 y.term, .slice ya yn yc] := ⟨_, rfl⟩
  have hp5 : Hp w0 w5 H M5 := hM5 ▸ hp5
  have k16 : M5 p16 = some [.int .i64 4, .int .u64 0, .int .i64 0, .int .u64 0, .slice none 0 0, .int .u64 0, .int .u64 y.idx, .int .u64 y.term, .slice ya yn yc] := by rw [hM5]; exact Mp.put_same _ _ _
  have k1 : M5 p1 = some [.int .u64 0, .int .i64 0, .int .u64 S.idx, .int .u64 S.term, .slice sa sn sc, .slice la ln lc] := by rw [hM5, Mp.put_other (Ne.symm n1), Mp.put_other hne]; exact Mp.put_same _ _ _
  have k2 : M5 p2 = some [.int .u64 0, .int .i64 0, .int .u64 0, .int .u64 0, .slice none 0 0, .slice none 0 0] := by rw [hM5, Mp.put_other (Ne.symm n2)]; exact Mp.put_same _ _ _
  have kk : ∀ b, M b ≠ none → M5 b = M b := fun b hb => by
    rw [hM5, Mp.put_other fun e => hb (by rw [e]; exact hM4'), Mp.put_other fun e => hb (by rw [e]; exact hM2'), Mp.put_other fun e => hb (by rw [e]; exact hM1)]
  clear hp3 hp4 hM4 hM5
  have he5 : Sl (uni H M5) (En H) la ln lc es := he.mono (uni_frame (Mp.le.refl _) kk fun b h1 h2 => by
    cases hb : M5 b with
    | none => exact absurd hb h2
    | some c => exact hp5.sep b c hb) fun _ _ h => h
  -- the snapshot, and what is left
  have fin : ∀ {R' : Value → World → Prop} {w' : World} {M' : Mp} {t : Sl3} {cells : List Value} {o' : List Nat} {env' : Nat → List Value → World → Prop}, Hp w0 w' H M' → Own M' 2 t cells o' → LL (En H) cells (cutLog S es y) → Adv M5 [] M' o' → (∀ w'', St2 w'' → env' 0 [.int .i64 (IntKind.i64.wrap (0 + 1))] w'') →
      (VC.load ⟨p16, 6, none⟩ 3 fun v => .exI fun i => .exI fun j => .exS fun a n c => .isL v [.int .u64 i, .int .u64 j, .slice a n c] <| .store ⟨p1, 2, none⟩ [.int .u64 i, .int .u64 j, .slice a n c] <| .store ⟨p1, 5, none⟩ [.slice t.a t.n t.c] <| .again 0 [.int .i64 (IntKind.i64.wrap (0 + 1))]).wp Try.prog R' env' w' := by
    intro R' w' M' t cells o' env' hp' ho' hll' ha' hE
    have q16 := (ha'.keep p16 (by rw [k16]; simp) (by simp)).trans k16
    have q1 := (ha'.keep p1 (by rw [k1]; simp) (by simp)).trans k1
    have q2 := (ha'.keep p2 (by rw [k2]; simp) (by simp)).trans k2
    have hno : ∀ b ∈ o', M5 b = none := fun b hb => (ha'.fresh b hb).resolve_left (by simp)
    (refine wp_load (hp'.loadM q16 (by simp)) ?_; (repeat apply Exists.intro); refine ⟨rfl, ?_⟩)
    refine wp_store hp' q1 (by simp) (by simp [Value.oneCell']) fun w7 hp7 => ?_
    refine wp_store1 hp7 (by simp [splice]) (by simp [Value.oneCell']) fun w8 hp8 => ?_
    refine hE _ ⟨t, cells, o', _, hp8, by rw [Mp.put_same]; rfl, ⟨_, rfl, (Mp.put_other (Ne.symm hne)).trans q2⟩, ho'.frame fun b hb => Mp.put_other fun e => (by rw [← e, hno b hb] at k1; cases k1), hll', fun b hb => ?_, fun b hb => ⟨?_, fun e => (by rw [← e, hno b hb] at k2; cases k2)⟩⟩
    · rw [Mp.put_other fun e => hb (by rw [e]; exact hM1), ha'.keep b (by rw [kk b hb]; exact hb) (by simp), kk b hb]
    · cases hm : M b with
      | none => rfl
      | some c =>
        have := kk b (by rw [hm]; simp)
        rw [hno b hb, hm] at this; cases this
  have onE : ∀ w'', St2 w'' → (([Value.int .i64 (IntKind.i64.wrap (0 + 1))] = [.int .i64 0] ∧ Hp w0 w'' H ((M.put p1 [.int .u64 0, .int .i64 0, .int .u64 S.idx, .int .u64 S.term, .slice sa sn sc, .slice la ln lc]).put p2 [.int .u64 0, .int .i64 0, .int .u64 0, .int .u64 0, .slice none 0 0, .slice none 0 0])) ∨ ([Value.int .i64 (IntKind.i64.wrap (0 + 1))] = [.int .i64 1] ∧ St2 w'')) ∧ 2 - (IntKind.i64.wrap (0 + 1)).toNat < 2 - (0 : Int).toNat := fun w'' h => by
    have e : IntKind.i64.wrap (0 + 1) = 1 := by rw [wrap_i64 (by omega) (by omega)]; rfl
    rw [e]
    exact ⟨.inr ⟨rfl, h⟩, by decide⟩
  (refine wp_load (hp5.loadM k16 (by simp)) ?_; (repeat apply Exists.intro); refine ⟨rfl, ?_⟩)
  refine wp_no (by decide) ?_
  refine wp_no (by decide) ?_
  refine wp_no (by decide) ?_
  refine wp_yes (by decide) ?_
  (refine wp_load (hp5.loadM k16 (by simp)) ?_; (repeat apply Exists.intro); refine ⟨rfl, ?_⟩)
  (refine wp_load (hp5.loadM k1 (by simp)) ?_; (repeat apply Exists.intro); refine ⟨rfl, ?_⟩)
  refine wp_yes (decide_eq_true hlt) ?_
  (refine wp_load (hp5.loadM k16 (by simp)) ?_; (repeat apply Exists.intro); refine ⟨rfl, ?_⟩)
  (refine wp_load (hp5.loadM k1 (by simp)) ?_; (repeat apply Exists.intro); refine ⟨rfl, ?_⟩)
  have hp6 := hp5.drew
  (refine wp_load (hp6.loadM k1 (by simp)) ?_; (repeat apply Exists.intro); refine ⟨rfl, ?_⟩)
  have e1 : IntKind.u64.wrap (y.idx - S.idx) = y.idx - S.idx := wrap_u64 (by omega) (by omega)
  have e2 : IntKind.u64.wrap (ln : Int) = (es.length : Int) := by rw [hln, wrap_u64 (by omega) (by omega)]
  have e3 : IntKind.u64.wrap (y.idx - S.idx - 1) = y.idx - S.idx - 1 := wrap_u64 (by omega) (by omega)
  rw [e1, e2]
  refine wp_bif (fun h7 => ?_) fun h7 => ?_
  · have g7 : y.idx - S.idx ≤ (es.length : Int) := of_decide_eq_true h7
    (refine wp_load (hp6.loadM k1 (by simp)) ?_; (repeat apply Exists.intro); refine ⟨rfl, ?_⟩)
    rw [e3]
    refine wp_idx En.len (by omega) hp6 (Mp.le.refl _) he5 Ent.none 1 (by omega) (by omega) (by omega) fun cs hcs => ?_
    obtain ⟨ea, en, ec, rfl, hed⟩ := hcs
    ((repeat apply Exists.intro); refine ⟨rfl, ?_⟩)
    (refine wp_load (hp6.loadM k16 (by simp)) ?_; (repeat apply Exists.intro); refine ⟨rfl, ?_⟩)
    refine wp_bif (fun h8 => ?_) fun h8 => ?_
    · have g8 : (es.getD (y.idx - S.idx - 1).toNat Ent.none).term = y.term := by simpa using h8
      (refine wp_load (hp6.loadM k1 (by simp)) ?_; (repeat apply Exists.intro); refine ⟨rfl, ?_⟩)
      refine ⟨⟨by omega, by omega⟩, ?_⟩
      have hsl := he5.drop En.len (k := (y.idx - S.idx).toNat)
      obtain ⟨sl1, sl2, cells, hsc, hll⟩ := hsl
      have hdl := List.length_drop (l := es) (i := (y.idx - S.idx).toNat)
      refine wp_append (m := ln - (y.idx - S.idx).toNat) hp6 (Own.nil M5 2) rfl (hsc.readU hp6 (by rw [LL.length En.len hll, sl1])) (by rw [LL.length En.len hll, sl1]) (one_of En.one hll) (by omega) (by show (0 + _) * 32 ≤ _; omega) fun t9 M9 o9 w9 hp9 ho9 hn9 ha9 => ?_
      refine fin hp9 (by simpa using ho9) ?_ ha9 onE
      unfold cutLog
      rw [if_pos ⟨g7, g8⟩]
      exact hll
    · have g8 : ¬ (es.getD (y.idx - S.idx - 1).toNat Ent.none).term = y.term := by simpa using h8
      refine fin (t := ⟨none, 0, 0⟩) hp6 (Own.nil _ _) ?_ (Adv.refl _ _) onE
      unfold cutLog
      rw [if_neg fun hh => g8 hh.2]
      rfl
  · have g7 : ¬ y.idx - S.idx ≤ (es.length : Int) := of_decide_eq_false h7
    refine fin (t := ⟨none, 0, 0⟩) hp6 (Own.nil _ _) ?_ (Adv.refl _ _) onE
    unfold cutLog
    rw [if_neg fun hh => g7 hh.1]
    rfl
/-- What a snapshot taken up leaves to do. -/
def restV (s p1 p22 p30 : Nat) : VC :=
    .draw <|
    .load ⟨p30, 2, none⟩ 3 fun v48 =>
    .exI fun i49 =>
    .exI fun i50 =>
    .exS fun a51 n51 c51 =>
    .isL v48 [.int .u64 i49, .int .u64 i50, .slice a51 n51 c51] <|
    .load ⟨p30, 5, none⟩ 1 fun v52 =>
    .exS fun a53 n53 c53 =>
    .isL v52 [.slice a53 n53 c53] <|
    .load ⟨p1, 10, none⟩ 1 fun v54 =>
    .exI fun i55 =>
    .isL v54 [.int .u64 i55] <|
    .store ⟨s, 4, none⟩ [.int .u64 i49, .int .u64 i50, .slice a51 n51 c51] <|
    .hold [(⟨p1, 10, none⟩, [.int .u64 i55]), (⟨p30, 5, none⟩, [.slice a53 n53 c53])] <|
    .store ⟨s, 7, none⟩ [.slice a53 n53 c53] <|
    .hold [(⟨p1, 10, none⟩, [.int .u64 i55])] <|
    .store ⟨s, 8, none⟩ [.int .u64 i55] <|
    .draw <|
    .load ⟨s, 17, none⟩ 1 fun v56 =>
    .exS fun a57 n57 c57 =>
    .isL v56 [.slice a57 n57 c57] <|
    .load ⟨p22, 0, none⟩ 9 fun v58 =>
    .exI fun i59 =>
    .exI fun i60 =>
    .exI fun i61 =>
    .exI fun i62 =>
    .exS fun a63 n63 c63 =>
    .exI fun i64 =>
    .exI fun i65 =>
    .exI fun i66 =>
    .exS fun a67 n67 c67 =>
    .isL v58 [.int .i64 i59, .int .u64 i60, .int .i64 i61, .int .u64 i62, .slice a63 n63 c63, .int .u64 i64, .int .u64 i65, .int .u64 i66, .slice a67 n67 c67] <|
    .new 59 [.int .i64 i59, .int .u64 i60, .int .i64 i61, .int .u64 i62, .slice a63 n63 c63, .int .u64 i64, .int .u64 i65, .int .u64 i66, .slice a67 n67 c67] fun p68 =>
    .append 59 9 104 [.int .i64 0, .int .u64 0, .int .i64 0, .int .u64 0, .slice none 0 0, .int .u64 0, .int .u64 0, .int .u64 0, .slice none 0 0] a57 n57 c57 (some ⟨p68, 0, none⟩) 1 fun a69 n69 c69 =>
    .store ⟨s, 17, none⟩ [.slice a69 n69 c69] <|
    .draw <|
    .load ⟨p1, 1, none⟩ 1 fun v70 =>
    .exI fun i71 =>
    .isL v70 [.int .i64 i71] <|
    .load ⟨s, 8, none⟩ 1 fun v72 =>
    .exI fun i73 =>
    .isL v72 [.int .u64 i73] <|
    .load ⟨p1, 8, none⟩ 1 fun v74 =>
    .exI fun i75 =>
    .isL v74 [.int .u64 i75] <|
    .call 81 ([.pointer (some ⟨s, 0, none⟩), .agg #[.int .i64 4, .int .i64 0, .int .i64 i71, .int .u64 0, .int .u64 i73, .int .u64 0, .slice none 0 0, .int .u64 0, .int .u64 i75, .bool true, .int .u64 0, .int .u64 0, .slice none 0 0, .int .i64 0, .int .i64 0, .int .u64 0, .string ({ data := #[] }), .string ({ data := #[] }), .int .u64 0, .int .i64 0, .string ({ data := #[] })]]) fun v76 =>
    .isL [v76] [.tuple #[]] <|
    .ret (.tuple #[])

theorem restV_wp {M0 : Mp} {p1 p22 p30 : Nat} {m : Msg} {a1 a2 : Option Addr} {n1 c1 n2 c2 : Nat} {b0 b1 b2 b3 b4 b5 b6 b7 : Value} {ss t : Sl3} {g : Gs} {cells : List Value} {ot : List Nat} (hp : Hp w0 w H M) (low : Low M s (cells20 y.r ss g) g) (sem : Rf.Sem H y.r y.q ss g)
    (f1 : H p1 = some [.int .i64 m.kind, .int .i64 m.frm, .int .i64 m.dest, .int .u64 m.term, .int .u64 m.index, .int .u64 m.logTerm, .slice a1 n1 c1, .int .u64 m.commit, .int .u64 m.round, .bool m.ok, .int .u64 m.snap.idx, .int .u64 m.snap.term, .slice a2 n2 c2, b0, b1, b2, b3, b4, b5, b6, b7])
    (f22 : H p22 = some [.int .i64 4, .int .u64 0, .int .i64 0, .int .u64 0, .slice none 0 0, .int .u64 0, .int .u64 m.snap.idx, .int .u64 m.snap.term, .slice a2 n2 c2])
    (m30 : M p30 = some [.int .u64 0, .int .i64 0, .int .u64 m.snap.idx, .int .u64 m.snap.term, .slice a2 n2 c2, .slice t.a t.n t.c]) (n30 : p30 ∉ g.own s) (hs : Bs H a2 n2 c2 m.snap.state)
    (own : Own M 2 t cells ot) (hl : LL (En H) cells (cutLog y.r.snap y.r.log m.snap)) (hd : ∀ b ∈ ot, b ∉ g.own s) (a0 : Adv M0 o M (g.own s ++ ot)) (hb : Bd k y) (hk : k ≤ 900) (hlt : y.r.snap.idx < m.snap.idx)
    (hR : ∀ w', Dd w0 H M0 s o ((((y.save [recS m.snap]).shift m.snap).commit m.snap.idx).send { Msg.none with kind := 4, dest := m.frm, ok := true, index := m.snap.idx, round := m.round }) w' → R (.tuple #[]) w') :
    (restV s p1 p22 p30).wp Try.prog R env w := by
  have hsv := hb.save
  have hsd := hb.send
  unfold restV
  have hpd := hp.drew
  (refine wp_load (hpd.loadM m30 (by simp)) ?_; (repeat apply Exists.intro); refine ⟨rfl, ?_⟩)
  (refine wp_load (hpd.loadM m30 (by simp)) ?_; (repeat apply Exists.intro); refine ⟨rfl, ?_⟩)
  (refine wp_load (hpd.loadH f1 (by simp)) ?_; (repeat apply Exists.intro); refine ⟨rfl, ?_⟩)
  refine wp_storeL hpd low (by simp [cells20]) (by simp [Value.oneCell']) fun w1 M1 hp1 low1 d1 => ?_
  have k30 := (d1.keep p30 (by rw [m30]; simp) n30).trans m30
  refine ⟨fun h hh => ?_, ?_⟩
  · simp only [List.mem_cons, List.not_mem_nil, or_false] at hh
    rcases hh with rfl | rfl
    · exact hp1.loadH f1 (by simp)
    · exact hp1.loadM k30 (by simp)
  refine wp_storeL hp1 low1 (by simp [cells20, splice]) (by simp [Value.oneCell']) fun w2 M2 hp2 low2 d2 => ?_
  refine ⟨fun h hh => ?_, ?_⟩
  · simp only [List.mem_singleton] at hh; subst hh; exact hp2.loadH f1 (by simp)
  refine wp_storeL hp2 low2 (by simp [cells20, splice]) (by simp [Value.oneCell']) fun w3 M3 hp3 low3 d3 => ?_
  obtain ⟨own3, hd3⟩ := own.beside ((d1.trans d2).trans d3) hd
  have low4 := low3.set (i := 0) (c := ⟨t, cells, ot⟩) (by omega) own3 hd3
  have low5 : Low M3 s (cells20 { y.r with log := cutLog y.r.snap y.r.log m.snap, snap := m.snap, commit := m.snap.idx } ⟨a2, n2, c2⟩ (g.upd 0 ⟨t, cells, ot⟩)) (g.upd 0 ⟨t, cells, ot⟩) := low4
  have hp4 := hp3.drew
  have hcur6 := low.n (i := 6) (by omega) Rc.len (by decide) sem.save
  (refine wp_load (hp4.loadM low5.var (by simp [cells20])) ?_; (repeat apply Exists.intro); refine ⟨rfl, ?_⟩)
  (refine wp_load (hp4.loadH f22 (by simp)) ?_; (repeat apply Exists.intro); refine ⟨rfl, ?_⟩)
  refine wp_newH hp4 fun p5 w5 H5 hp5 hle5 f5 => ?_
  refine wp_appendL 6 (by omega) hp5 low5 rfl (hp5.read1 f5 rfl) rfl (by simp [Value.oneCell']) (by omega) (by rw [Gs.upd_other (by omega)]; omega) fun t6 M6 o6 w6 hp6 low6 hn6 a6 => ?_
  refine wp_storeL hp6 low6 (by simp [cells20]) (by simp [Value.oneCell']) fun w7 M7 hp7 low7 a7 => ?_
  have sm := sem.mono hle5
  have e : (((y.save [recS m.snap]).shift m.snap).commit m.snap.idx).r = { y.r with log := cutLog y.r.snap y.r.log m.snap, snap := m.snap, commit := m.snap.idx } := by
    show ({ ((y.save [recS m.snap]).shift m.snap).r with commit := m.snap.idx } : Raft) = _
    rw [cutLog_shift (x := y.save [recS m.snap]) hlt]
    rfl
  have st7 : St H5 M7 s _ ({ y.r with log := cutLog y.r.snap y.r.log m.snap, snap := m.snap, commit := m.snap.idx } : Raft) (((y.save [recS m.snap]).shift m.snap).commit m.snap.idx).q :=
    St.of (ss := ⟨a2, n2, c2⟩) low7 rfl ⟨hs.mono hle5, hl.mono (En.mono hle5), sm.votes, sm.next, sm.mat, sm.acks, sm.reads, sm.save.append (LL.one (Rc_S (hs.mono hle5))), sm.send, sm.ready⟩
  rw [← e] at st7
  have hp8 := hp7.drew
  have g1 := hle5 _ _ f1
  (refine wp_load (hp8.loadH g1 (by simp)) ?_; (repeat apply Exists.intro); refine ⟨rfl, ?_⟩)
  (refine wp_load (hp8.loadM low7.var (by simp [cells20, splice])) ?_; (repeat apply Exists.intro); refine ⟨rfl, ?_⟩)
  (refine wp_load (hp8.loadH g1 (by simp)) ?_; (repeat apply Exists.intro); refine ⟨rfl, ?_⟩)
  refine wp_call (refSend_runs (m := { Msg.none with kind := 4, dest := m.frm, ok := true, index := m.snap.idx, round := m.round }) hp8 st7 ⟨_, _, _, _, _, _, rfl, Sl.nil _ _, Bs.nil _⟩ (by show y.q.send.length ≤ _; omega)) fun v9 w9 h9 => ?_
  obtain ⟨rfl, h9⟩ := h9
  ((repeat apply Exists.intro); refine ⟨rfl, ?_⟩)
  have aA : Adv M0 o M3 ((g.upd 0 ⟨t, cells, ot⟩).own s) := (a0.trans (((d1.trans d2).trans d3).right ot)).sub fun b hb => Gs.own_upd b hb
  exact hR _ (Dd.more hle5 ((aA.trans a6).trans a7) h9)

theorem refSnaps_runs {m : Msg} {cs : List Value} (hp : Hp w0 w H M) (st : St H M s o x.r x.q) (hm : Ms H cs m) (hb : Bd k x) (hk : k ≤ 900) (lm : Lm m) (hc : x.r.snap.idx ≤ x.r.commit) :
    Runs Try.prog 93 [.pointer (some ⟨s, 0, none⟩), .agg cs.toArray] w fun v w' => v = .tuple #[] ∧ Dd w0 H M s o (x.snaps m) w' := by
  have st0 := st
  obtain ⟨ss, g, rfl, low, sem⟩ := st.ex
  obtain ⟨a1, n1, c1, a2, n2, c2, rfl, he, hs⟩ := hm
  have hsd := hb.send
  have hi0 := hb.idx
  have hla := hb.last
  have hlg := hb.log
  have l1 := lm.snap0
  have l2 := lm.snap
  apply r93
  refine wp_newH hp fun p1 w1 H1 hp1 hle1 f1 => ?_
  have hpd := hp1.drew
  (refine wp_load (hpd.loadH f1 (by simp)) ?_; (repeat apply Exists.intro); refine ⟨rfl, ?_⟩)
  (refine wp_load (hpd.loadM low.var (by simp [cells20])) ?_; (repeat apply Exists.intro); refine ⟨rfl, ?_⟩)
  refine wp_bif (fun h => ?_) fun h => ?_
  · have hlt : m.term < x.r.term := of_decide_eq_true h
    (refine wp_load (hpd.loadH f1 (by simp)) ?_; (repeat apply Exists.intro); refine ⟨rfl, ?_⟩)
    (refine wp_load (hpd.loadH f1 (by simp)) ?_; (repeat apply Exists.intro); refine ⟨rfl, ?_⟩)
    refine wp_call (refSend_runs (m := { Msg.none with kind := 4, dest := m.frm, round := m.round }) hpd (st0.mono hle1) ⟨_, _, _, _, _, _, rfl, Sl.nil _ _, Bs.nil _⟩ (by omega)) fun v2 w2 h2 => ?_
    obtain ⟨rfl, h2⟩ := h2
    ((repeat apply Exists.intro); refine ⟨rfl, ?_⟩)
    have e : x.led m = (x.send { Msg.none with kind := 4, dest := m.frm, round := m.round }, false) := if_pos hlt
    have e2 : x.snaps m = x.send { Msg.none with kind := 4, dest := m.frm, round := m.round } := by
      unfold Sp.snaps; rw [e]; exact if_pos rfl
    rw [e2]
    exact ⟨rfl, Dd.of hle1 h2⟩
  have hlt : ¬ m.term < x.r.term := of_decide_eq_false h
  have el : x.led m = (Sp.bareAs x 0 m.frm, true) := if_neg hlt
  (refine wp_load (hpd.loadH f1 (by simp)) ?_; (repeat apply Exists.intro); refine ⟨rfl, ?_⟩)
  refine wp_call (refBare_runs (role := 0) (lead := m.frm) hpd (st0.mono hle1)) fun v2 w2 h2 => ?_
  obtain ⟨rfl, H2, M2, o2, hp2, hle2, ha2, st2⟩ := h2
  ((repeat apply Exists.intro); refine ⟨rfl, ?_⟩)
  have hbY : Bd k (Sp.bareAs x 0 m.frm) := by
    have := Bd.bare (x := { x with r := { x.r with role := 0, lead := m.frm } }) ⟨hb.idx, hb.last, hb.term0, hb.term, hb.round0, hb.round, hb.mat, hb.next, hb.log, hb.reads, hb.n, hb.save, hb.send, hb.ready⟩
    exact this
  have e0 : x.snaps m = (let s := (if (Sp.bareAs x 0 m.frm).r.commit < m.snap.idx then (let s := (Sp.bareAs x 0 m.frm).save [recS m.snap]; (if s.r.snap.idx < m.snap.idx then s.shift m.snap else s).commit m.snap.idx) else Sp.bareAs x 0 m.frm);
      s.send { Msg.none with kind := 4, dest := m.frm, ok := true, index := s.r.commit, round := m.round }) := by
    unfold Sp.snaps
    rw [el]
    exact if_neg (by simp)
  have hyi : (Sp.bareAs x 0 m.frm).r.snap.idx = x.r.snap.idx := rfl
  have hyc : (Sp.bareAs x 0 m.frm).r.commit = x.r.commit := rfl
  have hyg : (Sp.bareAs x 0 m.frm).r.log = x.r.log := rfl
  have hyq : (Sp.bareAs x 0 m.frm).q = x.q := rfl
  rw [e0]
  clear e0 el
  generalize Sp.bareAs x 0 m.frm = y at *
  obtain ⟨ss2, g2, rfl, low2, sem2⟩ := id st2.ex
  have f2 := hle2 _ _ f1
  have hl12 := hle1.trans hle2
  have hp3 := hp2.drew
  (refine wp_load (hp3.loadH f2 (by simp)) ?_; (repeat apply Exists.intro); refine ⟨rfl, ?_⟩)
  (refine wp_load (hp3.loadM low2.var (by simp [cells20])) ?_; (repeat apply Exists.intro); refine ⟨rfl, ?_⟩)
  refine wp_bif (fun h3 => ?_) fun h3 => ?_
  rotate_left
  · have g3 : ¬ y.r.commit < m.snap.idx := of_decide_eq_false h3
    simp only [if_neg g3]
    have hp4 := hp3.drew
    (refine wp_load (hp4.loadH f2 (by simp)) ?_; (repeat apply Exists.intro); refine ⟨rfl, ?_⟩)
    (refine wp_load (hp4.loadM low2.var (by simp [cells20])) ?_; (repeat apply Exists.intro); refine ⟨rfl, ?_⟩)
    (refine wp_load (hp4.loadH f2 (by simp)) ?_; (repeat apply Exists.intro); refine ⟨rfl, ?_⟩)
    refine wp_call (refSend_runs (m := { Msg.none with kind := 4, dest := m.frm, ok := true, index := y.r.commit, round := m.round }) hp4 st2 ⟨_, _, _, _, _, _, rfl, Sl.nil _ _, Bs.nil _⟩ (by rw [hyq]; omega)) fun v9 w9 h9 => ?_
    obtain ⟨rfl, h9⟩ := h9
    ((repeat apply Exists.intro); refine ⟨rfl, ?_⟩)
    exact ⟨rfl, Dd.more hl12 ha2 h9⟩
  have g3 : y.r.commit < m.snap.idx := of_decide_eq_true h3
  have g4 : y.r.snap.idx < m.snap.idx := by omega
  simp only [if_pos g3]
  have e1 : (if (y.save [recS m.snap]).r.snap.idx < m.snap.idx then (y.save [recS m.snap]).shift m.snap else y.save [recS m.snap]) = (y.save [recS m.snap]).shift m.snap := if_pos g4
  rw [e1]
  (refine wp_load (hp3.loadH f2 (by simp)) ?_; (repeat apply Exists.intro); refine ⟨rfl, ?_⟩)
  refine wp_new hp3 fun p22 w4 hp4 hM4 _ => ?_
  refine wp_store1 hp4 (by simp) (by simp [Value.oneCell']) fun w5 hp5 => ?_
  rw [splice_all (by simp)] at hp5
  obtain ⟨hp6, hle6⟩ := hp5.fix hM4
  have f22 : (H2.put p22 _) p22 = some [.int .i64 4, .int .u64 0, .int .i64 0, .int .u64 0, .slice none 0 0, .int .u64 0, .int .u64 m.snap.idx, .int .u64 m.snap.term, .slice a2 n2 c2] := Mp.put_same _ _ _
  generalize H2.put p22 _ = H6 at *
  have f6 := hle6 _ _ f2
  have l6 := hl12.trans hle6
  have sem6 := sem2.mono hle6
  have st6 := st2.mono hle6
  have hs6 := hs.mono l6
  have hp7 := hp6.drew
  (refine wp_load (hp7.loadM low2.var (by simp [cells20])) ?_; (repeat apply Exists.intro); refine ⟨rfl, ?_⟩)
  (refine wp_load (hp7.loadM low2.var (by simp [cells20])) ?_; (repeat apply Exists.intro); refine ⟨rfl, ?_⟩)
  (refine wp_load (hp7.loadH f22 (by simp)) ?_; (repeat apply Exists.intro); refine ⟨rfl, ?_⟩)
  have heS : ∀ {H' : Mp}, H6.le H' → Sl (uni H' M2) (En H') (g2 0).sl.a (g2 0).sl.n (g2 0).sl.c y.r.log := fun {H'} hl => own_sl En.len (by omega) (low2.own 0 (by omega)) (low2.own 0 (by omega)).uni (sem6.log.mono (En.mono hl))
  -- the rest, wherever the copy lies
  have rest : ∀ {w' : World} {H' M' : Mp} {p30 : Nat} {t : Sl3} {cells : List Value} {o' : List Nat} {env' : Nat → List Value → World → Prop}, Hp w0 w' H' M' → H6.le H' → (∀ b, M2 b ≠ none → M' b = M2 b) → (∀ b ∈ o', M2 b = none) → M2 p30 = none →
      M' p30 = some [.int .u64 0, .int .i64 0, .int .u64 m.snap.idx, .int .u64 m.snap.term, .slice a2 n2 c2, .slice t.a t.n t.c] → Own M' 2 t cells o' → LL (En H') cells (cutLog y.r.snap y.r.log m.snap) →
      (restV s p1 p22 p30).wp Try.prog (fun v w' => v = .tuple #[] ∧ Dd w0 H M s (g.own s) ((((y.save [recS m.snap]).shift m.snap).commit m.snap.idx).send { Msg.none with kind := 4, dest := m.frm, ok := true, index := (((y.save [recS m.snap]).shift m.snap).commit m.snap.idx).r.commit, round := m.round }) w') env' w' := by
    intro w' H' M' p30 t cells o' env' hp' hl' hk1 hk2 hk3 hk4 hk5 hk6
    have lowN : Low M' s (cells20 y.r ss2 g2) g2 := low2.frame fun b hb => hk1 b (st2.ne b hb)
    refine restV_wp (M0 := M2) (o := g2.own s) (y := y) (m := m) hp' lowN (sem6.mono hl') (hl' _ _ f6) (hl' _ _ f22) hk4 (low2.notin hk3) (hs6.mono hl') hk5 hk6 (fun b hb h => st2.ne b h (hk2 b hb)) ⟨fun b hb _ => hk1 b hb, fun b hb => ?_⟩ hbY hk g4 fun w'' h => ⟨rfl, Dd.more (l6.trans hl') ha2 h⟩
    rcases List.mem_append.1 hb with h | h
    · exact .inl h
    · exact .inr (hk2 b h)
  refine ⟨?_, ?_⟩
  · refine wp_newH hp7 fun p8 w8 H8 hp8 hle8 f8 => ?_
    refine ⟨?_, ?_⟩
    · refine wp_call (fold1_runs (S := y.r.snap) (y := m.snap) hp8 (heS hle8) f8 (hs6.mono hle8) g4 (by omega) (by omega) (by rw [hyg]; omega)) fun v9 w9 h9 => ?_
      obtain ⟨t, cells, o9, M9, rfl, hp9, ho9, hl9, ha9⟩ := h9
      ((repeat apply Exists.intro); refine ⟨rfl, ?_⟩)
      have hno : ∀ b ∈ o9, M2 b = none := fun b hb => (ha9.fresh b hb).resolve_left (by simp)
      refine wp_new hp9 fun p10 w10 hp10 hM10 _ => ?_
      refine wp_store1 hp10 (by simp) (by simp [Value.oneCell']) fun w11 hp11 => ?_
      rw [splice_all (by simp)] at hp11
      refine rest hp11 hle8 (fun b hb => ?_) hno ?_ (Mp.put_same _ _ _) (ho9.frame fun b hb => Mp.put_other fun e => ho9.ne b hb (e ▸ hM10)) hl9
      · rw [Mp.put_other fun e => (by subst e; rw [ha9.keep _ hb (by simp)] at hM10; exact hb hM10)]
        exact ha9.keep b hb (by simp)
      · cases hm : M2 p10 with
        | none => rfl
        | some c => rw [ha9.keep _ (by rw [hm]; simp) (by simp), hm] at hM10; cases hM10
    · refine wp_new hp8 fun p10 w10 hp10 hM10 _ => ?_
      have hle' : (uni H8 M2).le (uni H8 (M2.put p10 [.int .u64 0, .int .i64 0, .int .u64 0, .int .u64 0, .slice none 0 0, .slice none 0 0])) := uni_frame (Mp.le.refl _) (fun x hx => Mp.put_other fun e => hx (e ▸ hM10)) fun x hx hx' => by
        cases hb : (M2.put p10 [.int .u64 0, .int .i64 0, .int .u64 0, .int .u64 0, .slice none 0 0, .slice none 0 0]) x with
        | none => exact absurd hb hx'
        | some c => exact hp10.sep x c hb
      refine wp_call (fold1_runs (S := y.r.snap) (y := m.snap) hp10 ((heS hle8).mono hle' fun _ _ h => h) f8 (hs6.mono hle8) g4 (by omega) (by omega) (by rw [hyg]; omega)) fun v9 w9 h9 => ?_
      obtain ⟨t, cells, o9, M9, rfl, hp9, ho9, hl9, ha9⟩ := h9
      ((repeat apply Exists.intro); refine ⟨rfl, ?_⟩)
      have hno : ∀ b ∈ o9, M2 b = none ∧ b ≠ p10 := fun b hb => by
        have h := (ha9.fresh b hb).resolve_left (by simp)
        have hne : b ≠ p10 := fun e => by rw [e, Mp.put_same] at h; cases h
        rw [Mp.put_other hne] at h
        exact ⟨h, hne⟩
      have k10 := (ha9.keep p10 (by simp) (by simp)).trans (Mp.put_same _ _ _)
      refine wp_store hp9 k10 (by simp) (by simp [Value.oneCell']) fun w11 hp11 => ?_
      rw [splice_all (by simp)] at hp11
      refine rest hp11 hle8 (fun b hb => ?_) (fun b hb => (hno b hb).1) hM10 (Mp.put_same _ _ _) (ho9.frame fun b hb => Mp.put_other (hno b hb).2) hl9
      have hne : b ≠ p10 := fun e => hb (e ▸ hM10)
      rw [Mp.put_other hne, ha9.keep b (by rw [Mp.put_other hne]; exact hb) (by simp), Mp.put_other hne]
  · refine wp_new hp7 fun p10 w10 hp10 hM10 _ => ?_
    refine wp_newH hp10 fun p8 w8 H8 hp8 hle8 f8 => ?_
    have hle' : (uni H8 M2).le (uni H8 (M2.put p10 [.int .u64 0, .int .i64 0, .int .u64 0, .int .u64 0, .slice none 0 0, .slice none 0 0])) := uni_frame (Mp.le.refl _) (fun x hx => Mp.put_other fun e => hx (e ▸ hM10)) fun x hx hx' => by
      cases hb : (M2.put p10 [.int .u64 0, .int .i64 0, .int .u64 0, .int .u64 0, .slice none 0 0, .slice none 0 0]) x with
      | none => exact absurd hb hx'
      | some c => exact hp8.sep x c hb
    refine wp_call (fold1_runs (S := y.r.snap) (y := m.snap) hp8 ((heS hle8).mono hle' fun _ _ h => h) f8 (hs6.mono hle8) g4 (by omega) (by omega) (by rw [hyg]; omega)) fun v9 w9 h9 => ?_
    obtain ⟨t, cells, o9, M9, rfl, hp9, ho9, hl9, ha9⟩ := h9
    ((repeat apply Exists.intro); refine ⟨rfl, ?_⟩)
    have hno : ∀ b ∈ o9, M2 b = none ∧ b ≠ p10 := fun b hb => by
      have h := (ha9.fresh b hb).resolve_left (by simp)
      have hne : b ≠ p10 := fun e => by rw [e, Mp.put_same] at h; cases h
      rw [Mp.put_other hne] at h
      exact ⟨h, hne⟩
    have k10 := (ha9.keep p10 (by simp) (by simp)).trans (Mp.put_same _ _ _)
    refine wp_store hp9 k10 (by simp) (by simp [Value.oneCell']) fun w11 hp11 => ?_
    rw [splice_all (by simp)] at hp11
    refine rest hp11 hle8 (fun b hb => ?_) (fun b hb => (hno b hb).1) hM10 (Mp.put_same _ _ _) (ho9.frame fun b hb => Mp.put_other (hno b hb).2) hl9
    have hne : b ≠ p10 := fun e => hb (e ▸ hM10)
    rw [Mp.put_other hne, ha9.keep b (by rw [Mp.put_other hne]; exact hb) (by simp), Mp.put_other hne]
end
end Go.Proofs.Ytnbfffmdplcajaa
namespace Go.Proofs.Ytnbfffmdplcajaa
open Go.Vc Go.Vc.Rf

section
variable {w0 w : World} {H M U : Mp} {s : Nat} {o : List Nat} {x : Sp} {k : Nat} {R : Value → World → Prop} {env : Nat → List Value → World → Prop}

set_option maxHeartbeats 2000000 in
theorem refDone_runs {m : Msg} {cs : List Value} (hp : Hp w0 w H M) (st : St H M s o x.r x.q) (hm : Ms H cs m) (hb : Bd k x) (hk : k ≤ 800) (lm : Lm m)
    (hl : x.r.role = 2 → Lr x.r ∧ ∀ i : Int, 0 ≤ i → i < x.r.n → 1 ≤ nth x.r.next i ∧ nth x.r.next i ≤ lastI x.r + 1 ∧ nth x.r.mat i < nth x.r.next i) (f0 : 1 ≤ m.frm) (fn : m.frm ≤ x.r.n) (hc : x.r.snap.idx ≤ x.r.commit) :
    Runs Try.prog 92 [.pointer (some ⟨s, 0, none⟩), .agg cs.toArray] w fun v w' => v = .tuple #[] ∧ Dd w0 H M s o (x.done m) w' := by
  have st0 := st
  obtain ⟨ss, g, rfl, low, sem⟩ := st.ex
  obtain ⟨a1, n1, c1, a2, n2, c2, rfl, he, hs⟩ := hm
  have hn := hb.n
  have hi0 := hb.idx
  have hla := hb.last
  have l1 := lm.index0
  have l2 := lm.index
  have hll0 : 0 ≤ lastI x.r := by unfold lastI; omega
  apply r92
  refine wp_newH hp fun p1 w1 H1 hp1 hle1 f1 => ?_
  have no : ∀ {w' : World}, Hp w0 w' H1 M → (x.r.role ≠ 2 ∨ m.term ≠ x.r.term) → Value.tuple #[] = .tuple #[] ∧ Dd w0 H M s (g.own s) (x.done m) w' := fun hp' h => by
    have e : x.done m = x := if_pos h
    rw [e]
    exact ⟨rfl, H1, M, _, hp', hle1, Adv.refl _ _, st0.mono hle1⟩
  have hpd := hp1.drew
  have sem1 := sem.mono hle1
  (refine wp_load (hpd.loadM low.var (by simp [cells20])) ?_; (repeat apply Exists.intro); refine ⟨rfl, ?_⟩)
  refine wp_bif (fun h => no hpd (.inl (by simpa using h))) fun h => ?_
  have hro : x.r.role = 2 := by simpa using h
  obtain ⟨⟨q1, q2, q3⟩, hah⟩ := hl hro
  have hak := hah (m.frm - 1) (by omega) (by omega)
  have hlg := hb.log
  (refine wp_load (hpd.loadH f1 (by simp)) ?_; (repeat apply Exists.intro); refine ⟨rfl, ?_⟩)
  (refine wp_load (hpd.loadM low.var (by simp [cells20])) ?_; (repeat apply Exists.intro); refine ⟨rfl, ?_⟩)
  refine wp_bif (fun h => no hpd (.inr (by simpa using h))) fun h => ?_
  have hte : m.term = x.r.term := by simpa using h
  have e0 : x.done m = (
    let k := (m.frm - 1).toNat
    let last := lastI x.r
    let s : Sp := { x with r := { x.r with acks := x.r.acks.set k (max (x.r.acks.getD k 0) m.round) } }
    let s := if m.ok = true then
        (let v := max (s.r.mat.getD k 0) (min m.index last)
         let s : Sp := Sp.counts { s with r := { s.r with mat := s.r.mat.set k v, next := s.r.next.set k (v + 1) } }
         if v + 1 ≤ last then s.sends m.frm else s)
      else if m.index + 1 < s.r.next.getD k 0 then
        (let s : Sp := { s with r := { s.r with next := s.r.next.set k (max (m.index + 1) (s.r.mat.getD k 0 + 1)) } }
         s.sends m.frm)
      else s
    s.answers) := if_neg fun hh => hh.elim (fun h => h hro) fun h => h hte
  dsimp only at e0
  (refine wp_load (hpd.loadH f1 (by simp)) ?_; (repeat apply Exists.intro); refine ⟨rfl, ?_⟩)
  have ef : IntKind.i64.wrap (m.frm - 1) = m.frm - 1 := wrap_i64 (by omega) (by omega)
  (refine wp_load (hpd.loadM low.var (by simp [cells20])) ?_; (repeat apply Exists.intro); refine ⟨rfl, ?_⟩)
  refine wp_call (refLast_runs (r := x.r) hpd (Mp.le.refl _) ⟨_, _, _, _, _, _, _, rfl, Low.ra hpd low sem1⟩ ⟨hi0, by unfold lastI at hla; omega⟩ (by omega)) fun v2 w2 h2 => ?_
  obtain ⟨rfl, hp2⟩ := h2
  ((repeat apply Exists.intro); refine ⟨rfl, ?_⟩)
  have elw : IntKind.u64.wrap (lastI x.r) = lastI x.r := wrap_u64 hll0 (by omega)
  rw [elw]
  have hp3 := hp2.drew
  (refine wp_load (hp3.loadM low.var (by simp [cells20])) ?_; (repeat apply Exists.intro); refine ⟨rfl, ?_⟩)
  (refine wp_load (hp3.loadM low.var (by simp [cells20])) ?_; (repeat apply Exists.intro); refine ⟨rfl, ?_⟩)
  rw [ef]
  refine wp_idx Nu.len (by omega) hp3 (Mp.le.refl _) (Low.ra hp3 low sem1).acks 0 1 (by omega) (by omega) (by omega) fun cs hcs => ?_
  cases hcs
  ((repeat apply Exists.intro); refine ⟨rfl, ?_⟩)
  (refine wp_load (hp3.loadH f1 (by simp)) ?_; (repeat apply Exists.intro); refine ⟨rfl, ?_⟩)
  have emax : ∀ a b : Int, (if b > a then b else a) = max a b := fun a b => by split <;> omega
  rw [emax]
  refine wp_setL 4 (by omega) rfl hp3 low (p := Nu) sem1.acks Nu.len (by omega) (by omega) (y := max (x.r.acks.getD (m.frm - 1).toNat 0) m.round) rfl rfl fun w4 M4 cells4 hp4 low4 hl4 a4 => ?_
  have st4 : St H1 M4 s _ ({ x with r := { x.r with acks := x.r.acks.set (m.frm - 1).toNat (max (x.r.acks.getD (m.frm - 1).toNat 0) m.round) } } : Sp).r x.q := St.of (ss := ss) low4 rfl ⟨sem1.state, sem1.log, sem1.votes, sem1.next, sem1.mat, hl4, sem1.reads, sem1.save, sem1.send, sem1.ready⟩
  have hb4 : Bd k ({ x with r := { x.r with acks := x.r.acks.set (m.frm - 1).toNat (max (x.r.acks.getD (m.frm - 1).toNat 0) m.round) } } : Sp) := ⟨hb.idx, hb.last, hb.term0, hb.term, hb.round0, hb.round, hb.mat, hb.next, hb.log, hb.reads, hb.n, hb.save, hb.send, hb.ready⟩
  have q4 : ((x.r.acks.set (m.frm - 1).toNat (max (x.r.acks.getD (m.frm - 1).toNat 0) m.round)).length : Int) = x.r.n := by rw [List.length_set]; exact q3
  generalize x.r.acks.set (m.frm - 1).toNat (max (x.r.acks.getD (m.frm - 1).toNat 0) m.round) = A at *
  obtain ⟨s5, g5, e5, low5, sem5⟩ := id st4.ex
  (refine wp_load (hp4.loadH f1 (by simp)) ?_; (repeat apply Exists.intro); refine ⟨rfl, ?_⟩)
  -- the answers, at the end of each way
  have fin : ∀ {w' : World} {H' M' : Mp} {o' : List Nat} {z : Sp} {j : Nat}, Hp w0 w' H' M' → H1.le H' → Adv M (g.own s) M' o' → St H' M' s o' z.r z.q → Bd j z → j ≤ 1000 → (z.r.acks.length : Int) = z.r.n → x.done m = z.answers →
      (VC.call 105 [.pointer (some ⟨s, 0, none⟩)] fun v => .isL [v] [.tuple #[]] <| .ret (.tuple #[])).wp Try.prog (fun v w' => v = .tuple #[] ∧ Dd w0 H M s (g.own s) (x.done m) w') (fun _ _ _ => False) w' := by
    intro w' H' M' o' z j hp' hl' ha' st' hb' hj ha e
    refine wp_call (refAnswers_runs hp' st' hb' hj ha) fun v w2 h2 => ?_
    obtain ⟨rfl, h2⟩ := h2
    ((repeat apply Exists.intro); refine ⟨rfl, ?_⟩)
    rw [e]
    exact ⟨rfl, Dd.more (hle1.trans hl') ha' h2⟩
  refine wp_bif (fun hok => ?_) fun hok => ?_
  · simp only [hok, if_true] at e0
    have hp5 := hp4.drew
    (refine wp_load (hp5.loadM low4.var (by simp [cells20])) ?_; (repeat apply Exists.intro); refine ⟨rfl, ?_⟩)
    (refine wp_load (hp5.loadM low4.var (by simp [cells20])) ?_; (repeat apply Exists.intro); refine ⟨rfl, ?_⟩)
    refine wp_idx Nu.len (by omega) hp5 (Mp.le.refl _) (Low.ra (r := { x.r with acks := A }) (q := x.q) hp5 low4 ⟨sem1.state, sem1.log, sem1.votes, sem1.next, sem1.mat, hl4, sem1.reads, sem1.save, sem1.send, sem1.ready⟩).mat 0 1 (by omega) (by show _ < (x.r.mat.length : Int); omega) (by omega) fun cs hcs => ?_
    cases hcs
    ((repeat apply Exists.intro); refine ⟨rfl, ?_⟩)
    (refine wp_load (hp5.loadH f1 (by simp)) ?_; (repeat apply Exists.intro); refine ⟨rfl, ?_⟩)
    have emx : ∀ a b c : Int, (if (if a < b then a else b) > c then if a < b then a else b else c) = max c (min b a) := fun a b c => by split <;> split <;> omega
    rw [emx]
    have hmm := nth_mem (l := x.r.mat) (i := m.frm - 1) (by omega) (by omega)
    obtain ⟨u0, u1⟩ := hb.mat _ hmm
    have hv0 : 0 ≤ max (x.r.mat.getD (m.frm - 1).toNat 0) (min m.index (lastI x.r)) := by omega
    have hv1 : max (x.r.mat.getD (m.frm - 1).toNat 0) (min m.index (lastI x.r)) ≤ 2000000000000000000 + k := by
      have : nth x.r.mat (m.frm - 1) = x.r.mat.getD (m.frm - 1).toNat 0 := rfl
      omega
    change VC.wp _ _ (VC.some _ fun x' => .need _ <| .store _ [.int .u64 (max (x.r.mat.getD (m.frm - 1).toNat 0) (min m.index (lastI x.r)))] _) _ _
    generalize max (x.r.mat.getD (m.frm - 1).toNat 0) (min m.index (lastI x.r)) = v at *
    refine wp_setL 3 (by omega) rfl hp5 low4 (p := Nu) (l := x.r.mat) sem1.mat Nu.len (by omega) (by omega) (y := v) rfl rfl fun w6 M6 cells6 hp6 low6 hl6 a6 => ?_
    have hp7 := hp6.drew
    (refine wp_load (hp7.loadM low6.var (by simp [cells20])) ?_; (repeat apply Exists.intro); refine ⟨rfl, ?_⟩)
    (refine wp_load (hp7.loadM low6.var (by simp [cells20])) ?_; (repeat apply Exists.intro); refine ⟨rfl, ?_⟩)
    have hlm : (m.frm - 1).toNat < x.r.mat.length := by omega
    refine wp_idx Nu.len (by omega) hp7 (Mp.le.refl _) (Low.ra (r := { x.r with acks := A, mat := x.r.mat.set (m.frm - 1).toNat v }) (q := x.q) hp7 low6 ⟨sem1.state, sem1.log, sem1.votes, sem1.next, hl6, hl4, sem1.reads, sem1.save, sem1.send, sem1.ready⟩).mat 0 1 (by omega) (by show _ < ((x.r.mat.set _ _).length : Int); rw [List.length_set]; omega) (by omega) fun cs hcs => ?_
    have eg : ({ x.r with acks := A, mat := x.r.mat.set (m.frm - 1).toNat v } : Raft).mat.getD (m.frm - 1).toNat 0 = v := getD_set hlm
    rw [eg] at hcs
    cases hcs
    ((repeat apply Exists.intro); refine ⟨rfl, ?_⟩)
    change VC.wp _ _ (VC.some _ fun x' => .need _ <| .store _ [.int .u64 (IntKind.u64.wrap (v + 1))] _) _ _
    have ev : IntKind.u64.wrap (v + 1) = v + 1 := wrap_u64 (by omega) (by omega)
    rw [ev]
    refine wp_setL 2 (by omega) rfl hp7 low6 (p := Nu) (l := x.r.next) sem1.next Nu.len (by omega) (by omega) (y := v + 1) rfl rfl fun w8 M8 cells8 hp8 low8 hl8 a8 => ?_
    have st8 : St H1 M8 s _ ({ x with r := { x.r with acks := A, mat := x.r.mat.set (m.frm - 1).toNat v, next := x.r.next.set (m.frm - 1).toNat (v + 1) } } : Sp).r x.q := St.of (ss := ss) low8 rfl ⟨sem1.state, sem1.log, sem1.votes, hl8, hl6, hl4, sem1.reads, sem1.save, sem1.send, sem1.ready⟩
    have hb8 : Bd k ({ x with r := { x.r with acks := A, mat := x.r.mat.set (m.frm - 1).toNat v, next := x.r.next.set (m.frm - 1).toNat (v + 1) } } : Sp) :=
      ⟨hb.idx, hb.last, hb.term0, hb.term, hb.round0, hb.round, mem_set_of hb.mat ⟨hv0, hv1⟩, mem_set_of hb.next ⟨by omega, by omega⟩, hb.log, hb.reads, hb.n, hb.save, hb.send, hb.ready⟩
    have a18 := ((a4.trans a6).trans a8)
    have hln : (m.frm - 1).toNat < x.r.next.length := by omega
    refine wp_call (refCounts_runs (x := { x with r := { x.r with acks := A, mat := x.r.mat.set (m.frm - 1).toNat v, next := x.r.next.set (m.frm - 1).toNat (v + 1) } }) hp8 st8 hb8 (by omega) (by show ((x.r.mat.set _ _).length : Int) = _; rw [List.length_set]; exact q2) (by exact hc)) fun v9 w9 h9 => ?_
    obtain ⟨rfl, H9, M9, o9, hp9, hle9, ha9, st9⟩ := h9
    ((repeat apply Exists.intro); refine ⟨rfl, ?_⟩)
    obtain ⟨sx, gx, rfl, lowx, semx⟩ := id st9.ex
    (refine wp_load (hp9.loadM lowx.var (by simp [cells20])) ?_; (repeat apply Exists.intro); refine ⟨rfl, ?_⟩)
    have q9 : ((x.r.next.set (m.frm - 1).toNat (v + 1)).length : Int) = x.r.n := by rw [List.length_set]; exact q1
    refine wp_idx Nu.len (by omega) hp9 (Mp.le.refl _) (Low.ra hp9 lowx semx).next 0 1 (by omega) (by show _ < ((x.r.next.set _ _).length : Int); omega) (by omega) fun cs hcs => ?_
    have eg2 : (x.r.next.set (m.frm - 1).toNat (v + 1)).getD (m.frm - 1).toNat 0 = v + 1 := getD_set hln
    change Nu cs ((x.r.next.set (m.frm - 1).toNat (v + 1)).getD (m.frm - 1).toNat 0) at hcs
    rw [eg2] at hcs
    cases hcs
    ((repeat apply Exists.intro); refine ⟨rfl, ?_⟩)
    refine wp_bif (fun h10 => ?_) fun h10 => ?_
    · have g10 : v + 1 ≤ lastI x.r := of_decide_eq_true h10
      rw [if_pos g10] at e0
      (refine wp_load (hp9.loadH (hle9 _ _ f1) (by simp)) ?_; (repeat apply Exists.intro); refine ⟨rfl, ?_⟩)
      refine wp_call (refSends_runs hp9 st9 hb8.counts (by omega) q9 f0 fn (by show 1 ≤ (x.r.next.set (m.frm - 1).toNat (v + 1)).getD (m.frm - 1).toNat 0; rw [eg2]; omega) (by show (x.r.next.set (m.frm - 1).toNat (v + 1)).getD (m.frm - 1).toNat 0 ≤ lastI x.r + 1; rw [eg2]; omega)) fun v11 w11 h11 => ?_
      obtain ⟨rfl, H11, M11, o11, hp11, hle11, ha11, st11⟩ := h11
      ((repeat apply Exists.intro); refine ⟨rfl, ?_⟩)
      exact fin hp11 (hle9.trans hle11) ((a18.trans ha9).trans ha11) st11 hb8.counts.sends (by omega) (by rw [sends_r]; exact q4) e0
    · have g10 : ¬ v + 1 ≤ lastI x.r := of_decide_eq_false h10
      rw [if_neg g10] at e0
      exact fin hp9 hle9 (a18.trans ha9) st9 hb8.counts (by omega) q4 e0
  · simp only [hok, Bool.false_eq_true, if_false] at e0
    have hp5 := hp4.drew
    have ei : IntKind.u64.wrap (m.index + 1) = m.index + 1 := wrap_u64 (by omega) (by omega)
    (refine wp_load (hp5.loadH f1 (by simp)) ?_; (repeat apply Exists.intro); refine ⟨rfl, ?_⟩)
    (refine wp_load (hp5.loadM low4.var (by simp [cells20])) ?_; (repeat apply Exists.intro); refine ⟨rfl, ?_⟩)
    refine wp_idx Nu.len (by omega) hp5 (Mp.le.refl _) (Low.ra (r := { x.r with acks := A }) (q := x.q) hp5 low4 ⟨sem1.state, sem1.log, sem1.votes, sem1.next, sem1.mat, hl4, sem1.reads, sem1.save, sem1.send, sem1.ready⟩).next 0 1 (by omega) (by show _ < (x.r.next.length : Int); omega) (by omega) fun cs hcs => ?_
    cases hcs
    ((repeat apply Exists.intro); refine ⟨rfl, ?_⟩)
    change VC.wp _ _ (bif decide (IntKind.u64.wrap (m.index + 1) < x.r.next.getD (m.frm - 1).toNat 0) then _ else _) _ _
    rw [ei]
    refine wp_bif (fun h6 => ?_) fun h6 => ?_
    · have g6 : m.index + 1 < x.r.next.getD (m.frm - 1).toNat 0 := of_decide_eq_true h6
      rw [if_pos g6] at e0
      have hp7 := hp5.drew
      (refine wp_load (hp7.loadM low4.var (by simp [cells20])) ?_; (repeat apply Exists.intro); refine ⟨rfl, ?_⟩)
      (refine wp_load (hp7.loadH f1 (by simp)) ?_; (repeat apply Exists.intro); refine ⟨rfl, ?_⟩)
      (refine wp_load (hp7.loadM low4.var (by simp [cells20])) ?_; (repeat apply Exists.intro); refine ⟨rfl, ?_⟩)
      refine wp_idx Nu.len (by omega) hp7 (Mp.le.refl _) (Low.ra (r := { x.r with acks := A }) (q := x.q) hp7 low4 ⟨sem1.state, sem1.log, sem1.votes, sem1.next, sem1.mat, hl4, sem1.reads, sem1.save, sem1.send, sem1.ready⟩).mat 0 1 (by omega) (by show _ < (x.r.mat.length : Int); omega) (by omega) fun cs hcs => ?_
      cases hcs
      ((repeat apply Exists.intro); refine ⟨rfl, ?_⟩)
      have hmm := nth_mem (l := x.r.mat) (i := m.frm - 1) (by omega) (by omega)
      obtain ⟨u0, u1⟩ := hb.mat _ hmm
      change 0 ≤ x.r.mat.getD (m.frm - 1).toNat 0 at u0
      change x.r.mat.getD (m.frm - 1).toNat 0 ≤ _ at u1
      change VC.wp _ _ (VC.some _ fun x' => .need _ <| .store _ [.int .u64 (if IntKind.u64.wrap (x.r.mat.getD (m.frm - 1).toNat 0 + 1) > IntKind.u64.wrap (m.index + 1) then IntKind.u64.wrap (x.r.mat.getD (m.frm - 1).toNat 0 + 1) else IntKind.u64.wrap (m.index + 1))] _) _ _
      rw [wrap_u64 (x := x.r.mat.getD (m.frm - 1).toNat 0 + 1) (by omega) (by omega), ei, emax]
      have hv0 : 0 ≤ max (m.index + 1) (x.r.mat.getD (m.frm - 1).toNat 0 + 1) := by omega
      have hv3 : 1 ≤ max (m.index + 1) (x.r.mat.getD (m.frm - 1).toNat 0 + 1) := by omega
      have hv2 : max (m.index + 1) (x.r.mat.getD (m.frm - 1).toNat 0 + 1) ≤ lastI x.r + 1 := by
        obtain ⟨k1, k2, k3⟩ := hak
        change x.r.next.getD (m.frm - 1).toNat 0 ≤ lastI x.r + 1 at k2
        change x.r.mat.getD (m.frm - 1).toNat 0 < x.r.next.getD (m.frm - 1).toNat 0 at k3
        omega
      have hln : (m.frm - 1).toNat < x.r.next.length := by omega
      have hv1 : max (m.index + 1) (x.r.mat.getD (m.frm - 1).toNat 0 + 1) ≤ 2000000000000000001 + k := by omega
      change x.done m = Sp.answers (Sp.sends { x with r := { x.r with acks := A, next := x.r.next.set (m.frm - 1).toNat (max (m.index + 1) (x.r.mat.getD (m.frm - 1).toNat 0 + 1)) } } m.frm) at e0
      generalize max (m.index + 1) (x.r.mat.getD (m.frm - 1).toNat 0 + 1) = v at *
      refine wp_setL 2 (by omega) rfl hp7 low4 (p := Nu) (l := x.r.next) sem1.next Nu.len (by omega) (by omega) (y := v) rfl rfl fun w8 M8 cells8 hp8 low8 hl8 a8 => ?_
      have st8 : St H1 M8 s _ ({ x with r := { x.r with acks := A, next := x.r.next.set (m.frm - 1).toNat v } } : Sp).r x.q := St.of (ss := ss) low8 rfl ⟨sem1.state, sem1.log, sem1.votes, hl8, sem1.mat, hl4, sem1.reads, sem1.save, sem1.send, sem1.ready⟩
      have hb8 : Bd k ({ x with r := { x.r with acks := A, next := x.r.next.set (m.frm - 1).toNat v } } : Sp) :=
        ⟨hb.idx, hb.last, hb.term0, hb.term, hb.round0, hb.round, hb.mat, mem_set_of hb.next ⟨hv0, hv1⟩, hb.log, hb.reads, hb.n, hb.save, hb.send, hb.ready⟩
      (refine wp_load (hp8.loadH f1 (by simp)) ?_; (repeat apply Exists.intro); refine ⟨rfl, ?_⟩)
      refine wp_call (refSends_runs (x := { x with r := { x.r with acks := A, next := x.r.next.set (m.frm - 1).toNat v } }) hp8 st8 hb8 (by omega) (by show ((x.r.next.set _ _).length : Int) = _; rw [List.length_set]; exact q1) f0 fn (by show 1 ≤ (x.r.next.set (m.frm - 1).toNat v).getD (m.frm - 1).toNat 0; rw [getD_set hln]; exact hv3) (by show (x.r.next.set (m.frm - 1).toNat v).getD (m.frm - 1).toNat 0 ≤ lastI x.r + 1; rw [getD_set hln]; exact hv2)) fun v11 w11 h11 => ?_
      obtain ⟨rfl, H11, M11, o11, hp11, hle11, ha11, st11⟩ := h11
      ((repeat apply Exists.intro); refine ⟨rfl, ?_⟩)
      exact fin hp11 hle11 ((a4.trans a8).trans ha11) st11 hb8.sends (by omega) (by rw [sends_r]; exact q4) e0
    · have g6 : ¬ m.index + 1 < x.r.next.getD (m.frm - 1).toNat 0 := of_decide_eq_false h6
      rw [if_neg g6] at e0
      exact fin hp5 (Mp.le.refl _) a4 st4 hb4 (by omega) q4 e0

set_option maxHeartbeats 1000000 in
theorem refGot_runs {r : Raft} {m : Msg} {cs cm : List Value} (hp : Hp w0 w H M) (hr : Ra H cs r) (hm : Ms H cm m) (hf : Fit r) (may : MayP r) (lm : Lm m) : Runs Try.prog 46 [.agg cs.toArray, .agg cm.toArray] w (Top w0 H M (got r m)) := by
  have hr0 := hr
  have hm0 := hm
  obtain ⟨ss, ls, vs, ns, ms, ak, rs, rfl, hr⟩ := hr
  obtain ⟨a1, n1, c1, a2, n2, c2, rfl, he, hs⟩ := hm
  have l1 := lm.term0
  apply r46
  refine wp_newH hp fun p1 w1 H1 hp1 hle1 f1 => ?_
  refine wp_newH hp1 fun p2 w2 H2 hp2 hle2 f2 => ?_
  refine wp_new hp2 fun p3 w3 hp3 hM3 _ => wp_new hp3 fun p4 w4 hp4 hM4 _ => ?_
  have rv0 := Rv.start (zb := [.slice none 0 0, .slice none 0 0, .slice none 0 0]) hM3 hM4 rfl rfl
  have hl2 := hle1.trans hle2
  (refine wp_load (hp4.loadH (hle2 _ _ f1) (by simp)) ?_; (repeat apply Exists.intro); refine ⟨rfl, ?_⟩)
  refine wp_call (refOwn_runs hp4 (hr0.mono hl2) hf.cpy) fun v5 w5 h5 => ?_
  obtain ⟨s, rfl, H5, M5, o5, hp5, hle5, ha5, st5⟩ := h5
  ((repeat apply Exists.intro); refine ⟨rfl, ?_⟩)
  have rv5 := rv0.step ha5
  have hle := hl2.trans hle5
  have g1 := hle5 _ _ (hle2 _ _ f1)
  have g2 := hle5 _ _ f2
  have no : ∀ {w' : World}, Hp w0 w' H5 M5 → mine r m = false → (tail2V s p3 p4).wp Try.prog (Top w0 H M (got r m)) (fun _ _ _ => False) w' := fun hp' h => by
    have e : got r m = Rf.start r := by unfold got; rw [if_pos h]
    rw [e]
    exact tail2_wp (x := Rf.start r) hp' hle st5 rv5
  have nm : ∀ {P : Prop}, ¬ P → (mine r m = true → P) → mine r m = false := fun h1 h2 => by
    cases e : mine r m with
    | false => rfl
    | true => exact absurd (h2 e) h1
  (refine wp_load (hp5.loadH g2 (by simp)) ?_; (repeat apply Exists.intro); refine ⟨rfl, ?_⟩)
  refine wp_bif (fun h => no hp5 (nm (P := 1 ≤ m.frm) (by have := of_decide_eq_true h; omega) fun h => (mine_of h).2.1)) fun h => ?_
  have q1 : 1 ≤ m.frm := by have := of_decide_eq_false h; omega
  (refine wp_load (hp5.loadH g2 (by simp)) ?_; (repeat apply Exists.intro); refine ⟨rfl, ?_⟩)
  (refine wp_load (hp5.loadH g1 (by simp)) ?_; (repeat apply Exists.intro); refine ⟨rfl, ?_⟩)
  refine wp_bif (fun h => no hp5 (nm (P := m.frm ≤ r.n) (by have := of_decide_eq_true h; omega) fun h => (mine_of h).2.2.1)) fun h => ?_
  have q2 : m.frm ≤ r.n := by have := of_decide_eq_false h; omega
  (refine wp_load (hp5.loadH g2 (by simp)) ?_; (repeat apply Exists.intro); refine ⟨rfl, ?_⟩)
  (refine wp_load (hp5.loadH g1 (by simp)) ?_; (repeat apply Exists.intro); refine ⟨rfl, ?_⟩)
  refine wp_bif (fun h => no hp5 (nm (P := m.frm ≠ r.id) (by simpa using h) fun h => (mine_of h).2.2.2.1)) fun h => ?_
  have q3 : m.frm ≠ r.id := by simpa using h
  (refine wp_load (hp5.loadH g2 (by simp)) ?_; (repeat apply Exists.intro); refine ⟨rfl, ?_⟩)
  (refine wp_load (hp5.loadH g1 (by simp)) ?_; (repeat apply Exists.intro); refine ⟨rfl, ?_⟩)
  refine wp_bif (fun h => no hp5 (nm (P := m.dest = r.id) (by simpa using h) fun h => (mine_of h).2.2.2.2.1)) fun h => ?_
  have q4 : m.dest = r.id := by simpa using h
  (refine wp_load (hp5.loadH g2 (by simp)) ?_; (repeat apply Exists.intro); refine ⟨rfl, ?_⟩)
  refine wp_bif (fun h => no hp5 (nm (P := 1 ≤ m.kind) (by have := of_decide_eq_true h; omega) fun h => (mine_of h).2.2.2.2.2.1)) fun h => ?_
  have q5 : 1 ≤ m.kind := by have := of_decide_eq_false h; omega
  (refine wp_load (hp5.loadH g2 (by simp)) ?_; (repeat apply Exists.intro); refine ⟨rfl, ?_⟩)
  refine wp_bif (fun h => no hp5 (nm (P := m.kind ≤ 5) (by have := of_decide_eq_true h; omega) fun h => (mine_of h).2.2.2.2.2.2)) fun h => ?_
  have q6 : m.kind ≤ 5 := by have := of_decide_eq_false h; omega
  have hmine := mine_mk may.may q1 q2 q3 q4 q5 q6
  rw [got_mine hmine]
  have hbG := bd_gotAt (m := m) hf.bd lm
  refine ⟨fun vs w' => vs = [] ∧ Dd w0 H5 M5 s o5 (gotAt r m) w', ?_, ?_⟩
  · (refine wp_load (hp5.loadH g2 (by simp)) ?_; (repeat apply Exists.intro); refine ⟨rfl, ?_⟩)
    (refine wp_load (hp5.loadH g1 (by simp)) ?_; (repeat apply Exists.intro); refine ⟨rfl, ?_⟩)
    refine wp_bif (fun h => ?_) fun h => ?_
    · have h' : r.term < m.term := of_decide_eq_true h
      (refine wp_load (hp5.loadH g2 (by simp)) ?_; (repeat apply Exists.intro); refine ⟨rfl, ?_⟩)
      refine wp_call (refFollows_runs (x := Rf.start r) hp5 st5 (by simp [Rf.start, Out.none])) fun v6 w6 h6 => ?_
      obtain ⟨rfl, h6⟩ := h6
      ((repeat apply Exists.intro); refine ⟨rfl, ?_⟩)
      refine ⟨rfl, ?_⟩
      unfold gotAt
      rw [if_pos h']
      exact h6
    · have h' : ¬ r.term < m.term := by have := of_decide_eq_false h; omega
      refine ⟨rfl, ?_⟩
      unfold gotAt
      rw [if_neg h']
      exact ⟨H5, M5, o5, hp5, Mp.le.refl _, Adv.refl _ _, st5⟩
  rintro vs w7 ⟨rfl, H7, M7, o7, hp7, hle7, ha7, st7⟩
  ((repeat apply Exists.intro); refine ⟨rfl, ?_⟩)
  have g7 := hle7 _ _ g2
  have hm7 := hm0.mono (hle.trans hle7)
  have rv7 := rv5.step ha7
  have hl7 := hle.trans hle7
  have ex : (gotAt r m).r.id = r.id ∧ (gotAt r m).r.n = r.n ∧ (gotAt r m).r.snap = r.snap ∧ (gotAt r m).r.commit = r.commit := by
    unfold gotAt; split <;> exact ⟨rfl, rfl, rfl, rfl⟩
  obtain ⟨x1, x2, x3, x4⟩ := ex
  have hcc : (gotAt r m).r.snap.idx ≤ (gotAt r m).r.commit := by rw [x3, x4]; exact may.c0
  have hcand : (gotAt r m).r.role = 1 → ((gotAt r m).r.votes.length : Int) = (gotAt r m).r.n := by
    unfold gotAt
    split
    · intro h; exact absurd (show (0 : Int) = 1 from h) (by omega)
    · exact may.cand
  have hlead : (gotAt r m).r.role = 2 → Lr (gotAt r m).r ∧ ∀ i : Int, 0 ≤ i → i < (gotAt r m).r.n → 1 ≤ nth (gotAt r m).r.next i ∧ nth (gotAt r m).r.next i ≤ lastI (gotAt r m).r + 1 ∧ nth (gotAt r m).r.mat i < nth (gotAt r m).r.next i := by
    unfold gotAt
    split
    · intro h; exact absurd (show (0 : Int) = 2 from h) (by omega)
    · intro h
      have h2 : r.role = 2 := h
      have hl := may.lead h2
      refine ⟨hl, fun i h0 h1 => ?_⟩
      have h1' : i < r.n := h1
      have hl1 := hl.next
      have := may.ahead h2 i.toNat (by omega)
      rw [Int.toNat_of_nonneg h0] at this
      exact this
  refine ⟨fun vs w' => vs = [] ∧ Dd w0 H7 M7 s o7 (if m.kind = 1 then (gotAt r m).asked m else if m.kind = 2 then (gotAt r m).voted m else if m.kind = 3 then (gotAt r m).appends m else if m.kind = 5 then (gotAt r m).snaps m else (gotAt r m).done m) w', ?_, ?_⟩
  · (refine wp_load (hp7.loadH g7 (by simp)) ?_; (repeat apply Exists.intro); refine ⟨rfl, ?_⟩)
    refine wp_bif (fun h => ?_) fun h => ?_
    · have e : m.kind = 1 := by simpa using h
      (refine wp_load (hp7.loadH g7 (by simp)) ?_; (repeat apply Exists.intro); refine ⟨rfl, ?_⟩)
      refine wp_call (refAsked_runs hp7 st7 hm7 hbG (by omega) q1) fun v8 w8 h8 => ?_
      obtain ⟨rfl, h8⟩ := h8
      ((repeat apply Exists.intro); refine ⟨rfl, ?_⟩)
      refine ⟨rfl, ?_⟩
      rw [if_pos e]; exact h8
    have e1 : ¬ m.kind = 1 := by simpa using h
    refine wp_bif (fun h => ?_) fun h => ?_
    · have e : m.kind = 2 := by simpa using h
      (refine wp_load (hp7.loadH g7 (by simp)) ?_; (repeat apply Exists.intro); refine ⟨rfl, ?_⟩)
      refine wp_call (refVoted_runs hp7 st7 hm7 hbG (by omega) (by rw [x1]; exact may.id1) (by rw [x1, x2]; exact may.idn) hcand q1 (by rw [x2]; exact q2) hcc) fun v8 w8 h8 => ?_
      obtain ⟨rfl, h8⟩ := h8
      ((repeat apply Exists.intro); refine ⟨rfl, ?_⟩)
      refine ⟨rfl, ?_⟩
      rw [if_neg e1, if_pos e]; exact h8
    have e2 : ¬ m.kind = 2 := by simpa using h
    refine wp_bif (fun h => ?_) fun h => ?_
    · have e : m.kind = 3 := by simpa using h
      (refine wp_load (hp7.loadH g7 (by simp)) ?_; (repeat apply Exists.intro); refine ⟨rfl, ?_⟩)
      refine wp_call (refAppends_runs hp7 st7 hm7 hbG (by omega) lm) fun v8 w8 h8 => ?_
      obtain ⟨rfl, h8⟩ := h8
      ((repeat apply Exists.intro); refine ⟨rfl, ?_⟩)
      refine ⟨rfl, ?_⟩
      rw [if_neg e1, if_neg e2, if_pos e]; exact h8
    have e3 : ¬ m.kind = 3 := by simpa using h
    refine wp_bif (fun h => ?_) fun h => ?_
    · have e : m.kind = 4 := by simpa using h
      (refine wp_load (hp7.loadH g7 (by simp)) ?_; (repeat apply Exists.intro); refine ⟨rfl, ?_⟩)
      refine wp_call (refDone_runs hp7 st7 hm7 hbG (by omega) lm hlead q1 (by rw [x2]; exact q2) hcc) fun v8 w8 h8 => ?_
      obtain ⟨rfl, h8⟩ := h8
      ((repeat apply Exists.intro); refine ⟨rfl, ?_⟩)
      refine ⟨rfl, ?_⟩
      rw [if_neg e1, if_neg e2, if_neg e3, if_neg (by omega)]; exact h8
    have e4 : ¬ m.kind = 4 := by simpa using h
    refine wp_bif (fun h => ?_) fun h => ?_
    · have e : m.kind = 5 := by simpa using h
      (refine wp_load (hp7.loadH g7 (by simp)) ?_; (repeat apply Exists.intro); refine ⟨rfl, ?_⟩)
      refine wp_call (refSnaps_runs hp7 st7 hm7 hbG (by omega) lm hcc) fun v8 w8 h8 => ?_
      obtain ⟨rfl, h8⟩ := h8
      ((repeat apply Exists.intro); refine ⟨rfl, ?_⟩)
      refine ⟨rfl, ?_⟩
      rw [if_neg e1, if_neg e2, if_neg e3, if_pos e]; exact h8
    · have e5 : ¬ m.kind = 5 := by simpa using h
      omega
  rintro vs w9 ⟨rfl, H9, M9, o9, hp9, hle9, ha9, st9⟩
  ((repeat apply Exists.intro); refine ⟨rfl, ?_⟩)
  exact tail2_wp hp9 (hl7.trans hle9) st9 (rv7.step ha9)
end
end Go.Proofs.Ytnbfffmdplcajaa
