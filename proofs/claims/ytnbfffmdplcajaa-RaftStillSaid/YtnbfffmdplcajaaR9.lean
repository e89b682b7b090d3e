/- Contracts: New, Timeout, Beat, Propose, Ask. -/
import Derived.Test.YtnbfffmdplcajaaR8
import Derived.Test.YtnbfffmdplcajaaTreeB
namespace Go.Proofs.Ytnbfffmdplcajaa
open Go.Vc Go.Vc.Rf

theorem zeros_one (z : Value) (n : Nat) : zeros [z] n = (List.replicate n z).toArray := by
  apply Array.ext
  · simp [zeros, Builtin.zeroCells]
  · intro i h1 h2
    simp [zeros, Builtin.zeroCells]
    rw [Nat.mod_one]
    rfl

section
variable {w0 w : World} {H M U : Mp} {s : Nat} {o : List Nat} {x : Sp} {k : Nat}

theorem wp_make1 {P : Program} {R : Value → World → Prop} {env : Nat → List Value → World → Prop} (hp : Hp w0 w H M) {e : TypeId} {bts : Nat} {z : Value} {n : Int} (h0 : 0 ≤ n) (h1 : (bts : Int) * n ≤ 2 ^ 48) (h2 : n ≤ 9223372036854775807) {k : Nat → VC}
    (hk : ∀ b w', Hp w0 w' H (M.put b (List.replicate n.toNat z)) → M b = none → (k b).wp P R env w') : (VC.make e bts [z] n k).wp P R env w := by
  refine ⟨h0, h1, h2, ?_⟩
  rw [zeros_one]
  exact hk _ _ (hp.alloc _ e) hp.fresh.2

theorem wp_setL {P : Program} {R : Value → World → Prop} {env : Nat → List Value → World → Prop} (i : Nat) (hi : i < 9) (hw : wd i = 1) (hp : Hp w0 w H M) {cs : List Value} {g : Gs} (low : Low M s cs g) {α : Type} {p : List Value → α → Prop} {l : List α} (hl : LL p (g i).cells l) (hk : ∀ c x, p c x → c.length = 1)
    {j : Int} (h0 : 0 ≤ j) (h1 : j < l.length) {v : Value} {y : α} (hv : p [v] y) (h1c : v.oneCell' = true) {k : VC}
    (hK : ∀ w' M' cells', Hp w0 w' H M' → Low M' s cs (g.upd i ⟨(g i).sl, cells', (g i).o⟩) → LL p cells' (l.set j.toNat y) → Adv M (g.own s) M' ((g.upd i ⟨(g i).sl, cells', (g i).o⟩).own s) → k.wp P R env w') :
    (VC.some (g i).sl.a fun x => .need ((0 : Int) ≤ j ∧ j < ((g i).sl.n : Int)) <| .store (x.add (j.toNat * 1)) [v] k).wp P R env w := by
  have hn := low.n hi (fun c x h => (hk c x h).trans hw.symm) (by omega) hl
  have hcl := LL.length hk hl
  obtain ⟨b, hb⟩ := (low.own i hi).isSome (by omega)
  refine ⟨_, hb, ⟨h0, by omega⟩, ?_⟩
  simp only [add_mk, Nat.zero_add]
  refine wp_ownstore hp (low.own i hi) hb (by simp) (by simp; omega) (by simpa using h1c) fun w' M' hp' ho' ha' => ?_
  exact hK w' M' _ hp' (low.turn (c := ⟨(g i).sl, _, (g i).o⟩) hi ho' ha') (LL.set hk j.toNat hl (by omega) hv) (adv_own (c := ⟨(g i).sl, _, (g i).o⟩) hi ha')

/-- What a raft handed in must be, to be stepped: bounds. -/
structure Fit (r : Raft) : Prop where
  bd : Bd 100 (Rf.start r)
  cpy : Cpy r

theorem mayR_id {r : Raft} (h : mayR r = true) : 1 ≤ r.id ∧ r.id ≤ r.n ∧ r.n ≤ 7 := by
  simp only [mayR, Bool.and_eq_true, decide_eq_true_eq] at h
  exact ⟨h.1.1.1, h.1.1.2, h.1.2⟩
theorem mayR_lr {r : Raft} (h : mayR r = true) (h2 : r.role = 2) : Lr r := by
  simp only [mayR, h2, if_true, Bool.and_eq_true, decide_eq_true_eq] at h
  exact ⟨h.2.1.1, h.2.1.2, h.2.2⟩
theorem mayR_votes {r : Raft} (h : mayR r = true) (h2 : r.role = 1) : (r.votes.length : Int) = r.n := by
  have : ¬ r.role = 2 := by omega
  simp only [mayR, Bool.and_eq_true] at h
  have h3 := h.2
  rw [if_neg this, if_pos h2] at h3
  simpa using h3

theorem foldl_sends_r : ∀ (l : List Int) (x : Sp), (l.foldl Sp.sends x).r = x.r
  | [], _ => rfl
  | t :: l, x => (foldl_sends_r l (x.sends t)).trans sends_r
theorem calls_r : x.calls.r = { x.r with round := x.r.round + 1, reads := x.r.reads.filter fun y => !readOk { x.r with round := x.r.round + 1 } y } := by
  have h : ((others x.r).foldl Sp.sends (x.round (x.r.round + 1))).r = { x.r with round := x.r.round + 1 } := foldl_sends_r _ _
  unfold Sp.calls Sp.answers
  rw [h]
theorem leads_role : x.leads.r.role = 2 := by
  unfold Sp.leads
  rw [calls_r]
  rfl
theorem elects_role (h : x.elects.r.role ≠ 2) : x.elects = x := by
  unfold Sp.elects at *
  split
  · rename_i h2
    rw [if_pos h2] at h
    exact absurd leads_role h
  · rfl

/-- Asking one after the other. -/
theorem askFold (r : Raft) : ∀ (l : List Int) (x : Sp), (l.foldl (fun x to => x.send (askMsg r to)) x).r = x.r ∧ (l.foldl (fun x to => x.send (askMsg r to)) x).q.send.length = x.q.send.length + l.length
  | [], x => ⟨rfl, rfl⟩
  | t :: l, x => by
    have := askFold r l (x.send (askMsg r t))
    refine ⟨this.1, ?_⟩
    rw [List.foldl_cons, this.2]
    simp [Sp.send]; omega

theorem new_runs {id n : Int} {kp : Kept} {cs : List Value} (hp : Hp w0 w H M) (hk : Kp H cs kp) (hl : kp.entries.length ≤ 4398046511104) :
    Runs Try.prog 23 [.int .i64 id, .int .i64 n, .agg cs.toArray] w fun v w' => ∃ cs' H', v = .agg cs'.toArray ∧ Ra H' cs' (newR id n kp) ∧ Hp w0 w' H' M ∧ H.le H' := by
  obtain ⟨ss, es, rfl, hs, he⟩ := hk
  apply r23
  refine wp_newH hp fun p1 w1 H1 hp1 hle1 f1 => ?_
  refine wp_new hp1 fun p2 w2 hp2 hM2 hH2 => ?_
  (refine wp_load (hp2.loadH f1 (by simp)) ?_; (repeat apply Exists.intro); refine ⟨rfl, ?_⟩)
  (refine wp_load (hp2.loadH f1 (by simp)) ?_; (repeat apply Exists.intro); refine ⟨rfl, ?_⟩)
  (refine wp_load (hp2.loadH f1 (by simp)) ?_; (repeat apply Exists.intro); refine ⟨rfl, ?_⟩)
  (refine wp_load (hp2.loadH f1 (by simp)) ?_; (repeat apply Exists.intro); refine ⟨rfl, ?_⟩)
  have hra : Ra H1 (cells17 (newR id n kp) ss es ⟨none, 0, 0⟩ ⟨none, 0, 0⟩ ⟨none, 0, 0⟩ ⟨none, 0, 0⟩ ⟨none, 0, 0⟩) (newR id n kp) :=
    ⟨_, _, _, _, _, _, _, rfl, hs.mono hle1, he.mono hle1 (En.mono hle1), Sl.nil _ _, Sl.nil _ _, Sl.nil _ _, Sl.nil _ _, Sl.nil _ _⟩
  refine wp_call ((copied_runs hp2 hra ⟨hl, by simp [newR, Raft.none], by simp [newR, Raft.none], by simp [newR, Raft.none], by simp [newR, Raft.none], by simp [newR, Raft.none]⟩).mono fun v w' h => h.give) fun v3 w3 h3 => ?_
  obtain ⟨cs3, H3, rfl, hr3, hp3, hle3⟩ := h3
  obtain ⟨s0, s1, s2, s3, s4, s5, s6, rfl, hr3⟩ := hr3
  ((repeat apply Exists.intro); refine ⟨rfl, ?_⟩)
  refine wp_store1 hp3 (by simp) (by simp [Value.oneCell']) fun w4 hp4 => ?_
  rw [splice_all (by simp)] at hp4
  (refine wp_load (hp4.loadM (Mp.put_same _ _ _) (by simp)) ?_; (repeat apply Exists.intro); refine ⟨rfl, ?_⟩)
  refine ⟨_, H3, rfl, ⟨_, _, _, _, _, _, _, rfl, hr3⟩, hp4.less fun b cs hb => ?_, hle1.trans hle3⟩
  have e1 : b ≠ p2 := fun e => by rw [e, hM2] at hb; cases hb
  rw [Mp.put_other e1]; exact hb

theorem beat_runs {r : Raft} {cs : List Value} (hp : Hp w0 w H M) (hr : Ra H cs r) (hf : Fit r) : Runs Try.prog 41 [.agg cs.toArray] w (Top w0 H M (beat r)) := by
  have hr0 := hr
  obtain ⟨ss, ls, vs, ns, ms, ak, rs, rfl, hr⟩ := hr
  apply r41
  refine wp_newH hp fun p1 w1 H1 hp1 hle1 f1 => ?_
  refine wp_new hp1 fun p2 w2 hp2 hM2 _ => wp_new hp2 fun p3 w3 hp3 hM3 _ => ?_
  have rv0 := Rv.start (zb := [.slice none 0 0, .slice none 0 0, .slice none 0 0]) hM2 hM3 rfl rfl
  (refine wp_load (hp3.loadH f1 (by simp)) ?_; (repeat apply Exists.intro); refine ⟨rfl, ?_⟩)
  refine wp_call (begin_runs hp3 (hr0.mono hle1) hf.cpy) fun v4 w4 h4 => ?_
  obtain ⟨s, rfl, H4, M4, o4, hp4, hle4, ha4, st4⟩ := h4
  ((repeat apply Exists.intro); refine ⟨rfl, ?_⟩)
  have rv4 := rv0.step ha4
  have hle := hle1.trans hle4
  obtain ⟨sx, gx, ex, lowx, semx⟩ := st4.ex
  (refine wp_load (hp4.loadM lowx.var (by simp [cells20])) ?_; (repeat apply Exists.intro); refine ⟨rfl, ?_⟩)
  refine wp_bif (fun h => ?_) fun h => ?_
  · have hrole : r.role = 2 := by simpa using h
    (refine wp_load (hp4.loadH (hle4 _ _ f1) (by simp)) ?_; (repeat apply Exists.intro); refine ⟨rfl, ?_⟩)
    refine wp_call (may_runs hp4 (hr0.mono hle)) fun v5 w5 h5 => ?_
    obtain ⟨rfl, hp5⟩ := h5
    ((repeat apply Exists.intro); refine ⟨rfl, ?_⟩)
    refine wp_bif (fun h6 => ?_) fun h6 => ?_
    · refine wp_call (calls_runs (x := Rf.start r) hp5 st4 hf.bd (by omega) (mayR_lr h6 hrole)) fun v7 w7 h7 => ?_
      obtain ⟨rfl, H7, M7, o7, hp7, hle7, ha7, st7⟩ := h7
      ((repeat apply Exists.intro); refine ⟨rfl, ?_⟩)
      have e : beat r = (Rf.start r).calls := by unfold beat; rw [if_pos ⟨hrole, h6⟩]
      rw [e]
      exact tail_wp hp7 (hle.trans hle7) st7 (rv4.step ha7)
    · have e : beat r = Rf.start r := by unfold beat; rw [if_neg fun hh => by rw [hh.2] at h6; cases h6]
      rw [e]
      exact tail_wp (x := Rf.start r) hp5 hle st4 rv4
  · have hrole : ¬ r.role = 2 := by simpa using h
    have e : beat r = Rf.start r := by unfold beat; rw [if_neg fun hh => hrole hh.1]
    rw [e]
    exact tail_wp (x := Rf.start r) hp4 hle st4 rv4

theorem propose_runs {r : Raft} {cs : List Value} {a : Option Addr} {n c : Nat} {d : List UInt8} (hp : Hp w0 w H M) (hr : Ra H cs r) (hf : Fit r) (hd : Bs H a n c d) :
    Runs Try.prog 33 [.agg cs.toArray, .slice a n c] w (Top3 w0 H M (propose r d).1 (propose r d).2) := by
  have hr0 := hr
  obtain ⟨ss, ls, vs, ns, ms, ak, rs, rfl, hr⟩ := hr
  apply r33
  refine wp_newH hp fun p1 w1 H1 hp1 hle1 f1 => ?_
  refine wp_new hp1 fun p2 w2 hp2 hM2 _ => wp_new hp2 fun p3 w3 hp3 hM3 _ => ?_
  have rv0 := Rv.start (zb := [.slice none 0 0, .slice none 0 0, .slice none 0 0]) hM2 hM3 rfl rfl
  (refine wp_load (hp3.loadH f1 (by simp)) ?_; (repeat apply Exists.intro); refine ⟨rfl, ?_⟩)
  refine wp_call (begin_runs hp3 (hr0.mono hle1) hf.cpy) fun v4 w4 h4 => ?_
  obtain ⟨s, rfl, H4, M4, o4, hp4, hle4, ha4, st4⟩ := h4
  ((repeat apply Exists.intro); refine ⟨rfl, ?_⟩)
  have rv4 := rv0.step ha4
  have hle := hle1.trans hle4
  obtain ⟨sx, gx, ex, lowx, semx⟩ := st4.ex
  (refine wp_load (hp4.loadM lowx.var (by simp [cells20])) ?_; (repeat apply Exists.intro); refine ⟨rfl, ?_⟩)
  refine wp_bif (fun h => ?_) fun h => ?_
  · have hrole : ¬ r.role = 2 := by simpa using h
    have e : propose r d = (⟨Raft.none, Out.none⟩, false) := by unfold propose; rw [if_neg fun hh => hrole hh.1]
    rw [e]
    exact no_wp hp4 hle rv4
  · have hrole : r.role = 2 := by simpa using h
    (refine wp_load (hp4.loadH (hle4 _ _ f1) (by simp)) ?_; (repeat apply Exists.intro); refine ⟨rfl, ?_⟩)
    refine wp_call (may_runs hp4 (hr0.mono hle)) fun v5 w5 h5 => ?_
    obtain ⟨rfl, hp5⟩ := h5
    ((repeat apply Exists.intro); refine ⟨rfl, ?_⟩)
    refine wp_bif (fun h6 => ?_) fun h6 => ?_
    · have h6' : mayR r = false := by simpa using h6
      have e : propose r d = (⟨Raft.none, Out.none⟩, false) := by unfold propose; rw [if_neg fun hh => by rw [hh.2] at h6'; cases h6']
      rw [e]
      exact no_wp hp5 hle rv4
    · have h6' : mayR r = true := by simpa using h6
      have hlr := mayR_lr h6' hrole
      refine wp_call (put_runs (x := Rf.start r) hp5 st4 (hd.mono hle) hf.bd (by omega)) fun v7 w7 h7 => ?_
      obtain ⟨rfl, H7, M7, o7, hp7, hle7, ha7, st7⟩ := h7
      ((repeat apply Exists.intro); refine ⟨rfl, ?_⟩)
      refine wp_call (counts_runs hp7 st7 hf.bd.put (by omega) hlr.mat) fun v8 w8 h8 => ?_
      obtain ⟨rfl, H8, M8, o8, hp8, hle8, ha8, st8⟩ := h8
      ((repeat apply Exists.intro); refine ⟨rfl, ?_⟩)
      refine wp_call (calls_runs hp8 st8 hf.bd.put.counts (by omega) ⟨hlr.next, hlr.mat, hlr.acks⟩) fun v9 w9 h9 => ?_
      obtain ⟨rfl, H9, M9, o9, hp9, hle9, ha9, st9⟩ := h9
      ((repeat apply Exists.intro); refine ⟨rfl, ?_⟩)
      have e : propose r d = (((Rf.start r).put d).counts.calls, true) := by unfold propose; rw [if_pos ⟨hrole, h6'⟩]
      rw [e]
      exact tail3_wp hp9 (((hle.trans hle7).trans hle8).trans hle9) st9 (((rv4.step ha7).step ha8).step ha9)

theorem ask_runs {r : Raft} {cs : List Value} {id : Int} (hp : Hp w0 w H M) (hr : Ra H cs r) (hf : Fit r) :
    Runs Try.prog 34 [.agg cs.toArray, .int .u64 id] w (Top3 w0 H M (Rf.ask r id).1 (Rf.ask r id).2) := by
  have hr0 := hr
  obtain ⟨ss, ls, vs, ns, ms, ak, rs, rfl, hr⟩ := hr
  have hla := hf.bd.last
  change lastI r ≤ _ at hla
  apply r34
  refine wp_newH hp fun p1 w1 H1 hp1 hle1 f1 => ?_
  refine wp_new hp1 fun p2 w2 hp2 hM2 _ => wp_new hp2 fun p3 w3 hp3 hM3 _ => ?_
  have rv0 := Rv.start (zb := [.slice none 0 0, .slice none 0 0, .slice none 0 0]) hM2 hM3 rfl rfl
  (refine wp_load (hp3.loadH f1 (by simp)) ?_; (repeat apply Exists.intro); refine ⟨rfl, ?_⟩)
  refine wp_call (begin_runs hp3 (hr0.mono hle1) hf.cpy) fun v4 w4 h4 => ?_
  obtain ⟨s, rfl, H4, M4, o4, hp4, hle4, ha4, st4⟩ := h4
  ((repeat apply Exists.intro); refine ⟨rfl, ?_⟩)
  have rv4 := rv0.step ha4
  have hle := hle1.trans hle4
  obtain ⟨sx, gx, ex, lowx, semx⟩ := st4.ex
  subst ex
  have hp5 := hp4.drew
  (refine wp_load (hp5.loadM lowx.var (by simp [cells20])) ?_; (repeat apply Exists.intro); refine ⟨rfl, ?_⟩)
  (refine wp_load (hp5.loadM lowx.var (by simp [cells20])) ?_; (repeat apply Exists.intro); refine ⟨rfl, ?_⟩)
  refine wp_call (termAt_runs (i := r.commit) hp5 (Mp.le.refl _) ⟨_, _, _, _, _, _, _, rfl, Low.ra hp5 lowx semx⟩ hf.bd.idx (by omega)) fun v6 w6 h6 => ?_
  obtain ⟨rfl, hp6⟩ := h6
  ((repeat apply Exists.intro); refine ⟨rfl, ?_⟩)
  (refine wp_load (hp6.loadM lowx.var (by simp [cells20])) ?_; (repeat apply Exists.intro); refine ⟨rfl, ?_⟩)
  have no : ∀ (w' : World), Hp w0 w' H4 M4 → ¬ (r.role = 2 ∧ mayR r = true ∧ (termAt r r.commit).2 = true ∧ (termAt r r.commit).1 = r.term) → (noV p2 p3).wp Try.prog (Top3 w0 H M (Rf.ask r id).1 (Rf.ask r id).2) (fun _ _ _ => False) w' := fun w' hp' hn => by
    have e : Rf.ask r id = (⟨Raft.none, Out.none⟩, false) := by unfold Rf.ask; rw [if_neg hn]
    rw [e]
    exact no_wp hp' hle rv4
  refine wp_bif (fun h => ?_) fun h => ?_
  · exact no _ hp6 fun hh => by rw [hh.1] at h; simp at h
  have hrole : r.role = 2 := by simpa using h
  (refine wp_load (hp6.loadH (hle4 _ _ f1) (by simp)) ?_; (repeat apply Exists.intro); refine ⟨rfl, ?_⟩)
  refine wp_call (may_runs hp6 (hr0.mono hle)) fun v7 w7 h7 => ?_
  obtain ⟨rfl, hp7⟩ := h7
  ((repeat apply Exists.intro); refine ⟨rfl, ?_⟩)
  refine wp_bif (fun h => ?_) fun h => ?_
  · exact no _ hp7 fun hh => by rw [hh.2.1] at h; simp at h
  have hmay : mayR r = true := by simpa using h
  refine wp_bif (fun h => ?_) fun h => ?_
  · exact no _ hp7 fun hh => by rw [hh.2.2.1] at h; simp at h
  have his : (termAt r r.commit).2 = true := by simpa using h
  (refine wp_load (hp7.loadM lowx.var (by simp [cells20])) ?_; (repeat apply Exists.intro); refine ⟨rfl, ?_⟩)
  refine wp_bif (fun h => ?_) fun h => ?_
  · exact no _ hp7 fun hh => by rw [hh.2.2.2] at h; simp at h
  have hte : (termAt r r.commit).1 = r.term := by simpa using h
  have hlr := mayR_lr hmay hrole
  have hro := hf.bd.round
  have hro0 := hf.bd.round0
  change r.round ≤ _ at hro
  change 0 ≤ r.round at hro0
  have hrd := hf.bd.reads
  change r.reads.length ≤ _ at hrd
  have hp8 := hp7.drew
  (refine wp_load (hp8.loadM lowx.var (by simp [cells20])) ?_; (repeat apply Exists.intro); refine ⟨rfl, ?_⟩)
  (refine wp_load (hp8.loadM lowx.var (by simp [cells20])) ?_; (repeat apply Exists.intro); refine ⟨rfl, ?_⟩)
  (refine wp_load (hp8.loadM lowx.var (by simp [cells20])) ?_; (repeat apply Exists.intro); refine ⟨rfl, ?_⟩)
  refine wp_newH hp8 fun p9 w9 H9 hp9 hle9 f9 => ?_
  have hcur := lowx.n (i := 5) (by omega) Re.len (by decide) semx.reads
  refine wp_appendL 5 (by omega) hp9 lowx rfl (hp9.read1 f9 rfl) rfl (by simp [Value.oneCell']) (by omega) (by omega) fun s' M' o' w' hp' low' hn' ha => ?_
  refine wp_storeL hp' low' (by simp [cells20]) (by simp [Value.oneCell']) fun w10 M10 hp10 low10 a10 => ?_
  have e1 : IntKind.u64.wrap (r.round + 1) = r.round + 1 := wrap_u64 (by omega) (by omega)
  have sm := semx.mono hle9
  have st10 : St H9 M10 s _ { r with reads := r.reads ++ [⟨id, r.commit, r.round + 1⟩] } Out.none := St.of (ss := sx) low10 rfl ⟨sm.state, sm.log, sm.votes, sm.next, sm.mat, sm.acks, sm.reads.append (LL.one (by rw [e1]; rfl)), sm.save, sm.send, sm.ready⟩
  have hb := hf.bd
  have hb' : Bd 101 (Rf.start { r with reads := r.reads ++ [⟨id, r.commit, r.round + 1⟩] }) := by
    have h' := hb.mono (show 100 ≤ 101 by omega)
    refine ⟨h'.idx, h'.last, h'.term0, h'.term, h'.round0, h'.round, h'.mat, h'.next, h'.log, ?_, h'.n, h'.save, h'.send, h'.ready⟩
    simp [Rf.start]; omega
  refine wp_call (calls_runs (x := Rf.start { r with reads := r.reads ++ [⟨id, r.commit, r.round + 1⟩] }) hp10 st10 hb' (by omega) ⟨hlr.next, hlr.mat, hlr.acks⟩) fun v11 w11 h11 => ?_
  obtain ⟨rfl, H11, M11, o11, hp11, hle11, ha11, st11⟩ := h11
  ((repeat apply Exists.intro); refine ⟨rfl, ?_⟩)
  have e : Rf.ask r id = ((Rf.start { r with reads := r.reads ++ [⟨id, r.commit, r.round + 1⟩] }).calls, true) := by unfold Rf.ask; rw [if_pos ⟨hrole, hmay, his, hte⟩]
  rw [e]
  exact tail3_wp hp11 ((hle.trans hle9).trans hle11) st11 ((rv4.step (ha.trans a10)).step ha11)

theorem timeout_runs {r : Raft} {cs : List Value} (hp : Hp w0 w H M) (hr : Ra H cs r) (hf : Fit r) : Runs Try.prog 32 [.agg cs.toArray] w (Top w0 H M (timeout r)) := by
  have hr0 := hr
  obtain ⟨ss, ls, vs, ns, ms, ak, rs, rfl, hr⟩ := hr
  have hla := hf.bd.last
  change lastI r ≤ _ at hla
  have ht0 := hf.bd.term0
  change 0 ≤ r.term at ht0
  have ht1 := hf.bd.term
  change r.term ≤ _ at ht1
  apply r32
  refine wp_newH hp fun p1 w1 H1 hp1 hle1 f1 => ?_
  refine wp_new hp1 fun p2 w2 hp2 hM2 _ => wp_new hp2 fun p3 w3 hp3 hM3 _ => ?_
  have rv0 := Rv.start (zb := [.slice none 0 0, .slice none 0 0, .slice none 0 0]) hM2 hM3 rfl rfl
  (refine wp_load (hp3.loadH f1 (by simp)) ?_; (repeat apply Exists.intro); refine ⟨rfl, ?_⟩)
  refine wp_call (begin_runs hp3 (hr0.mono hle1) hf.cpy) fun v4 w4 h4 => ?_
  obtain ⟨s, rfl, H4, M4, o4, hp4, hle4, ha4, st4⟩ := h4
  ((repeat apply Exists.intro); refine ⟨rfl, ?_⟩)
  have rv4 := rv0.step ha4
  have hle := hle1.trans hle4
  obtain ⟨sx, gx, ex, lowx, semx⟩ := id st4.ex
  subst ex
  (refine wp_load (hp4.loadM lowx.var (by simp [cells20])) ?_; (repeat apply Exists.intro); refine ⟨rfl, ?_⟩)
  refine wp_bif (fun h => ?_) fun h => ?_
  · have hrole : r.role = 2 := by simpa using h
    have e : timeout r = Rf.start r := by unfold timeout; rw [if_pos (.inl hrole)]
    rw [e]
    exact tail_wp (x := Rf.start r) hp4 hle st4 rv4
  have hrole : ¬ r.role = 2 := by simpa using h
  (refine wp_load (hp4.loadH (hle4 _ _ f1) (by simp)) ?_; (repeat apply Exists.intro); refine ⟨rfl, ?_⟩)
  refine wp_call (may_runs hp4 (hr0.mono hle)) fun v5 w5 h5 => ?_
  obtain ⟨rfl, hp5⟩ := h5
  ((repeat apply Exists.intro); refine ⟨rfl, ?_⟩)
  refine wp_bif (fun h6 => ?_) fun h6 => ?_
  · have h6' : mayR r = false := by simpa using h6
    have e : timeout r = Rf.start r := by unfold timeout; rw [if_pos (.inr h6')]
    rw [e]
    exact tail_wp (x := Rf.start r) hp5 hle st4 rv4
  have hmay : mayR r = true := by simpa using h6
  have e0 : timeout r = (let s := (Rf.start (stands r)).hard.elects; if s.r.role = 2 then s else (others s.r).foldl (fun x to => x.send (askMsg s.r to)) s) := by
    unfold timeout; rw [if_neg fun hh => hh.elim hrole fun h => by rw [h] at hmay; cases hmay]
  obtain ⟨i1, i2, i3⟩ := mayR_id hmay
  have hp6 := hp5.drew
  (refine wp_load (hp6.loadM lowx.var (by simp [cells20])) ?_; (repeat apply Exists.intro); refine ⟨rfl, ?_⟩)
  (refine wp_load (hp6.loadM lowx.var (by simp [cells20])) ?_; (repeat apply Exists.intro); refine ⟨rfl, ?_⟩)
  have et : IntKind.u64.wrap (r.term + 1) = r.term + 1 := wrap_u64 (by omega) (by omega)
  rw [et]
  refine wp_storeL hp6 lowx (by simp [cells20]) (by simp [Value.oneCell']) fun w7 M7 hp7 low7 a7 => ?_
  refine wp_storeL hp7 low7 (by simp [cells20, splice]) (by simp [Value.oneCell']) fun w8 M8 hp8 low8 a8 => ?_
  refine wp_storeL hp8 low8 (by simp [cells20, splice]) (by simp [Value.oneCell']) fun w9 M9 hp9 low9 a9 => ?_
  have st9 : St H4 M9 s _ ({ r with term := r.term + 1, vote := r.id, role := 1, lead := 0 } : Raft) Out.none := St.of (ss := sx) low9 rfl ⟨semx.state, semx.log, semx.votes, semx.next, semx.mat, semx.acks, semx.reads, semx.save, semx.send, semx.ready⟩
  refine wp_call (bare_runs (x := ⟨{ r with term := r.term + 1, vote := r.id, role := 1, lead := 0 }, Out.none⟩) hp9 st9) fun v10 w10 h10 => ?_
  obtain ⟨rfl, H10, M10, o10, hp10, hle10, ha10, st10⟩ := h10
  ((repeat apply Exists.intro); refine ⟨rfl, ?_⟩)
  have rv10 := (rv4.step ((a7.trans a8).trans a9)).step ha10
  obtain ⟨sy, gy, rfl, lowy, semy⟩ := id st10.ex
  (refine wp_load (hp10.loadM lowy.var (by simp [cells20])) ?_; (repeat apply Exists.intro); refine ⟨rfl, ?_⟩)
  refine ⟨rfl, ?_⟩
  change VC.wp _ _ (VC.make 4 1 [.bool false] r.n _) _ _
  refine wp_make1 hp10 (by omega) (by omega) (by omega) fun p w11 hp11 hM11 => ?_
  have np := lowy.notin hM11
  have low11 := (lowy.putNew (cs' := List.replicate r.n.toNat (.bool false)) hM11).set (i := 1) (c := ⟨⟨some ⟨p, 0, none⟩, r.n.toNat, r.n.toNat⟩, List.replicate r.n.toNat (.bool false), [p]⟩) (by omega)
    ⟨by simp [wd], .inr ⟨p, _, rfl, rfl, Mp.put_same _ _ _, by simp [wd], Nat.le_refl _, by simp [wd]⟩⟩ (fun b hb => by
      simp only [List.mem_singleton] at hb; subst hb; exact np)
  have a11 : Adv M10 (gy.own s) (M10.put p (List.replicate r.n.toNat (.bool false))) ((gy.upd 1 ⟨⟨some ⟨p, 0, none⟩, r.n.toNat, r.n.toNat⟩, List.replicate r.n.toNat (.bool false), [p]⟩).own s) := by
    refine ⟨fun b hb _ => Mp.put_other fun e => hb (by rw [e]; exact hM11), fun b hb => ?_⟩
    rcases List.mem_append.1 (Gs.own_upd b hb) with h | h
    · exact .inl h
    · simp only [List.mem_singleton] at h; subst h; exact .inr hM11
  refine wp_storeL hp11 low11 (by simp [cells20]) (by simp [Value.oneCell']) fun w12 M12 hp12 low12 a12 => ?_
  have hp13 := hp12.drew
  (refine wp_load (hp13.loadM low12.var (by simp [cells20, splice])) ?_; (repeat apply Exists.intro); refine ⟨rfl, ?_⟩)
  (refine wp_load (hp13.loadM low12.var (by simp [cells20, splice])) ?_; (repeat apply Exists.intro); refine ⟨rfl, ?_⟩)
  have ei : IntKind.i64.wrap (r.id - 1) = r.id - 1 := wrap_i64 (by omega) (by omega)
  change VC.wp _ _ (VC.some _ fun x => .need ((0 : Int) ≤ IntKind.i64.wrap (r.id - 1) ∧ IntKind.i64.wrap (r.id - 1) < _) <| .store (x.add ((IntKind.i64.wrap (r.id - 1)).toNat * 1)) [.bool true] _) _ _
  rw [ei]
  have lrep : ∀ n : Nat, LL Bo (List.replicate n (.bool false)) (List.replicate n false) := fun n => by
    induction n with
    | zero => rfl
    | succ n ih => exact ⟨[.bool false], _, rfl, rfl, ih⟩
  refine wp_setL 1 (by omega) rfl hp13 low12 (p := Bo) (l := List.replicate r.n.toNat false) (lrep _) Bo.len (by omega) (by simp; omega) (y := true) rfl rfl fun w14 M14 cells14 hp14 low14 hl14 a14 => ?_
  have st14 : St H10 M14 s _ (Rf.start (stands r)).r (Rf.start (stands r)).q := St.of (ss := sy) low14 rfl ⟨semy.state, semy.log, hl14, semy.next, semy.mat, semy.acks, semy.reads, semy.save, semy.send, semy.ready⟩
  have rv14 := ((rv10.step a11).step a12).step a14
  have hb := hf.bd
  have hb' : Bd 101 (Rf.start (stands r)) := by
    have h' := hb.mono (show 100 ≤ 101 by omega)
    exact ⟨h'.idx, h'.last, by simp [Rf.start, stands, bare]; omega, by simp [Rf.start, stands, bare]; omega, h'.round0, h'.round, by simp [Rf.start, stands, bare], by simp [Rf.start, stands, bare], h'.log, by simp [Rf.start, stands, bare], h'.n, h'.save, h'.send, h'.ready⟩
  refine wp_call (hard_runs hp14 st14 (by have := hb'.save; omega)) fun v15 w15 h15 => ?_
  obtain ⟨rfl, H15, M15, o15, hp15, hle15, ha15, st15⟩ := h15
  ((repeat apply Exists.intro); refine ⟨rfl, ?_⟩)
  have hvl : ((Rf.start (stands r)).hard.r.votes.length : Int) = (Rf.start (stands r)).hard.r.n := by
    simp [Sp.hard, Sp.save, Rf.start, stands, bare]; omega
  refine wp_call (elects_runs hp15 st15 hb'.hard (by omega) hvl i1 i2) fun v16 w16 h16 => ?_
  obtain ⟨rfl, H16, M16, o16, hp16, hle16, ha16, st16⟩ := h16
  ((repeat apply Exists.intro); refine ⟨rfl, ?_⟩)
  have rv16 := (rv14.step ha15).step ha16
  have hl16 := ((hle.trans hle10).trans hle15).trans hle16
  obtain ⟨sz, gz, rfl, lowz, semz⟩ := id st16.ex
  (refine wp_load (hp16.loadM lowz.var (by simp [cells20])) ?_; (repeat apply Exists.intro); refine ⟨rfl, ?_⟩)
  refine wp_bif (fun h => ?_) fun h => ?_
  rotate_left
  · have hrl : (Rf.start (stands r)).hard.elects.r.role = 2 := by simpa using h
    have e : timeout r = (Rf.start (stands r)).hard.elects := by rw [e0]; exact if_pos hrl
    rw [e]
    exact tail_wp hp16 hl16 st16 rv16
  have hrl : ¬ (Rf.start (stands r)).hard.elects.r.role = 2 := by simpa using h
  have e : timeout r = (others (Rf.start (stands r)).hard.elects.r).foldl (fun x to => x.send (askMsg (Rf.start (stands r)).hard.elects.r to)) (Rf.start (stands r)).hard.elects := by rw [e0]; exact if_neg hrl
  rw [e]
  have ee := elects_role hrl
  generalize (Rf.start (stands r)).hard.elects = y at *
  subst ee
  have hby := hb'.hard
  have hyl := hby.last
  have hys := hby.send
  have hyn := hby.n
  (refine wp_load (hp16.loadM lowz.var (by simp [cells20])) ?_; (repeat apply Exists.intro); refine ⟨rfl, ?_⟩)
  refine wp_call (last_runs hp16 (Mp.le.refl _) ⟨_, _, _, _, _, _, _, rfl, Low.ra hp16 lowz semz⟩ hby.idx (by omega)) fun v17 w17 h17 => ?_
  obtain ⟨rfl, hp17⟩ := h17
  ((repeat apply Exists.intro); refine ⟨rfl, ?_⟩)
  refine wp_call (others_runs hp17 st16 hyn) fun v18 w18 h18 => ?_
  obtain ⟨a, n, c, H18, rfl, hp18, hle18, hl18⟩ := h18
  ((repeat apply Exists.intro); refine ⟨rfl, ?_⟩)
  have h7 := others_len hyn
  have hln := hl18.1
  generalize hy : (Rf.start (stands r)).hard = y at *
  refine ⟨fun vs w' => ∃ j : Nat, vs = [.int .i64 j] ∧ j ≤ (others y.r).length ∧ Dd w0 H18 M16 s (gz.own s) (((others y.r).take j).foldl (fun x to => x.send (askMsg y.r to)) y) w',
    fun vs _ => match vs with | [.int _ q] => 9 - q.toNat | _ => 0, ⟨0, rfl, Nat.zero_le _, H18, M16, _, hp18, Mp.le.refl _, Adv.refl _ _, st16.mono hle18⟩, ?_⟩
  rintro vs w19 ⟨j, rfl, hj, H19, M19, o19, hp19, hle19, ha19, st19⟩
  obtain ⟨er, es⟩ := askFold y.r ((others y.r).take j) y
  have hll : ((others y.r).take j).length ≤ 7 := by rw [List.length_take]; exact Nat.le_trans (Nat.min_le_right _ _) h7
  ((repeat apply Exists.intro); refine ⟨rfl, ?_⟩)
  refine wp_bif (fun h => ?_) fun h => ?_
  · have hjl : j < (others y.r).length := by simp at h; omega
    refine wp_idx It.len (by omega) hp19 (Mp.le.refl _) ((hl18.mono hle19 fun _ _ h => h).mono hp19.le_uni fun _ _ h => h) 0 1 (by omega) (by omega) (by omega) fun cs hcs => ?_
    have eg : (others y.r).getD ((j : Int)).toNat 0 = (others y.r)[j] := by
      rw [List.getD_eq_getElem?_getD, Int.toNat_natCast, List.getElem?_eq_getElem hjl]; rfl
    rw [eg] at hcs
    cases hcs
    ((repeat apply Exists.intro); refine ⟨rfl, ?_⟩)
    refine wp_newH hp19 fun p20 w20 H20 hp20 hle20 f20 => ?_
    refine wp_call (send_runs (l := [askMsg y.r (others y.r)[j]]) hp20 (st19.mono hle20) (Sl.one f20 ⟨_, _, _, _, _, _, rfl, Sl.nil _ _, Bs.nil _⟩) (by rw [es]; simp; omega)) fun v21 w21 h21 => ?_
    obtain ⟨rfl, h21⟩ := h21
    ((repeat apply Exists.intro); refine ⟨rfl, ?_⟩)
    have ewrap : IntKind.i64.wrap ((j : Int) + 1) = ((j + 1 : Nat) : Int) := by rw [wrap_i64 (by omega) (by omega)]; rfl
    refine ⟨⟨j + 1, by rw [ewrap], hjl, ?_⟩, ?_⟩
    · rw [List.take_succ_eq_append_getElem hjl, List.foldl_append]
      exact Dd.more (hle19.trans hle20) ha19 h21
    · show 9 - (IntKind.i64.wrap ((j : Int) + 1)).toNat < 9 - (j : Int).toNat
      rw [ewrap]; omega
  · have hje : j = (others y.r).length := by simp at h; omega
    subst hje
    rw [List.take_length] at st19
    exact tail_wp hp19 ((hl16.trans hle18).trans hle19) st19 (rv16.step ha19)
end
end Go.Proofs.Ytnbfffmdplcajaa
