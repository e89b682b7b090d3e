/- Contracts of the document's answer: New, Last, TermAt, Same; and what may be. -/
import Derived.Test.YtnbfffmdplcajaaBegun
namespace Go.Proofs.Ytnbfffmdplcajaa
open Go.Vc Go.Vc.Rf

section
variable {w0 w : World} {H M U : Mp}

theorem sameNums_runs {aa ba : Option Addr} {an ac bn bc : Nat} {l : List Int} (hp : Hp w0 w H M) (ha : Sl H Nu aa an ac l) (hb : Sl H Nu ba bn bc l) (hl : l.length ≤ 4398046511104) :
    Runs Try.prog 51 [.slice aa an ac, .slice ba bn bc] w fun v w' => v = .bool true ∧ Hp w0 w' H M := by
  have hn := ha.1
  have hm := hb.1
  apply r51
  refine wp_bif (fun h => ?_) fun _ => ?_
  · rw [hn, hm] at h; simp at h
  refine ⟨fun vs w' => ∃ k : Nat, vs = [.int .i64 k] ∧ k ≤ l.length ∧ Hp w0 w' H M, fun vs _ => match vs with | [.int _ q] => l.length - q.toNat | _ => 0, ⟨0, rfl, Nat.zero_le _, hp⟩, ?_⟩
  rintro vs w1 ⟨k, rfl, hk, hp1⟩
  ((repeat apply Exists.intro); refine ⟨rfl, ?_⟩)
  refine wp_bif (fun h => ?_) fun h => ?_
  · have hkl : k < l.length := by simp at h; omega
    have hpd := hp1.drew
    refine wp_idx Nu.len (by omega) hpd hpd.le_uni ha 0 1 (by omega) (by omega) (by omega) fun cs hcs => ?_
    cases hcs
    ((repeat apply Exists.intro); refine ⟨rfl, ?_⟩)
    refine wp_idx Nu.len (by omega) hpd hpd.le_uni hb 0 1 (by omega) (by omega) (by omega) fun cs hcs => ?_
    cases hcs
    ((repeat apply Exists.intro); refine ⟨rfl, ?_⟩)
    have ewrap : IntKind.i64.wrap ((k : Int) + 1) = ((k + 1 : Nat) : Int) := by rw [wrap_i64 (by omega) (by omega)]; rfl
    refine wp_bif (fun h2 => ?_) fun _ => ?_
    · simp at h2
    · refine ⟨⟨k + 1, by rw [ewrap], hkl, hpd⟩, ?_⟩
      show l.length - (IntKind.i64.wrap ((k : Int) + 1)).toNat < l.length - (k : Int).toNat
      rw [ewrap]; omega
  · exact ⟨rfl, hp1⟩

theorem sameReads_runs {aa ba : Option Addr} {an ac bn bc : Nat} {l : List Rd} (hp : Hp w0 w H M) (ha : Sl H Re aa an ac l) (hb : Sl H Re ba bn bc l) (hl : l.length ≤ 4398046511104) :
    Runs Try.prog 52 [.slice aa an ac, .slice ba bn bc] w fun v w' => v = .bool true ∧ Hp w0 w' H M := by
  have hn := ha.1
  have hm := hb.1
  apply r52
  refine wp_bif (fun h => ?_) fun _ => ?_
  · rw [hn, hm] at h; simp at h
  refine ⟨fun vs w' => ∃ k : Nat, vs = [.int .i64 k] ∧ k ≤ l.length ∧ Hp w0 w' H M, fun vs _ => match vs with | [.int _ q] => l.length - q.toNat | _ => 0, ⟨0, rfl, Nat.zero_le _, hp⟩, ?_⟩
  rintro vs w1 ⟨k, rfl, hk, hp1⟩
  ((repeat apply Exists.intro); refine ⟨rfl, ?_⟩)
  refine wp_bif (fun h => ?_) fun h => ?_
  · have hkl : k < l.length := by simp at h; omega
    have hpd := hp1.drew
    refine wp_idx Re.len (by omega) hpd hpd.le_uni ha ⟨0, 0, 0⟩ 3 (by omega) (by omega) (by omega) fun cs hcs => ?_
    cases hcs
    ((repeat apply Exists.intro); refine ⟨rfl, ?_⟩)
    refine wp_idx Re.len (by omega) hpd hpd.le_uni hb ⟨0, 0, 0⟩ 3 (by omega) (by omega) (by omega) fun cs hcs => ?_
    cases hcs
    ((repeat apply Exists.intro); refine ⟨rfl, ?_⟩)
    have ewrap : IntKind.i64.wrap ((k : Int) + 1) = ((k + 1 : Nat) : Int) := by rw [wrap_i64 (by omega) (by omega)]; rfl
    refine wp_bif (fun h2 => ?_) fun _ => ?_
    · simp at h2
    · refine ⟨⟨k + 1, by rw [ewrap], hkl, hpd⟩, ?_⟩
      show l.length - (IntKind.i64.wrap ((k : Int) + 1)).toNat < l.length - (k : Int).toNat
      rw [ewrap]; omega
  · exact ⟨rfl, hp1⟩

/-- Two of the same data are told to be the same. -/
theorem same_runs {r : Raft} {cs ds : List Value} (hp : Hp w0 w H M) (ha : Ra H cs r) (hb : Ra H ds r) (hc : Cpy r) :
    Runs Try.prog 29 [.agg cs.toArray, .agg ds.toArray] w fun v w' => v = .bool true ∧ Hp w0 w' H M := by
  obtain ⟨ss, ls, vs, ns, ms, ak, rs, rfl, ha⟩ := ha
  obtain ⟨st, lt, vt, nt, mt, at_, rt, rfl, hb⟩ := hb
  have na := ha.votes.1
  have nb := hb.votes.1
  apply r29
  refine wp_newH hp fun p1 w1 H1 hp1 hl1 f1 => wp_newH hp1 fun p2 w2 H2 hp2 hl2 f2 => ?_
  replace f1 := hl2 _ _ f1
  have hle := hl1.trans hl2
  replace ha := ha.mono hle
  replace hb := hb.mono hle
  (refine wp_load (hp2.loadH f1 (by simp)) ?_; (repeat apply Exists.intro); refine ⟨rfl, ?_⟩)
  (refine wp_load (hp2.loadH f2 (by simp)) ?_; (repeat apply Exists.intro); refine ⟨rfl, ?_⟩)
  refine wp_bif (fun _ => ?_) fun h => (by simp at h)
  (refine wp_load (hp2.loadH f1 (by simp)) ?_; (repeat apply Exists.intro); refine ⟨rfl, ?_⟩)
  (refine wp_load (hp2.loadH f2 (by simp)) ?_; (repeat apply Exists.intro); refine ⟨rfl, ?_⟩)
  refine wp_bif (fun _ => ?_) fun h => (by simp at h)
  (refine wp_load (hp2.loadH f1 (by simp)) ?_; (repeat apply Exists.intro); refine ⟨rfl, ?_⟩)
  (refine wp_load (hp2.loadH f2 (by simp)) ?_; (repeat apply Exists.intro); refine ⟨rfl, ?_⟩)
  refine wp_bif (fun _ => ?_) fun h => (by simp at h)
  (refine wp_load (hp2.loadH f1 (by simp)) ?_; (repeat apply Exists.intro); refine ⟨rfl, ?_⟩)
  (refine wp_load (hp2.loadH f2 (by simp)) ?_; (repeat apply Exists.intro); refine ⟨rfl, ?_⟩)
  refine wp_call (sameSnap (s := r.snap) (t := r.snap) hp2 ha.state hb.state) fun v3 w3 h3 => ?_
  obtain ⟨b3, rfl, i3, hp3⟩ := h3
  ((repeat apply Exists.intro); refine ⟨rfl, ?_⟩)
  refine wp_bif (fun _ => ?_) fun h => (by rw [h] at i3; simp at i3)
  (refine wp_load (hp3.loadH f1 (by simp)) ?_; (repeat apply Exists.intro); refine ⟨rfl, ?_⟩)
  (refine wp_load (hp3.loadH f2 (by simp)) ?_; (repeat apply Exists.intro); refine ⟨rfl, ?_⟩)
  refine wp_call (sameEntries hp3 ha.log hb.log hc.log) fun v4 w4 h4 => ?_
  obtain ⟨b4, rfl, i4, hp4⟩ := h4
  ((repeat apply Exists.intro); refine ⟨rfl, ?_⟩)
  refine wp_bif (fun _ => ?_) fun h => (by rw [h] at i4; simp at i4)
  (refine wp_load (hp4.loadH f1 (by simp)) ?_; (repeat apply Exists.intro); refine ⟨rfl, ?_⟩)
  (refine wp_load (hp4.loadH f2 (by simp)) ?_; (repeat apply Exists.intro); refine ⟨rfl, ?_⟩)
  refine wp_bif (fun _ => ?_) fun h => (by simp at h)
  (refine wp_load (hp4.loadH f1 (by simp)) ?_; (repeat apply Exists.intro); refine ⟨rfl, ?_⟩)
  (refine wp_load (hp4.loadH f2 (by simp)) ?_; (repeat apply Exists.intro); refine ⟨rfl, ?_⟩)
  refine wp_bif (fun _ => ?_) fun h => (by simp at h)
  (refine wp_load (hp4.loadH f1 (by simp)) ?_; (repeat apply Exists.intro); refine ⟨rfl, ?_⟩)
  (refine wp_load (hp4.loadH f2 (by simp)) ?_; (repeat apply Exists.intro); refine ⟨rfl, ?_⟩)
  refine wp_bif (fun _ => ?_) fun h => (by simp at h)
  (refine wp_load (hp4.loadH f1 (by simp)) ?_; (repeat apply Exists.intro); refine ⟨rfl, ?_⟩)
  (refine wp_load (hp4.loadH f2 (by simp)) ?_; (repeat apply Exists.intro); refine ⟨rfl, ?_⟩)
  refine wp_bif (fun h => (by simp at h)) fun _ => ?_
  (refine wp_load (hp4.loadH f1 (by simp)) ?_; (repeat apply Exists.intro); refine ⟨rfl, ?_⟩)
  (refine wp_load (hp4.loadH f2 (by simp)) ?_; (repeat apply Exists.intro); refine ⟨rfl, ?_⟩)
  refine wp_bif (fun h => (by rw [na, nb] at h; simp at h)) fun _ => ?_
  (refine wp_load (hp4.loadH f1 (by simp)) ?_; (repeat apply Exists.intro); refine ⟨rfl, ?_⟩)
  (refine wp_load (hp4.loadH f2 (by simp)) ?_; (repeat apply Exists.intro); refine ⟨rfl, ?_⟩)
  refine wp_call (sameNums_runs hp4 ha.next hb.next hc.next) fun v5 w5 h5 => ?_
  obtain ⟨rfl, hp5⟩ := h5
  ((repeat apply Exists.intro); refine ⟨rfl, ?_⟩)
  refine wp_bif (fun h => (by simp at h)) fun _ => ?_
  (refine wp_load (hp5.loadH f1 (by simp)) ?_; (repeat apply Exists.intro); refine ⟨rfl, ?_⟩)
  (refine wp_load (hp5.loadH f2 (by simp)) ?_; (repeat apply Exists.intro); refine ⟨rfl, ?_⟩)
  refine wp_call (sameNums_runs hp5 ha.mat hb.mat hc.mat) fun v6 w6 h6 => ?_
  obtain ⟨rfl, hp6⟩ := h6
  ((repeat apply Exists.intro); refine ⟨rfl, ?_⟩)
  refine wp_bif (fun h => (by simp at h)) fun _ => ?_
  (refine wp_load (hp6.loadH f1 (by simp)) ?_; (repeat apply Exists.intro); refine ⟨rfl, ?_⟩)
  (refine wp_load (hp6.loadH f2 (by simp)) ?_; (repeat apply Exists.intro); refine ⟨rfl, ?_⟩)
  refine wp_call (sameNums_runs hp6 ha.acks hb.acks hc.acks) fun v7 w7 h7 => ?_
  obtain ⟨rfl, hp7⟩ := h7
  ((repeat apply Exists.intro); refine ⟨rfl, ?_⟩)
  refine wp_bif (fun h => (by simp at h)) fun _ => ?_
  (refine wp_load (hp7.loadH f1 (by simp)) ?_; (repeat apply Exists.intro); refine ⟨rfl, ?_⟩)
  (refine wp_load (hp7.loadH f2 (by simp)) ?_; (repeat apply Exists.intro); refine ⟨rfl, ?_⟩)
  refine wp_call (sameReads_runs hp7 ha.reads hb.reads hc.reads) fun v8 w8 h8 => ?_
  obtain ⟨rfl, hp8⟩ := h8
  ((repeat apply Exists.intro); refine ⟨rfl, ?_⟩)
  refine wp_bif (fun h => (by simp at h)) fun _ => ?_
  have hvl := hc.votes
  refine ⟨fun vs w' => ∃ k : Nat, vs = [.int .i64 k] ∧ k ≤ r.votes.length ∧ Hp w0 w' H2 M, fun vs _ => match vs with | [.int _ q] => r.votes.length - q.toNat | _ => 0, ⟨0, rfl, Nat.zero_le _, hp8⟩, ?_⟩
  rintro vs w9 ⟨k, rfl, hk, hp9⟩
  ((repeat apply Exists.intro); refine ⟨rfl, ?_⟩)
  (refine wp_load (hp9.loadH f1 (by simp)) ?_; (repeat apply Exists.intro); refine ⟨rfl, ?_⟩)
  refine wp_bif (fun h => ?_) fun h => ?_
  · have hkl : k < r.votes.length := by simp at h; omega
    have hpd := hp9.drew
    (refine wp_load (hpd.loadH f1 (by simp)) ?_; (repeat apply Exists.intro); refine ⟨rfl, ?_⟩)
    refine wp_idx Bo.len (by omega) hpd hpd.le_uni ha.votes false 1 (by omega) (by omega) (by omega) fun cs hcs => ?_
    cases hcs
    ((repeat apply Exists.intro); refine ⟨rfl, ?_⟩)
    (refine wp_load (hpd.loadH f2 (by simp)) ?_; (repeat apply Exists.intro); refine ⟨rfl, ?_⟩)
    refine wp_idx Bo.len (by omega) hpd hpd.le_uni hb.votes false 1 (by omega) (by omega) (by omega) fun cs hcs => ?_
    cases hcs
    ((repeat apply Exists.intro); refine ⟨rfl, ?_⟩)
    have ewrap : IntKind.i64.wrap ((k : Int) + 1) = ((k + 1 : Nat) : Int) := by rw [wrap_i64 (by omega) (by omega)]; rfl
    refine wp_bif (fun h2 => ?_) fun _ => ?_
    · simp at h2
    · refine ⟨⟨k + 1, by rw [ewrap], hkl, hpd⟩, ?_⟩
      show r.votes.length - (IntKind.i64.wrap ((k : Int) + 1)).toNat < r.votes.length - (k : Int).toNat
      rw [ewrap]; omega
  · exact ⟨rfl, hp9.lessH hle⟩

theorem refLast_runs {r : Raft} {cs : List Value} (hp : Hp w0 w H M) (hU : U.le (uni H M)) (hr : Ra U cs r) (h0 : U64 r.snap.idx) (hlen : r.log.length ≤ 4398046511104) :
    Runs Try.prog 26 [.agg cs.toArray] w fun v w' => v = .tuple #[.int .u64 (IntKind.u64.wrap (lastI r)), .int .u64 (lastT r)] ∧ Hp w0 w' H M := by
  obtain ⟨ss, ls, vs, ns, ms, ak, rs, rfl, hr⟩ := hr
  have hn := hr.log.1
  obtain ⟨h00, h01⟩ := h0
  apply r26
  refine wp_newH hp fun p1 w1 H1 hp1 hl1 f1 => ?_
  (refine wp_load (hp1.loadH f1 (by simp)) ?_; (repeat apply Exists.intro); refine ⟨rfl, ?_⟩)
  refine wp_bif (fun hc => ?_) fun hc => ?_
  · have hz : r.log = [] := List.eq_nil_of_length_eq_zero (by simp at hc; omega)
    have hpd := hp1.drew
    (refine wp_load (hpd.loadH f1 (by simp)) ?_; (repeat apply Exists.intro); refine ⟨rfl, ?_⟩)
    (refine wp_load (hpd.loadH f1 (by simp)) ?_; (repeat apply Exists.intro); refine ⟨rfl, ?_⟩)
    refine ⟨?_, hpd.lessH hl1⟩
    have : lastI r = r.snap.idx := by simp [lastI, hz]
    rw [this, wrap_u64 h00 h01]
    simp [lastT, hz]
  · have hpos : 0 < r.log.length := by
      rcases Nat.eq_zero_or_pos r.log.length with e | e
      · rw [hn, e] at hc; simp at hc
      · exact e
    have hpd := hp1.drew
    (refine wp_load (hpd.loadH f1 (by simp)) ?_; (repeat apply Exists.intro); refine ⟨rfl, ?_⟩)
    (refine wp_load (hpd.loadH f1 (by simp)) ?_; (repeat apply Exists.intro); refine ⟨rfl, ?_⟩)
    (refine wp_load (hpd.loadH f1 (by simp)) ?_; (repeat apply Exists.intro); refine ⟨rfl, ?_⟩)
    (refine wp_load (hpd.loadH f1 (by simp)) ?_; (repeat apply Exists.intro); refine ⟨rfl, ?_⟩)
    have e1 : IntKind.i64.wrap ((ls.n : Int) - 1) = ((r.log.length - 1 : Nat) : Int) := by rw [wrap_i64 (by omega) (by omega)]; omega
    rw [e1]
    refine wp_idx En.len (by omega) hpd (hU.trans (uni_mono hl1)) hr.log Ent.none 1 (by omega) (by omega) (by omega) fun cs hcs => ?_
    obtain ⟨ea, en, ec, rfl, _⟩ := hcs
    ((repeat apply Exists.intro); refine ⟨rfl, ?_⟩)
    refine ⟨?_, hpd.lessH hl1⟩
    rw [wrap_u64 (x := (ls.n : Int)) (by omega) (by omega), hn]
    have e2 : lastT r = (r.log.getD (r.log.length - 1) Ent.none).term := by
      unfold lastT
      rw [getLast_get (List.getElem?_eq_getElem (show r.log.length - 1 < r.log.length by omega)), List.getD_eq_getElem?_getD, List.getElem?_eq_getElem (show r.log.length - 1 < r.log.length by omega)]
      rfl
    rw [e2]
    rfl

theorem refTermAt_runs {r : Raft} {cs : List Value} {i : Int} (hp : Hp w0 w H M) (hU : U.le (uni H M)) (hr : Ra U cs r) (h0 : 0 ≤ r.snap.idx) (h1 : lastI r ≤ 9000000000000000000) (hi : U64 i) :
    Runs Try.prog 28 [.agg cs.toArray, .int .u64 i] w fun v w' => v = .tuple #[.int .u64 (termAt r i).1, .bool (termAt r i).2] ∧ Hp w0 w' H M := by
  obtain ⟨ss, ls, vs, ns, ms, ak, rs, rfl, hr⟩ := hr
  have hn := hr.log.1
  obtain ⟨hi0, hi1⟩ := hi
  have h1' := h1
  unfold lastI at h1
  apply r28
  refine wp_newH hp fun p1 w1 H1 hp1 hl1 f1 => ?_
  have hp0 := hp1.lessH hl1
  (refine wp_load (hp1.loadH f1 (by simp)) ?_; (repeat apply Exists.intro); refine ⟨rfl, ?_⟩)
  refine wp_bif (fun hc => ?_) fun hc => ?_
  · (refine wp_load (hp1.loadH f1 (by simp)) ?_; (repeat apply Exists.intro); refine ⟨rfl, ?_⟩)
    have e : i = r.snap.idx := by simpa using hc
    refine ⟨?_, hp0⟩
    unfold termAt
    rw [if_pos e]
  have e : ¬ i = r.snap.idx := by simpa using hc
  (refine wp_load (hp1.loadH f1 (by simp)) ?_; (repeat apply Exists.intro); refine ⟨rfl, ?_⟩)
  refine wp_bif (fun hc2 => ?_) fun hc2 => ?_
  · refine ⟨?_, hp0⟩
    unfold termAt
    rw [if_neg e, if_pos (.inl (by simpa using hc2))]
  have e2 : ¬ i < r.snap.idx := by simpa using hc2
  (refine wp_load (hp1.loadH f1 (by simp)) ?_; (repeat apply Exists.intro); refine ⟨rfl, ?_⟩)
  (refine wp_load (hp1.loadH f1 (by simp)) ?_; (repeat apply Exists.intro); refine ⟨rfl, ?_⟩)
  rw [wrap_u64 (x := i - r.snap.idx) (by omega) (by omega), wrap_u64 (x := (ls.n : Int)) (by omega) (by omega)]
  refine wp_bif (fun hc3 => ?_) fun hc3 => ?_
  · refine ⟨?_, hp0⟩
    have h3 : i - r.snap.idx > (ls.n : Int) := of_decide_eq_true hc3
    unfold termAt
    rw [if_neg e, if_pos (.inr (by unfold lastI; omega))]
  have e3 : ¬ i - r.snap.idx > (ls.n : Int) := of_decide_eq_false hc3
  (refine wp_load (hp1.loadH f1 (by simp)) ?_; (repeat apply Exists.intro); refine ⟨rfl, ?_⟩)
  (refine wp_load (hp1.loadH f1 (by simp)) ?_; (repeat apply Exists.intro); refine ⟨rfl, ?_⟩)
  rw [wrap_u64 (x := i - r.snap.idx) (by omega) (by omega), wrap_u64 (x := i - r.snap.idx - 1) (by omega) (by omega)]
  refine wp_idx En.len (by omega) hp1 (hU.trans (uni_mono hl1)) hr.log Ent.none 1 (by omega) (by omega) (by omega) fun cs hcs => ?_
  obtain ⟨ea, en, ec, rfl, _⟩ := hcs
  ((repeat apply Exists.intro); refine ⟨rfl, ?_⟩)
  refine ⟨?_, hp0⟩
  unfold termAt
  rw [if_neg e, if_neg (by unfold lastI; omega)]

theorem refNew_runs {id n : Int} {kp : Kept} {cs : List Value} (hp : Hp w0 w H M) (hk : Kp H cs kp) (hl : kp.entries.length ≤ 4398046511104) :
    Runs Try.prog 24 [.int .i64 id, .int .i64 n, .agg cs.toArray] w fun v w' => ∃ cs' H', v = .agg cs'.toArray ∧ Ra H' cs' (newR id n kp) ∧ Hp w0 w' H' M ∧ H.le H' := by
  obtain ⟨ss, es, rfl, hs, he⟩ := hk
  obtain ⟨hn1, hc1, cells, hsl, hll⟩ := he
  have hcl := LL.length En.len hll
  apply r24
  refine wp_newH hp fun p1 w1 H1 hp1 hle1 f1 => ?_
  refine wp_new hp1 fun p2 w2 hp2 hM2 hH2 => ?_
  have hpd := hp2.drew
  (refine wp_load (hpd.loadH f1 (by simp)) ?_; (repeat apply Exists.intro); refine ⟨rfl, ?_⟩)
  (refine wp_load (hpd.loadH f1 (by simp)) ?_; (repeat apply Exists.intro); refine ⟨rfl, ?_⟩)
  (refine wp_load (hpd.loadH f1 (by simp)) ?_; (repeat apply Exists.intro); refine ⟨rfl, ?_⟩)
  (refine wp_load (hpd.loadH f1 (by simp)) ?_; (repeat apply Exists.intro); refine ⟨rfl, ?_⟩)
  refine wp_new hpd fun p3 w3 hp3 hM3 hH3 => ?_
  refine wp_append hp3 (own_fresh _ 2 p3) rfl ((hsl.mono hle1).read hp3 (by rw [hcl, hn1])) (by rw [hcl, hn1]) (one_of En.one hll) (by omega) (by show (0 + es.n) * 32 ≤ _; omega) fun s' M' o' w' hp' ho' hn' ha => ?_
  have ha := Adv.of_put hM3 ha
  refine ⟨fun h hh => ?_, ?_⟩
  · simp only [List.mem_cons, List.not_mem_nil, or_false] at hh
    rcases hh with rfl | rfl | rfl <;> exact hp'.loadH f1 (by simp)
  have k2 := (ha.keep p2 (by simp) (by simp)).trans (Mp.put_same _ _ _)
  refine wp_store hp' k2 (by simp) (by simp [Value.oneCell']) fun w5 hp5 => ?_
  rw [splice_all (by simp)] at hp5
  (refine wp_load (hp5.loadM (Mp.put_same _ _ _) (by simp)) ?_; (repeat apply Exists.intro); refine ⟨rfl, ?_⟩)
  have n2 : p2 ∉ o' := fun h => by
    rcases ha.fresh p2 h with e | e
    · cases e
    · simp at e
  have ho5 := fun cs => ho'.frame (M' := M'.put p2 cs) fun b hb => Mp.put_other fun e => n2 (e ▸ hb)
  have ha5 : ∀ cs, Adv M [] (M'.put p2 cs) o' := fun cs => ⟨fun b hb _ => by
      have e : b ≠ p2 := fun e => hb (by rw [e]; exact hM2)
      rw [Mp.put_other e, ha.keep b (by rw [Mp.put_other e]; exact hb) (by simp), Mp.put_other e], fun b hb => by
      right
      have e : b ≠ p2 := fun e => n2 (e ▸ hb)
      rcases ha.fresh b hb with h | h
      · cases h
      · rwa [Mp.put_other e] at h⟩
  have hle := hle1.trans (hp5.froz_le o')
  refine ⟨_, _, rfl, ⟨ss, s', ⟨none, 0, 0⟩, ⟨none, 0, 0⟩, ⟨none, 0, 0⟩, ⟨none, 0, 0⟩, ⟨none, 0, 0⟩, rfl, hs.mono hle, ?_, Sl.nil _ _, Sl.nil _ _, Sl.nil _ _, Sl.nil _ _, Sl.nil _ _⟩, hp5.give (ha5 _), hle⟩
  exact own_sl En.len (by omega) (ho5 []) ((ho5 _).froz fun _ h => h) (hll.mono (En.mono hle))
end
end Go.Proofs.Ytnbfffmdplcajaa
