/- Contracts of the document's answer: Beat, Propose, Ask; Compact; Timeout. -/
import Derived.Test.YtnbfffmdplcajaaRfD
import Derived.Test.YtnbfffmdplcajaaTreeRf4
namespace Go.Proofs.Ytnbfffmdplcajaa
open Go.Vc Go.Vc.Rf

theorem MayP.fine {r : Raft} (h : MayP r) (e : r.role = 2) : Ahead r := by
  intro i h0 h1
  have hl := (h.lead e).next
  obtain ⟨a, b, _⟩ := h.ahead e i.toNat (by omega)
  rw [Int.toNat_of_nonneg h0] at a b
  exact ⟨a, b⟩

section
variable {w0 w : World} {H M U : Mp} {s : Nat} {o : List Nat} {x : Sp} {k : Nat}
variable {P : Program} {R : Value → World → Prop}


variable {env : Nat → List Value → World → Prop} {H0 M0 : Mp} {p2 p3 : Nat}
/-- Bytes appended to a new, empty slice: a copy, given up. -/
theorem wp_appB {a : Option Addr} {n c b : Nat} {d : List UInt8} (hp : Hp w0 w H (M.put b [])) (hMb : M b = none) (hd : Bs H a n c d) {K : Option Addr → Nat → Nat → VC}
    (hK : ∀ (a' : Option Addr) (n' c' : Nat) (H' : Mp) (w' : World), Hp w0 w' H' M → H.le H' → Bs H' a' n' c' d → (K a' n' c').wp P R env w') :
    (VC.append 5 1 1 [.int .u8 0] (some ⟨b, 0, none⟩) 0 0 a n K).wp P R env w := by
  obtain ⟨h1, h2, h3, h4⟩ := hd
  have hle : H.le (uni H M) := fun x cs hx => by
    unfold uni
    cases hm : M x with
    | none => exact hx
    | some c =>
      have hxb : x ≠ b := fun e => by rw [e, hMb] at hm; cases hm
      rw [hp.sep x c ((Mp.put_other hxb).trans hm)] at hx; cases hx
  refine wp_appF (kk := 1) (bts := 1) (cells := d.map fun b => .int .u8 b.toNat) hp hMb (h4.mono hle) (by rw [List.length_map, Nat.mul_one, h1]) rfl (fun v hv => by obtain ⟨q, _, rfl⟩ := List.mem_map.1 hv; rfl) (by omega) (by omega) fun s' M' o' w' hp' ho' hn' ha' => ?_
  exact hK _ _ _ _ _ (hp'.give ha') (hp'.froz_le _) ⟨hn'.trans h1, ho'.le, h3, ho'.froz fun _ h => h⟩

theorem refBeat_runs {r : Raft} {cs : List Value} (hp : Hp w0 w H M) (hr : Ra H cs r) (hf : Fit r) (h2 : r.role = 2 → MayP r) : Runs Try.prog 36 [.agg cs.toArray] w (Top w0 H M (beat r)) := by
  have hr0 := hr
  obtain ⟨ss, ls, vs, ns, ms, ak, rs, rfl, hr⟩ := hr
  apply r36
  refine wp_newH hp fun p1 w1 H1 hp1 hle1 f1 => ?_
  refine wp_new hp1 fun p2 w2 hp2 hM2 _ => wp_new hp2 fun p3 w3 hp3 hM3 _ => ?_
  have rv0 := Rv.start (zb := [.slice none 0 0, .slice none 0 0, .slice none 0 0]) hM2 hM3 rfl rfl
  (refine wp_load (hp3.loadH f1 (by simp)) ?_; (repeat apply Exists.intro); refine ⟨rfl, ?_⟩)
  refine wp_call (refOwn_runs hp3 (hr0.mono hle1) hf.cpy) fun v4 w4 h4 => ?_
  obtain ⟨s, rfl, H4, M4, o4, hp4, hle4, ha4, st4⟩ := h4
  ((repeat apply Exists.intro); refine ⟨rfl, ?_⟩)
  have rv4 := rv0.step ha4
  have hle := hle1.trans hle4
  (refine wp_load (hp4.loadH (hle4 _ _ f1) (by simp)) ?_; (repeat apply Exists.intro); refine ⟨rfl, ?_⟩)
  refine wp_bif (fun h => ?_) fun h => ?_
  · have hrole : r.role = 2 := by simpa using h
    have hmay := h2 hrole
    have hlr := hmay.lead hrole
    refine wp_call (refCalls_runs (x := Rf.start r) hp4 st4 hf.bd (by omega) hlr (hmay.fine hrole)) fun v5 w5 h5 => ?_
    obtain ⟨rfl, H5, M5, o5, hp5, hle5, ha5, st5⟩ := h5
    ((repeat apply Exists.intro); refine ⟨rfl, ?_⟩)
    have e : beat r = (Rf.start r).calls := by unfold beat; rw [if_pos ⟨hrole, hmay.may⟩]
    rw [e]
    exact tail2_wp hp5 (hle.trans hle5) st5 (rv4.step ha5)
  · have e : beat r = Rf.start r := by unfold beat; rw [if_neg fun hh => by rw [hh.1] at h; simp at h]
    rw [e]
    exact tail2_wp (x := Rf.start r) hp4 hle st4 rv4

theorem refPropose_runs {r : Raft} {cs : List Value} {a : Option Addr} {n c : Nat} {d : List UInt8} (hp : Hp w0 w H M) (hr : Ra H cs r) (hd : Bs H a n c d) (hf : Fit r) (hm : MayP r) :
    Runs Try.prog 42 [.agg cs.toArray, .slice a n c] w (Top3 w0 H M (propose r d).1 (propose r d).2) := by
  have hr0 := hr
  obtain ⟨ss, ls, vs, ns, ms, ak, rs, rfl, hr⟩ := hr
  apply r42
  refine wp_newH hp fun p1 w1 H1 hp1 hle1 f1 => ?_
  refine wp_new hp1 fun p2 w2 hp2 hM2 _ => wp_new hp2 fun p3 w3 hp3 hM3 _ => ?_
  have rv0 := Rv.start (zb := [.slice none 0 0, .slice none 0 0, .slice none 0 0]) hM2 hM3 rfl rfl
  (refine wp_load (hp3.loadH f1 (by simp)) ?_; (repeat apply Exists.intro); refine ⟨rfl, ?_⟩)
  refine wp_bif (fun h => ?_) fun h => ?_
  · have hrole : ¬ r.role = 2 := by simpa using h
    have e : propose r d = (⟨Raft.none, Out.none⟩, false) := by unfold propose; rw [if_neg fun hh => hrole hh.1]
    rw [e]
    exact no_wp hp3 hle1 rv0
  have hrole : r.role = 2 := by simpa using h
  (refine wp_load (hp3.loadH f1 (by simp)) ?_; (repeat apply Exists.intro); refine ⟨rfl, ?_⟩)
  refine wp_call (refOwn_runs hp3 (hr0.mono hle1) hf.cpy) fun v4 w4 h4 => ?_
  obtain ⟨s, rfl, H4, M4, o4, hp4, hle4, ha4, st4⟩ := h4
  ((repeat apply Exists.intro); refine ⟨rfl, ?_⟩)
  have rv4 := rv0.step ha4
  have hle := hle1.trans hle4
  have hlr := hm.lead hrole
  have hpd := hp4.drew
  (refine wp_load (hpd.loadH (hle4 _ _ f1) (by simp)) ?_; (repeat apply Exists.intro); refine ⟨rfl, ?_⟩)
  refine wp_new hpd fun p5 w5 hp5 hM5 _ => ?_
  refine wp_appB hp5 hM5 (hd.mono hle) fun a6 n6 c6 H6 w6 hp6 hle6 hd6 => ?_
  refine ⟨fun h hh => ?_, ?_⟩
  · simp only [List.mem_singleton] at hh; subst hh; exact hp6.loadH (hle6 _ _ (hle4 _ _ f1)) (by simp)
  refine wp_call (refEntry_runs (x := Rf.start r) (e := ⟨r.term, d⟩) hp6 (st4.mono hle6) hd6 hf.bd (by omega)) fun v7 w7 h7 => ?_
  obtain ⟨rfl, H7, M7, o7, hp7, hle7, ha7, st7⟩ := h7
  ((repeat apply Exists.intro); refine ⟨rfl, ?_⟩)
  change St H7 M7 s o7 ((Rf.start r).put d).r ((Rf.start r).put d).q at st7
  refine wp_call (refCounts_runs hp7 st7 hf.bd.put (by omega) hlr.mat hm.c0) fun v8 w8 h8 => ?_
  obtain ⟨rfl, H8, M8, o8, hp8, hle8, ha8, st8⟩ := h8
  ((repeat apply Exists.intro); refine ⟨rfl, ?_⟩)
  have hah : Ahead ((Rf.start r).put d).counts.r := fun i h0 h1 => by
    obtain ⟨a, b⟩ := hm.fine hrole i h0 h1
    refine ⟨a, ?_⟩
    have : lastI ((Rf.start r).put d).counts.r = lastI r + 1 := by simp [Sp.counts, Sp.commit, Sp.put, Sp.save, Sp.log, lastI, Rf.start]; omega
    show nth r.next i ≤ _
    omega
  refine wp_call (refCalls_runs hp8 st8 hf.bd.put.counts (by omega) ⟨hlr.next, hlr.mat, hlr.acks⟩ hah) fun v9 w9 h9 => ?_
  obtain ⟨rfl, H9, M9, o9, hp9, hle9, ha9, st9⟩ := h9
  ((repeat apply Exists.intro); refine ⟨rfl, ?_⟩)
  have e : propose r d = (((Rf.start r).put d).counts.calls, true) := by unfold propose; rw [if_pos ⟨hrole, hm.may⟩]
  rw [e]
  exact tail3_wp hp9 ((((hle.trans hle6).trans hle7).trans hle8).trans hle9) st9 (((rv4.step ha7).step ha8).step ha9)

theorem refAsk_runs {r : Raft} {cs : List Value} {id : Int} (hp : Hp w0 w H M) (hr : Ra H cs r) (hf : Fit r) (hm : MayP r) :
    Runs Try.prog 43 [.agg cs.toArray, .int .u64 id] w (Top3 w0 H M (Rf.ask r id).1 (Rf.ask r id).2) := by
  have hr0 := hr
  obtain ⟨ss, ls, vs, ns, ms, ak, rs, rfl, hr⟩ := hr
  have hla := hf.bd.last
  change lastI r ≤ _ at hla
  have hc0 := hm.c0
  have hc1 := hm.c1
  have hs0 := hm.s0
  have hs1 := hm.s1
  have hlg := hm.log
  apply r43
  refine wp_newH hp fun p1 w1 H1 hp1 hle1 f1 => ?_
  refine wp_new hp1 fun p2 w2 hp2 hM2 _ => wp_new hp2 fun p3 w3 hp3 hM3 _ => ?_
  have rv0 := Rv.start (zb := [.slice none 0 0, .slice none 0 0, .slice none 0 0]) hM2 hM3 rfl rfl
  (refine wp_load (hp3.loadH f1 (by simp)) ?_; (repeat apply Exists.intro); refine ⟨rfl, ?_⟩)
  (refine wp_load (hp3.loadH f1 (by simp)) ?_; (repeat apply Exists.intro); refine ⟨rfl, ?_⟩)
  refine wp_call (refTermAt_runs (i := r.commit) hp3 hp3.le_uni (hr0.mono hle1) hf.bd.idx (by omega) ⟨by omega, by unfold lastI at hc1; omega⟩) fun v4 w4 h4 => ?_
  obtain ⟨rfl, hp4⟩ := h4
  ((repeat apply Exists.intro); refine ⟨rfl, ?_⟩)
  have no : ∀ (w' : World), Hp w0 w' H1 ((M.put p2 _).put p3 _) → ¬ (r.role = 2 ∧ mayR r = true ∧ (termAt r r.commit).2 = true ∧ (termAt r r.commit).1 = r.term) → (noV p2 p3).wp Try.prog (Top3 w0 H M (Rf.ask r id).1 (Rf.ask r id).2) (fun _ _ _ => False) w' := fun w' hp' hn => by
    have e : Rf.ask r id = (⟨Raft.none, Out.none⟩, false) := by unfold Rf.ask; rw [if_neg hn]
    rw [e]
    exact no_wp hp' hle1 rv0
  (refine wp_load (hp4.loadH f1 (by simp)) ?_; (repeat apply Exists.intro); refine ⟨rfl, ?_⟩)
  refine wp_bif (fun h => ?_) fun h => ?_
  · exact no _ hp4 fun hh => by rw [hh.1] at h; simp at h
  have hrole : r.role = 2 := by simpa using h
  refine wp_bif (fun h => ?_) fun h => ?_
  · exact no _ hp4 fun hh => by rw [hh.2.2.1] at h; simp at h
  have his : (termAt r r.commit).2 = true := by simpa using h
  (refine wp_load (hp4.loadH f1 (by simp)) ?_; (repeat apply Exists.intro); refine ⟨rfl, ?_⟩)
  refine wp_bif (fun h => ?_) fun h => ?_
  · exact no _ hp4 fun hh => by rw [hh.2.2.2] at h; simp at h
  have hte : (termAt r r.commit).1 = r.term := by simpa using h
  have hlr := hm.lead hrole
  have hro := hf.bd.round
  have hro0 := hf.bd.round0
  change r.round ≤ _ at hro
  change 0 ≤ r.round at hro0
  have hrd := hf.bd.reads
  change r.reads.length ≤ _ at hrd
  (refine wp_load (hp4.loadH f1 (by simp)) ?_; (repeat apply Exists.intro); refine ⟨rfl, ?_⟩)
  refine wp_call (refOwn_runs hp4 (hr0.mono hle1) hf.cpy) fun v5 w5 h5 => ?_
  obtain ⟨s, rfl, H5, M5, o5, hp5, hle5, ha5, st5⟩ := h5
  ((repeat apply Exists.intro); refine ⟨rfl, ?_⟩)
  have rv5 := rv0.step ha5
  have hle := hle1.trans hle5
  obtain ⟨sx, gx, rfl, lowx, semx⟩ := st5.ex
  have hp8 := hp5.drew
  (refine wp_load (hp8.loadM lowx.var (by simp [cells20])) ?_; (repeat apply Exists.intro); refine ⟨rfl, ?_⟩)
  (refine wp_load (hp8.loadH (hle5 _ _ f1) (by simp)) ?_; (repeat apply Exists.intro); refine ⟨rfl, ?_⟩)
  (refine wp_load (hp8.loadH (hle5 _ _ f1) (by simp)) ?_; (repeat apply Exists.intro); refine ⟨rfl, ?_⟩)
  refine wp_newH hp8 fun p9 w9 H9 hp9 hle9 f9 => ?_
  have hcur := lowx.n (i := 5) (by omega) Re.len (by decide) semx.reads
  refine wp_appendL 5 (by omega) hp9 lowx rfl (hp9.read1 f9 rfl) rfl (by simp [Value.oneCell']) (by omega) (by omega) fun s' M' o' w' hp' low' hn' ha => ?_
  refine wp_storeL hp' low' (by simp [cells20]) (by simp [Value.oneCell']) fun w10 M10 hp10 low10 a10 => ?_
  have e1 : IntKind.u64.wrap (r.round + 1) = r.round + 1 := wrap_u64 (by omega) (by omega)
  have sm := semx.mono hle9
  have st10 : St H9 M10 s _ { r with reads := r.reads ++ [⟨id, r.commit, r.round + 1⟩] } Out.none := St.of (ss := sx) low10 rfl ⟨sm.state, sm.log, sm.votes, sm.next, sm.mat, sm.acks, sm.reads.append (LL.one (by rw [e1]; rfl)), sm.save, sm.send, sm.ready⟩
  have hb := hf.bd
  have hb' : Bd 101 (Rf.start { r with reads := r.reads ++ [⟨id, r.commit, r.round + 1⟩] }) := by
    have h' := hb.mono (show 100 ≤ 101 by omega)
    refine ⟨h'.idx, h'.last, h'.term0, h'.term, h'.round0, h'.round, h'.mat, h'.next, h'.log, ?_, h'.n, h'.save, h'.send, h'.ready⟩
    simp [Rf.start]; omega
  refine wp_call (refCalls_runs (x := Rf.start { r with reads := r.reads ++ [⟨id, r.commit, r.round + 1⟩] }) hp10 st10 hb' (by omega) ⟨hlr.next, hlr.mat, hlr.acks⟩ (hm.fine hrole)) fun v11 w11 h11 => ?_
  obtain ⟨rfl, H11, M11, o11, hp11, hle11, ha11, st11⟩ := h11
  ((repeat apply Exists.intro); refine ⟨rfl, ?_⟩)
  have e : Rf.ask r id = ((Rf.start { r with reads := r.reads ++ [⟨id, r.commit, r.round + 1⟩] }).calls, true) := by unfold Rf.ask; rw [if_pos ⟨hrole, hm.may, his, hte⟩]
  rw [e]
  exact tail3_wp hp11 ((hle.trans hle9).trans hle11) st11 ((rv5.step (ha.trans a10)).step ha11)
end
end Go.Proofs.Ytnbfffmdplcajaa
namespace Go.Proofs.Ytnbfffmdplcajaa
open Go.Vc Go.Vc.Rf

def votesTo (r : Raft) (j : Nat) : List Bool := (List.range j).map fun i : Nat => (i : Int) + 1 == r.id
theorem votesTo_succ {r : Raft} (j : Nat) : votesTo r (j + 1) = votesTo r j ++ [(j : Int) + 1 == r.id] := by
  unfold votesTo
  rw [List.range_succ, List.map_append]; rfl
theorem votesTo_all {r : Raft} (h1 : 1 ≤ r.id) (_ : r.id ≤ r.n) : votesTo r r.n.toNat = (List.replicate r.n.toNat false).set (r.id - 1).toNat true := by
  refine List.ext_getElem (by simp [votesTo]) fun i hi hj => ?_
  have hi' : i < r.n.toNat := by simpa [votesTo] using hi
  simp only [votesTo, List.getElem_map, List.getElem_range, List.getElem_set, List.getElem_replicate]
  by_cases e : (r.id - 1).toNat = i
  · rw [if_pos e]; simp; omega
  · rw [if_neg e]; simp; omega
theorem stands_most {r : Raft} (h1 : 1 ≤ r.id) (h2 : r.id ≤ r.n) : most (stands r) ((stands r).votes.getD ((stands r).id - 1).toNat false) (fun i => (stands r).votes.getD i.toNat false) = decide (2 * (1 : Int) > r.n) := by
  have e0 : (stands r).votes.getD ((stands r).id - 1).toNat false = true := by
    show ((List.replicate r.n.toNat false).set (r.id - 1).toNat true).getD (r.id - 1).toNat false = true
    rw [List.getD_eq_getElem?_getD, List.getElem?_set_self (by simp; omega)]; rfl
  have e1 : ((others (stands r)).countP fun i => (stands r).votes.getD (i - 1).toNat false) = 0 := by
    rw [List.countP_eq_zero]
    intro i hi
    obtain ⟨a, b, c⟩ := others_mem hi
    show ¬ ((List.replicate r.n.toNat false).set (r.id - 1).toNat true).getD (i - 1).toNat false = true
    have c' : i ≠ r.id := c
    rw [List.getD_eq_getElem?_getD, List.getElem?_set_ne (by omega), List.getElem?_replicate]
    split <;> simp
  unfold most
  rw [e0, e1]
  rfl

section
variable {w0 w : World} {H M U : Mp} {s : Nat} {o : List Nat} {x : Sp} {k : Nat}
variable {P : Program} {R : Value → World → Prop}

theorem Mp.put_swap (M : Mp) {a b : Nat} (h : a ≠ b) (x y : List Value) : (M.put a x).put b y = (M.put b y).put a x := by
  funext z
  by_cases e1 : z = a
  · subst e1; rw [Mp.put_other h, Mp.put_same, Mp.put_same]
  · by_cases e2 : z = b
    · subst e2; rw [Mp.put_same, Mp.put_other e1, Mp.put_same]
    · rw [Mp.put_other e2, Mp.put_other e1, Mp.put_other e1, Mp.put_other e2]

set_option maxHeartbeats 1000000 in
theorem refCompact_runs {r : Raft} {cs : List Value} {a : Option Addr} {n c : Nat} {d : List UInt8} (hp : Hp w0 w H M) (hr : Ra H cs r) (hd : Bs H a n c d) (hf : Fit r) (hm : MayP r) :
    Runs Try.prog 44 [.agg cs.toArray, .slice a n c] w (Top w0 H M (compact r d)) := by
  have hr0 := hr
  obtain ⟨ss, ls, vs, ns, ms, ak, rs, rfl, hr⟩ := hr
  have hla := hf.bd.last
  change lastI r ≤ _ at hla
  have hc0 := hm.c0
  have hc1 := hm.c1
  have hs0 := hm.s0
  have hs1 := hm.s1
  have hlg := hm.log
  apply r44
  refine wp_newH hp fun p1 w1 H1 hp1 hle1 f1 => ?_
  refine wp_new hp1 fun p2 w2 hp2 hM2 _ => wp_new hp2 fun p3 w3 hp3 hM3 _ => ?_
  have rv0 := Rv.start (zb := [.slice none 0 0, .slice none 0 0, .slice none 0 0]) hM2 hM3 rfl rfl
  (refine wp_load (hp3.loadH f1 (by simp)) ?_; (repeat apply Exists.intro); refine ⟨rfl, ?_⟩)
  refine wp_call (refOwn_runs hp3 (hr0.mono hle1) hf.cpy) fun v4 w4 h4 => ?_
  obtain ⟨s, rfl, H4, M4, o4, hp4, hle4, ha4, st4⟩ := h4
  ((repeat apply Exists.intro); refine ⟨rfl, ?_⟩)
  have rv4 := rv0.step ha4
  have hle := hle1.trans hle4
  (refine wp_load (hp4.loadH (hle4 _ _ f1) (by simp)) ?_; (repeat apply Exists.intro); refine ⟨rfl, ?_⟩)
  (refine wp_load (hp4.loadH (hle4 _ _ f1) (by simp)) ?_; (repeat apply Exists.intro); refine ⟨rfl, ?_⟩)
  refine wp_bif (fun h => ?_) fun h => ?_
  · have h' : r.commit ≤ r.snap.idx := of_decide_eq_true h
    have e : compact r d = Rf.start r := by unfold compact; rw [if_neg (by omega)]
    rw [e]
    exact tail2_wp (x := Rf.start r) hp4 hle st4 rv4
  have h' : ¬ r.commit ≤ r.snap.idx := of_decide_eq_false h
  rw [compact_eq (by omega) hc1]
  unfold lastI at hc1
  (refine wp_load (hp4.loadH (hle4 _ _ f1) (by simp)) ?_; (repeat apply Exists.intro); refine ⟨rfl, ?_⟩)
  (refine wp_load (hp4.loadH (hle4 _ _ f1) (by simp)) ?_; (repeat apply Exists.intro); refine ⟨rfl, ?_⟩)
  refine wp_call (refTermAt_runs (i := r.commit) hp4 hp4.le_uni (hr0.mono hle) hf.bd.idx (by omega) ⟨by omega, by omega⟩) fun v5 w5 h5 => ?_
  obtain ⟨rfl, hp5⟩ := h5
  ((repeat apply Exists.intro); refine ⟨rfl, ?_⟩)
  refine ⟨fun vs w' => ∃ (p : Nat) (H' : Mp) (a' : Option Addr) (n' c' : Nat), vs = [.pointer (some ⟨p, 0, none⟩)] ∧ Hp w0 w' H' M4 ∧ H4.le H' ∧ H' p = some [.int .u64 r.commit, .int .u64 (termAt r r.commit).1, .slice a' n' c'] ∧ Bs H' a' n' c' d, ?_, ?_⟩
  · have hp6 := hp5.drew
    (refine wp_load (hp6.loadH (hle4 _ _ f1) (by simp)) ?_; (repeat apply Exists.intro); refine ⟨rfl, ?_⟩)
    refine ⟨?_, ?_⟩
    · refine wp_new hp6 fun p7 w7 hp7 hM7 _ => ?_
      refine ⟨?_, ?_⟩
      · refine wp_appB hp7 hM7 (hd.mono hle) fun a8 n8 c8 H8 w8 hp8 hle8 hd8 => ?_
        refine ⟨fun h hh => ?_, ?_⟩
        · simp only [List.mem_singleton] at hh; subst hh; exact hp8.loadH (hle8 _ _ (hle4 _ _ f1)) (by simp)
        refine wp_new hp8 fun p9 w9 hp9 hM9 _ => ?_
        refine wp_store1 hp9 (by simp) (by simp [Value.oneCell']) fun w10 hp10 => ?_
        obtain ⟨hp11, hle11⟩ := hp10.fix hM9
        exact ⟨p9, _, a8, n8, c8, rfl, hp11, hle8.trans hle11, Mp.put_same _ _ _, hd8.mono hle11⟩
      · refine wp_new hp7 fun p9 w9 hp9 hM9 _ => ?_
        have hne : p7 ≠ p9 := fun e => by subst e; simp at hM9
        have hM9' : M4 p9 = none := by rwa [Mp.put_other (Ne.symm hne)] at hM9
        rw [Mp.put_swap _ hne] at hp9
        refine wp_appB hp9 ((Mp.put_other hne).trans hM7) (hd.mono hle) fun a8 n8 c8 H8 w8 hp8 hle8 hd8 => ?_
        refine ⟨fun h hh => ?_, ?_⟩
        · simp only [List.mem_singleton] at hh; subst hh; exact hp8.loadH (hle8 _ _ (hle4 _ _ f1)) (by simp)
        refine wp_store1 hp8 (by simp) (by simp [Value.oneCell']) fun w10 hp10 => ?_
        obtain ⟨hp11, hle11⟩ := hp10.fix hM9'
        exact ⟨p9, _, a8, n8, c8, rfl, hp11, hle8.trans hle11, Mp.put_same _ _ _, hd8.mono hle11⟩
    · refine wp_new hp6 fun p9 w9 hp9 hM9 _ => ?_
      refine wp_new hp9 fun p7 w7 hp7 hM7 _ => ?_
      refine wp_appB hp7 hM7 (hd.mono hle) fun a8 n8 c8 H8 w8 hp8 hle8 hd8 => ?_
      refine ⟨fun h hh => ?_, ?_⟩
      · simp only [List.mem_singleton] at hh; subst hh; exact hp8.loadH (hle8 _ _ (hle4 _ _ f1)) (by simp)
      refine wp_store1 hp8 (by simp) (by simp [Value.oneCell']) fun w10 hp10 => ?_
      obtain ⟨hp11, hle11⟩ := hp10.fix hM9
      exact ⟨p9, _, a8, n8, c8, rfl, hp11, hle8.trans hle11, Mp.put_same _ _ _, hd8.mono hle11⟩
  rintro vs w6 ⟨p, H6, a6, n6, c6, rfl, hp6, hle6, f6, hd6⟩
  ((repeat apply Exists.intro); refine ⟨rfl, ?_⟩)
  obtain ⟨sx, gx, rfl, lowx, semx⟩ := id st4.ex
  have hcur := lowx.n (i := 0) (by omega) En.len (by decide) semx.log
  change (gx 0).sl.n = r.log.length at hcur
  have f1' := hle6 _ _ (hle4 _ _ f1)
  have hp7 := hp6.drew
  (refine wp_load (hp7.loadM lowx.var (by simp [cells20])) ?_; (repeat apply Exists.intro); refine ⟨rfl, ?_⟩)
  (refine wp_load (hp7.loadH f1' (by simp)) ?_; (repeat apply Exists.intro); refine ⟨rfl, ?_⟩)
  (refine wp_load (hp7.loadH f1' (by simp)) ?_; (repeat apply Exists.intro); refine ⟨rfl, ?_⟩)
  have em : IntKind.u64.wrap (r.commit - r.snap.idx) = r.commit - r.snap.idx := wrap_u64 (by omega) (by omega)
  rw [em]
  refine ⟨⟨by omega, by omega⟩, ?_⟩
  have hsl : Sl (uni H6 M4) (En H4) _ _ _ _ := (own_sl En.len (by omega) (lowx.own 0 (by omega)) (lowx.own 0 (by omega)).uni semx.log : Sl (uni H6 M4) (En H4) _ _ _ _).drop En.len (k := (r.commit - r.snap.idx).toNat)
  obtain ⟨sl1, sl2, cells, hsc, hll⟩ := hsl
  have hdl := List.length_drop (l := r.log) (i := (r.commit - r.snap.idx).toNat)
  refine wp_new hp7 fun p8 w8 hp8 hM8 _ => ?_
  refine wp_appF (kk := 2) (bts := 32) (sn := (gx 0).sl.n - (r.commit - r.snap.idx).toNat) hp8 hM8 hsc (by rw [LL.length En.len hll, sl1]) rfl (one_of En.one hll) (by omega) (by omega) fun t9 M9 o9 w9 hp9 ho9 hn9 ha9 => ?_
  have hnew : ∀ b ∈ o9, M4 b = none := fun b hb => (ha9.fresh b hb).resolve_left (by simp)
  have low9 : Low M9 s (cells20 r sx gx) gx := lowx.frame fun b hb => ha9.keep b (st4.ne b hb) (by simp)
  have hno : ∀ b ∈ o9, b ∉ gx.own s := fun b hb h => st4.ne b h (hnew b hb)
  have lowA := low9.set (i := 0) (c := ⟨t9, cells, o9⟩) (by omega) ho9 hno
  have aA : Adv M4 (gx.own s) M9 ((gx.upd 0 ⟨t9, cells, o9⟩).own s) := ⟨fun b hb _ => ha9.keep b hb (by simp), fun b hb => by
    rcases List.mem_append.1 (Gs.own_upd b hb) with h | h
    · exact .inl h
    · exact .inr (hnew b h)⟩
  refine wp_storeL hp9 lowA (by simp [cells20]) (by simp [Value.oneCell']) fun w10 M10 hp10 low10 a10 => ?_
  (refine wp_load (hp10.loadH f6 (by simp)) ?_; (repeat apply Exists.intro); refine ⟨rfl, ?_⟩)
  refine wp_storeL hp10 low10 (by simp [cells20, splice]) (by simp [Value.oneCell']) fun w11 M11 hp11 low11 a11 => ?_
  have hp12 := hp11.drew
  have low12 : Low M11 s (cells20 (compacted r d) ⟨a6, n6, c6⟩ (gx.upd 0 ⟨t9, cells, o9⟩)) (gx.upd 0 ⟨t9, cells, o9⟩) := low11
  (refine wp_load (hp12.loadM low12.var (by simp [cells20])) ?_; (repeat apply Exists.intro); refine ⟨rfl, ?_⟩)
  (refine wp_load (hp12.loadH f6 (by simp)) ?_; (repeat apply Exists.intro); refine ⟨rfl, ?_⟩)
  refine wp_newH hp12 fun p13 w13 H13 hp13 hle13 f13 => ?_
  have hcur6 := lowx.n (i := 6) (by omega) Rc.len (by decide) semx.save
  change (gx 6).sl.n = 0 at hcur6
  refine wp_appendL 6 (by omega) hp13 low12 rfl (hp13.read1 f13 rfl) rfl (by simp [Value.oneCell']) (by omega) (by rw [Gs.upd_other (by omega)]; omega) fun t14 M14 o14 w14 hp14 low14 hn14 a14 => ?_
  refine wp_storeL hp14 low14 (by simp [cells20]) (by simp [Value.oneCell']) fun w15 M15 hp15 low15 a15 => ?_
  have hle13' := hle6.trans hle13
  have sm := semx.mono hle13'
  have st15 : St H13 M15 s _ (compacted r d) { Out.none with save := [recS ⟨r.commit, (termAt r r.commit).1, d⟩] } := St.of (ss := ⟨a6, n6, c6⟩) low15 rfl
    ⟨hd6.mono hle13, hll.mono (En.mono hle13'), sm.votes, sm.next, sm.mat, sm.acks, sm.reads, sm.save.append (LL.one (Rc_S (x := ⟨r.commit, (termAt r r.commit).1, d⟩) (hd6.mono hle13))), sm.send, sm.ready⟩
  exact tail2_wp (x := ⟨compacted r d, { Out.none with save := [recS ⟨r.commit, (termAt r r.commit).1, d⟩] }⟩) hp15 (hle.trans hle13') st15 (rv4.step ((((aA.trans a10).trans a11).trans a14).trans a15))
end
end Go.Proofs.Ytnbfffmdplcajaa
namespace Go.Proofs.Ytnbfffmdplcajaa
open Go.Vc Go.Vc.Rf

section
variable {w0 w : World} {H M U : Mp} {s : Nat} {o : List Nat} {x : Sp} {k : Nat}
variable {P : Program} {R : Value → World → Prop}

/-- One who stands, with the first votes written. -/
def standsTo (r : Raft) (j : Nat) : Raft := { bare { r with term := r.term + 1, vote := r.id } with role := 1, lead := 0, votes := votesTo r j }
theorem standsTo_all {r : Raft} (h1 : 1 ≤ r.id) (h2 : r.id ≤ r.n) : standsTo r r.n.toNat = stands r := by
  unfold standsTo stands
  rw [votesTo_all h1 h2]
  rfl

set_option maxHeartbeats 1000000 in
theorem refTimeout_runs {r : Raft} {cs : List Value} (hp : Hp w0 w H M) (hr : Ra H cs r) (hf : Fit r) (hm : MayP r) : Runs Try.prog 39 [.agg cs.toArray] w (Top w0 H M (timeout r)) := by
  have hr0 := hr
  obtain ⟨ss, ls, vs, ns, ms, ak, rs, rfl, hr⟩ := hr
  have hla := hf.bd.last
  change lastI r ≤ _ at hla
  have ht0 := hm.t0
  have ht1 := hm.t1
  have i1 := hm.id1
  have i2 := hm.idn
  have hn7 := hm.n7
  have hs0 := hm.s0
  have hs1 := hm.s1
  have hlg := hm.log
  apply r39
  refine wp_newH hp fun p1 w1 H1 hp1 hle1 f1 => ?_
  refine wp_new hp1 fun p2 w2 hp2 hM2 _ => wp_new hp2 fun p3 w3 hp3 hM3 _ => ?_
  have rv0 := Rv.start (zb := [.slice none 0 0, .slice none 0 0, .slice none 0 0]) hM2 hM3 rfl rfl
  (refine wp_load (hp3.loadH f1 (by simp)) ?_; (repeat apply Exists.intro); refine ⟨rfl, ?_⟩)
  refine wp_call (refOwn_runs hp3 (hr0.mono hle1) hf.cpy) fun v4 w4 h4 => ?_
  obtain ⟨s, rfl, H4, M4, o4, hp4, hle4, ha4, st4⟩ := h4
  ((repeat apply Exists.intro); refine ⟨rfl, ?_⟩)
  have rv4 := rv0.step ha4
  have hle := hle1.trans hle4
  obtain ⟨sx, gx, ex, lowx, semx⟩ := id st4.ex
  subst ex
  (refine wp_load (hp4.loadH (hle4 _ _ f1) (by simp)) ?_; (repeat apply Exists.intro); refine ⟨rfl, ?_⟩)
  refine wp_bif (fun h => ?_) fun h => ?_
  · have hrole : r.role = 2 := by simpa using h
    have e : timeout r = Rf.start r := by unfold timeout; rw [if_pos (.inl hrole)]
    rw [e]
    exact tail2_wp (x := Rf.start r) hp4 hle st4 rv4
  have hrole : ¬ r.role = 2 := by simpa using h
  have hmay := hm.may
  have e0 : timeout r = (let s := (Rf.start (stands r)).hard.elects; if s.r.role = 2 then s else (others s.r).foldl (fun x to => x.send (askMsg s.r to)) s) := by
    unfold timeout; rw [if_neg fun hh => hh.elim hrole fun h => by rw [h] at hmay; cases hmay]
  have ee : (Rf.start (stands r)).hard.elects = if decide (2 * (1 : Int) > r.n) = true then (Rf.start (stands r)).hard.leads else (Rf.start (stands r)).hard := by
    unfold Sp.elects
    have := stands_most (r := r) i1 i2
    rw [show (Rf.start (stands r)).hard.r = stands r from rfl, this]
  have hp6 := hp4.drew
  (refine wp_load (hp6.loadM lowx.var (by simp [cells20])) ?_; (repeat apply Exists.intro); refine ⟨rfl, ?_⟩)
  (refine wp_load (hp6.loadM lowx.var (by simp [cells20])) ?_; (repeat apply Exists.intro); refine ⟨rfl, ?_⟩)
  have et : IntKind.u64.wrap (r.term + 1) = r.term + 1 := wrap_u64 (by omega) (by omega)
  rw [et]
  refine wp_storeL hp6 lowx (by simp [cells20]) (by simp [Value.oneCell']) fun w7 M7 hp7 low7 a7 => ?_
  refine wp_storeL hp7 low7 (by simp [cells20, splice]) (by simp [Value.oneCell']) fun w8 M8 hp8 low8 a8 => ?_
  have st8 : St H4 M8 s _ ({ r with term := r.term + 1, vote := r.id } : Raft) Out.none := St.of (ss := sx) low8 rfl ⟨semx.state, semx.log, semx.votes, semx.next, semx.mat, semx.acks, semx.reads, semx.save, semx.send, semx.ready⟩
  refine wp_call (refBare_runs (role := 1) (lead := 0) (x := ⟨{ r with term := r.term + 1, vote := r.id }, Out.none⟩) hp8 st8) fun v10 w10 h10 => ?_
  obtain ⟨rfl, H10, M10, o10, hp10, hle10, ha10, st10⟩ := h10
  ((repeat apply Exists.intro); refine ⟨rfl, ?_⟩)
  have rv10 := (rv4.step (a7.trans a8)).step ha10
  have hl10 := hle.trans hle10
  have st11 : St H10 M10 s o10 (standsTo r 0) Out.none := st10
  refine ⟨fun vs w' => ∃ (j : Nat) (H' M' : Mp) (o' : List Nat), vs = [.int .i64 ((j + 1 : Nat) : Int)] ∧ j ≤ r.n.toNat ∧ Hp w0 w' H' M' ∧ H.le H' ∧ Rv M M' o' p2 p3 ∧ St H' M' s o' (standsTo r j) Out.none,
    fun vs _ => match vs with | [.int _ q] => 9 - q.toNat | _ => 0, ⟨0, H10, M10, o10, rfl, Nat.zero_le _, hp10, hl10, rv10, st11⟩, ?_⟩
  clear st11 rv10 hp10 st10 ha10 a8 a7 st8 low8 low7 hp8 hp7 hp6 lowx semx st4 rv4 hp4
  rintro vs w12 ⟨j, H12, M12, o12, rfl, hj, hp12, hle12, rv12, st12⟩
  obtain ⟨sy, gy, rfl, lowy, semy⟩ := id st12.ex
  ((repeat apply Exists.intro); refine ⟨rfl, ?_⟩)
  (refine wp_load (hp12.loadM lowy.var (by simp [cells20])) ?_; (repeat apply Exists.intro); refine ⟨rfl, ?_⟩)
  refine wp_bif (fun h => ?_) fun h => ?_
  · have hjl : ((j + 1 : Nat) : Int) ≤ r.n := of_decide_eq_true h
    have ewrap : IntKind.i64.wrap (((j + 1 : Nat) : Int) + 1) = ((j + 1 + 1 : Nat) : Int) := by rw [wrap_i64 (by omega) (by omega)]; rfl
    have hpd := hp12.drew
    (refine wp_load (hpd.loadM lowy.var (by simp [cells20])) ?_; (repeat apply Exists.intro); refine ⟨rfl, ?_⟩)
    (refine wp_load (hpd.loadM lowy.var (by simp [cells20])) ?_; (repeat apply Exists.intro); refine ⟨rfl, ?_⟩)
    have hcur := lowy.n (i := 1) (by omega) Bo.len (by decide) semy.votes
    change (gy 1).sl.n = (votesTo r j).length at hcur
    have hvl : (votesTo r j).length = j := by simp [votesTo]
    refine wp_newH hpd fun p13 w13 H13 hp13 hle13 f13 => ?_
    refine wp_appendL 1 (by omega) hp13 lowy rfl (hp13.read1 f13 rfl) rfl (by simp [Value.oneCell']) (by omega) (by omega) fun t14 M14 o14 w14 hp14 low14 hn14 a14 => ?_
    refine wp_storeL hp14 low14 (by simp [cells20]) (by simp [Value.oneCell']) fun w15 M15 hp15 low15 a15 => ?_
    have sm := semy.mono hle13
    refine ⟨⟨j + 1, H13, M15, _, by rw [ewrap], by omega, hp15, hle12.trans hle13, (rv12.step a14).step a15, St.of (ss := sy) low15 rfl ⟨sm.state, sm.log, ?_, sm.next, sm.mat, sm.acks, sm.reads, sm.save, sm.send, sm.ready⟩⟩, ?_⟩
    · show LL Bo _ (votesTo r (j + 1))
      rw [votesTo_succ]
      exact sm.votes.append (LL.one rfl)
    · show 9 - (IntKind.i64.wrap (((j + 1 : Nat) : Int) + 1)).toNat < 9 - (((j + 1 : Nat) : Int)).toNat
      rw [ewrap]; omega
  have hje : j = r.n.toNat := by have := of_decide_eq_false h; change ¬ ((j + 1 : Nat) : Int) ≤ r.n at this; omega
  subst hje
  rw [standsTo_all i1 i2] at st12
  have hb := hf.bd
  have hb' : Bd 101 (Rf.start (stands r)) := by
    have h' := hb.mono (show 100 ≤ 101 by omega)
    exact ⟨h'.idx, h'.last, by simp [Rf.start, stands, bare]; omega, by simp [Rf.start, stands, bare]; omega, h'.round0, h'.round, by simp [Rf.start, stands, bare], by simp [Rf.start, stands, bare], h'.log, by simp [Rf.start, stands, bare], h'.n, h'.save, h'.send, h'.ready⟩
  refine wp_call (refHard_runs (x := Rf.start (stands r)) hp12 st12 (by have := hb'.save; omega)) fun v15 w15 h15 => ?_
  obtain ⟨rfl, H15, M15, o15, hp15, hle15, ha15, st15⟩ := h15
  ((repeat apply Exists.intro); refine ⟨rfl, ?_⟩)
  have rv15 := rv12.step ha15
  have hl15 := hle12.trans hle15
  refine wp_call (refMost_runs hp15 st15 (by omega) (by omega)) fun v16 w16 h16 => ?_
  obtain ⟨rfl, hp16⟩ := h16
  ((repeat apply Exists.intro); refine ⟨rfl, ?_⟩)
  have en : (Rf.start (stands r)).hard.r.n = r.n := rfl
  rw [en]
  refine wp_bif (fun h => ?_) fun h => ?_
  · refine wp_call (refLeads_runs hp16 st15 hb'.hard (by omega) (by show 0 ≤ r.n; omega) (by exact hm.c0)) fun v17 w17 h17 => ?_
    obtain ⟨rfl, H17, M17, o17, hp17, hle17, ha17, st17⟩ := h17
    ((repeat apply Exists.intro); refine ⟨rfl, ?_⟩)
    have e : timeout r = (Rf.start (stands r)).hard.leads := by
      rw [e0, ee, if_pos h]
      exact if_pos leads_role
    rw [e]
    exact tail2_wp hp17 (hl15.trans hle17) st17 (rv15.step ha17)
  have e : timeout r = (others r).foldl (fun x to => x.send (askMsg (stands r) to)) (Rf.start (stands r)).hard := by
    have e3 : (Rf.start (stands r)).hard.elects = (Rf.start (stands r)).hard := by rw [ee, if_neg (by rw [h]; exact Bool.false_ne_true)]
    rw [e0, e3]
    exact if_neg (show ¬ (1 : Int) = 2 by omega)
  rw [e]
  have hby := hb'.hard
  have hyl := hby.last
  have hys := hby.send
  obtain ⟨sz, gz, rfl, lowz, semz⟩ := id st15.ex
  (refine wp_load (hp16.loadM lowz.var (by simp [cells20])) ?_; (repeat apply Exists.intro); refine ⟨rfl, ?_⟩)
  refine wp_call (refLast_runs (r := stands r) hp16 (Mp.le.refl _) ⟨_, _, _, _, _, _, _, rfl, Low.ra hp16 lowz semz⟩ ⟨hs0, by show r.snap.idx ≤ _; omega⟩ (by show r.log.length ≤ _; omega)) fun v17 w17 h17 => ?_
  obtain ⟨rfl, hp17⟩ := h17
  ((repeat apply Exists.intro); refine ⟨rfl, ?_⟩)
  have el : IntKind.u64.wrap (lastI (stands r)) = lastI (stands r) := by
    show IntKind.u64.wrap (lastI r) = lastI r
    exact wrap_u64 (by unfold lastI; omega) (by omega)
  rw [el]
  refine ⟨fun vs w' => ∃ j : Nat, vs = [.int .i64 ((j + 1 : Nat) : Int)] ∧ j ≤ r.n.toNat ∧ Dd w0 H15 M15 s (gz.own s) ((othersTo r j).foldl (fun x to => x.send (askMsg (stands r) to)) (Rf.start (stands r)).hard) w',
    fun vs _ => match vs with | [.int _ q] => 9 - q.toNat | _ => 0, ⟨0, rfl, Nat.zero_le _, H15, M15, _, hp17, Mp.le.refl _, Adv.refl _ _, st15⟩, ?_⟩
  rintro vs w19 ⟨j, rfl, hj, H19, M19, o19, hp19, hle19, ha19, st19⟩
  obtain ⟨er, es⟩ := askFold (stands r) (othersTo r j) (Rf.start (stands r)).hard
  have hll := othersTo_len (r := r) j
  obtain ⟨sw, gw, rfl, loww, semw⟩ := id st19.ex
  have en2 : ((othersTo r j).foldl (fun x to => x.send (askMsg (stands r) to)) (Rf.start (stands r)).hard).r.n = r.n := by rw [er]; rfl
  have ei2 : ((othersTo r j).foldl (fun x to => x.send (askMsg (stands r) to)) (Rf.start (stands r)).hard).r.id = r.id := by rw [er]; rfl
  ((repeat apply Exists.intro); refine ⟨rfl, ?_⟩)
  (refine wp_load (hp19.loadM loww.var (by simp [cells20])) ?_; (repeat apply Exists.intro); refine ⟨rfl, ?_⟩)
  rw [en2]
  refine wp_bif (fun h => ?_) fun h => ?_
  · have hjl : ((j + 1 : Nat) : Int) ≤ r.n := of_decide_eq_true h
    have ewrap : IntKind.i64.wrap (((j + 1 : Nat) : Int) + 1) = ((j + 1 + 1 : Nat) : Int) := by rw [wrap_i64 (by omega) (by omega)]; rfl
    have hos := othersTo_succ (r := r) j
    (refine wp_load (hp19.loadM loww.var (by simp [cells20])) ?_; (repeat apply Exists.intro); refine ⟨rfl, ?_⟩)
    rw [ei2]
    refine wp_bif (fun h2 => ?_) fun h2 => ?_
    · refine wp_call (refSend_runs (m := askMsg (stands r) ((j + 1 : Nat) : Int)) hp19 st19 ⟨_, _, _, _, _, _, rfl, Sl.nil _ _, Bs.nil _⟩ (by rw [es]; omega)) fun v21 w21 h21 => ?_
      obtain ⟨rfl, h21⟩ := h21
      ((repeat apply Exists.intro); refine ⟨rfl, ?_⟩)
      refine ⟨⟨j + 1, by rw [ewrap], by omega, ?_⟩, ?_⟩
      · rw [hos, if_pos (by simpa using h2), List.foldl_append]
        exact Dd.more hle19 ha19 h21
      · show 9 - (IntKind.i64.wrap (((j + 1 : Nat) : Int) + 1)).toNat < 9 - (((j + 1 : Nat) : Int)).toNat
        rw [ewrap]; omega
    · refine ⟨⟨j + 1, by rw [ewrap], by omega, ?_⟩, ?_⟩
      · rw [hos, if_neg (by simpa using h2), List.append_nil]
        exact ⟨H19, M19, _, hp19, hle19, ha19, st19⟩
      · show 9 - (IntKind.i64.wrap (((j + 1 : Nat) : Int) + 1)).toNat < 9 - (((j + 1 : Nat) : Int)).toNat
        rw [ewrap]; omega
  · have hje : j = r.n.toNat := by have := of_decide_eq_false h; omega
    subst hje
    exact tail2_wp hp19 (hl15.trans hle19) st19 (rv15.step ha19)
end
end Go.Proofs.Ytnbfffmdplcajaa
