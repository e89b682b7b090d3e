/- Contracts: copied, begin, end, may. -/
import Derived.Test.YtnbfffmdplcajaaR6
namespace Go.Proofs.Ytnbfffmdplcajaa
open Go.Vc Go.Vc.Rf

/-- Slices of new blocks, apart from each other; what there was is as it was. -/
structure Un (M M' : Mp) (g : Gs) : Prop where
  own : ∀ i, i < 9 → Own M' (wd i) (g i).sl (g i).cells (g i).o
  apart : ∀ i j, i < 9 → j < 9 → i ≠ j → ∀ b ∈ (g i).o, b ∉ (g j).o
  fresh : ∀ i, i < 9 → ∀ b ∈ (g i).o, M b = none
  keep : ∀ b, M b ≠ none → M' b = M b

theorem Un.start (M : Mp) : Un M M fun _ => nilC := ⟨fun _ _ => Own.nil _ _, fun _ _ _ _ _ b hb => (by cases hb), fun _ _ b hb => (by cases hb), fun _ _ => rfl⟩

theorem Un.add {M M' M2 : Mp} {g : Gs} (u : Un M M' g) {i : Nat} (_ : i < 9) {c : Comp} (ho : Own M2 (wd i) c.sl c.cells c.o) (ha : Adv M' [] M2 c.o) : Un M M2 (g.upd i c) := by
  have hnew : ∀ b ∈ c.o, M' b = none := fun b hb => (ha.fresh b hb).resolve_left (by simp)
  refine ⟨fun j hj => ?_, fun j k hj hk hjk b hb => ?_, fun j hj b hb => ?_, fun b hb => ?_⟩
  · by_cases e : j = i
    · subst e; rw [Gs.upd_same]; exact ho
    · rw [Gs.upd_other e]; exact (u.own j hj).frame fun b hb => ha.keep b ((u.own j hj).ne b hb) (by simp)
  · by_cases e1 : j = i
    · subst e1
      rw [Gs.upd_same] at hb
      rw [Gs.upd_other (Ne.symm hjk)]
      exact fun h => (u.own k hk).ne b h (hnew b hb)
    · rw [Gs.upd_other e1] at hb
      by_cases e2 : k = i
      · subst e2; rw [Gs.upd_same]; exact fun h => (u.own j hj).ne b hb (hnew b h)
      · rw [Gs.upd_other e2]; exact u.apart j k hj hk hjk b hb
  · by_cases e : j = i
    · subst e
      rw [Gs.upd_same] at hb
      cases hm : M b with
      | none => rfl
      | some cs =>
        have := u.keep b (by rw [hm]; simp)
        rw [hnew b hb, hm] at this; cases this
    · rw [Gs.upd_other e] at hb; exact u.fresh j hj b hb
  · rw [ha.keep b (by rw [u.keep b hb]; exact hb) (by simp)]
    exact u.keep b hb

theorem Un.store {M M' : Mp} {g : Gs} (u : Un M M' g) {p : Nat} {cs : List Value} (hp : M p ≠ none) : Un (M.put p cs) (M'.put p cs) g := by
  have hne : ∀ i, i < 9 → ∀ b ∈ (g i).o, b ≠ p := fun i hi b hb e => hp (e ▸ u.fresh i hi b hb)
  refine ⟨fun i hi => (u.own i hi).frame fun b hb => Mp.put_other (hne i hi b hb), u.apart, fun i hi b hb => ?_, fun b hb => ?_⟩
  · rw [Mp.put_other (hne i hi b hb)]; exact u.fresh i hi b hb
  · by_cases e : b = p
    · subst e; simp
    · rw [Mp.put_other e] at hb ⊢
      rw [Mp.put_other e]; exact u.keep b hb

theorem Un.base {M M0 M' : Mp} {g : Gs} (h : ∀ b, M b ≠ none → M0 b = M b) (u : Un M0 M' g) : Un M M' g := by
  refine ⟨u.own, u.apart, fun i hi b hb => ?_, fun b hb => ?_⟩
  · cases hm : M b with
    | none => rfl
    | some cs =>
      have := h b (by rw [hm]; simp)
      rw [u.fresh i hi b hb, hm] at this; cases this
  · have := h b hb
    rw [u.keep b (by rw [this]; exact hb), this]

theorem Un.adv {M M' : Mp} {g : Gs} (u : Un M M' g) : Adv M [] M' ((List.range 9).flatMap fun i => (g i).o) :=
  ⟨fun b hb _ => u.keep b hb, fun b hb => by
    simp only [List.mem_flatMap, List.mem_range] at hb
    obtain ⟨i, hi, h⟩ := hb
    exact .inr (u.fresh i hi b h)⟩

/-- The data of a raft that lies in slices of its own. -/
structure SemR (H : Mp) (r : Raft) (ss : Sl3) (g : Gs) : Prop where
  state : Bs H ss.a ss.n ss.c r.snap.state
  log : LL (En H) (g 0).cells r.log
  votes : LL Bo (g 1).cells r.votes
  next : LL Nu (g 2).cells r.next
  mat : LL Nu (g 3).cells r.mat
  acks : LL Nu (g 4).cells r.acks
  reads : LL Re (g 5).cells r.reads

def cellsG (r : Raft) (ss : Sl3) (g : Gs) : List Value := cells17 r ss (g 0).sl (g 1).sl (g 2).sl (g 3).sl (g 4).sl (g 5).sl

/-- A raft of its own, handed out. -/
def Cp (w0 : World) (H M : Mp) (r : Raft) (v : Value) (w' : World) : Prop :=
  ∃ H' M' ss g, v = .agg (cellsG r ss g).toArray ∧ Hp w0 w' H' M' ∧ H.le H' ∧ Un M M' g ∧ SemR H' r ss g ∧ (∀ i, 6 ≤ i → i < 9 → g i = nilC)

section
variable {w0 w : World} {H M U : Mp} {s : Nat} {o : List Nat} {x : Sp} {k : Nat}

/-- Small enough to be copied. -/
structure Cpy (r : Raft) : Prop where
  log : r.log.length ≤ 4398046511104
  votes : r.votes.length ≤ 4398046511104
  next : r.next.length ≤ 4398046511104
  mat : r.mat.length ≤ 4398046511104
  acks : r.acks.length ≤ 4398046511104
  reads : r.reads.length ≤ 4398046511104

set_option maxHeartbeats 2000000 in
theorem copied_runs {r : Raft} {cs : List Value} (hp : Hp w0 w H M) (hr : Ra H cs r) (hc : Cpy r) : Runs Try.prog 50 [.agg cs.toArray] w (Cp w0 H M r) := by
  obtain ⟨ss, ls, vs, ns, ms, ak, rs, rfl, hr⟩ := hr
  obtain ⟨c0, c1, c2, c3, c4, c5⟩ := hc
  obtain ⟨rv1, rv2, cv, rv3, rv4⟩ := hr.votes
  obtain ⟨rn1, rn2, cn, rn3, rn4⟩ := hr.next
  obtain ⟨rm1, rm2, cm, rm3, rm4⟩ := hr.mat
  obtain ⟨ra1, ra2, ca, ra3, ra4⟩ := hr.acks
  obtain ⟨rr1, rr2, cr, rr3, rr4⟩ := hr.reads
  have lv := LL.length Bo.len rv4
  have ln := LL.length Nu.len rn4
  have lm := LL.length Nu.len rm4
  have la := LL.length Nu.len ra4
  have lr := LL.length Re.len rr4
  apply r50
  refine wp_new hp fun p1 w1 hp1 hM1 _ => wp_new hp1 fun p2 w2 hp2 hM2 _ => ?_
  have hne : p1 ≠ p2 := fun e => by subst e; simp at hM2
  have hM2' : M p2 = none := by rwa [Mp.put_other (Ne.symm hne)] at hM2
  have b0 : ∀ b, M b ≠ none → b ≠ p1 ∧ b ≠ p2 := fun b hb => ⟨fun e => hb (e ▸ hM1), fun e => hb (e ▸ hM2')⟩
  have hpd := hp2.drew
  have m1 : ((M.put p1 (cells17 r ss ls vs ns ms ak rs)).put p2 [.int .u64 0, .int .i64 0, .int .i64 0, .int .i64 0, .int .u64 0, .int .u64 0, .slice none 0 0, .slice none 0 0, .int .u64 0, .int .i64 0, .int .i64 0, .slice none 0 0, .slice none 0 0, .slice none 0 0, .slice none 0 0, .int .u64 0, .slice none 0 0]) p1 = some (cells17 r ss ls vs ns ms ak rs) := (Mp.put_other hne).trans (Mp.put_same _ _ _)
  generalize hMM : ((M.put p1 (cells17 r ss ls vs ns ms ak rs)).put p2 [.int .u64 0, .int .i64 0, .int .i64 0, .int .i64 0, .int .u64 0, .int .u64 0, .slice none 0 0, .slice none 0 0, .int .u64 0, .int .i64 0, .int .i64 0, .slice none 0 0, .slice none 0 0, .slice none 0 0, .slice none 0 0, .int .u64 0, .slice none 0 0]) = MM at m1
  have hpd' : Hp w0 w2.drew H MM := hMM ▸ hpd
  have mb : ∀ b, M b ≠ none → MM b = M b := fun b hb => by rw [← hMM, Mp.put_other (b0 b hb).2, Mp.put_other (b0 b hb).1]
  obtain ⟨z2, hz2, m2⟩ : ∃ z, z.length = 17 ∧ MM p2 = some z := ⟨_, rfl, by rw [← hMM]; exact Mp.put_same _ _ _⟩
  clear hpd hp2 hMM
  (refine wp_load (hpd'.loadM m1 (by simp [cells17])) ?_; (repeat apply Exists.intro); refine ⟨rfl, ?_⟩)
  (refine wp_load (hpd'.loadM m1 (by simp [cells17])) ?_; (repeat apply Exists.intro); refine ⟨rfl, ?_⟩)
  refine wp_call (snap_runs hpd' hr.state) fun v3 w3 h3 => ?_
  obtain ⟨a3, n3, k3, H3, rfl, hb3, hp3, hle3⟩ := h3
  ((repeat apply Exists.intro); refine ⟨rfl, ?_⟩)
  refine ⟨fun h hh => ?_, ?_⟩
  · simp only [List.mem_singleton] at hh; subst hh; exact hp3.loadM m1 (by simp [cells17])
  refine wp_call (entries_runs hp3 (Mp.le.refl _) ((hr.log.mono hle3 (En.mono hle3)).mono hp3.le_uni fun _ _ h => h) c0) fun v4 w4 h4 => ?_
  obtain ⟨s4, H4, M4, o4, cells4, rfl, hp4, hle4, ho4, hl4, ha4⟩ := h4
  ((repeat apply Exists.intro); refine ⟨rfl, ?_⟩)
  have u4 := (Un.start MM).add (i := 0) (c := ⟨s4, cells4, o4⟩) (by omega) ho4 ha4
  have k4 := (u4.keep p1 (Mp.ne_of m1)).trans m1
  refine wp_store hp4 k4 (by simp [cells17]) (by simp [Value.oneCell']) fun w5 hp5 => ?_
  refine wp_store1 hp5 (by simp [cells17, splice]) (by simp [Value.oneCell']) fun w6 hp6 => ?_
  have u6 := u4.store (p := p1) (cs := splice (splice (cells17 r ss ls vs ns ms ak rs) 4 [.int .u64 r.snap.idx, .int .u64 r.snap.term, .slice a3 n3 k3]) 7 [.slice s4.a s4.n s4.c]) (Mp.ne_of m1)
  have hp7 := hp6.drew
  have L := fun {w' : World} {H' M' : Mp} {g : Gs} (hp' : Hp w0 w' H' M') (u' : Un (MM.put p1 (splice (splice (cells17 r ss ls vs ns ms ak rs) 4 [.int .u64 r.snap.idx, .int .u64 r.snap.term, .slice a3 n3 k3]) 7 [.slice s4.a s4.n s4.c])) M' g) => (u'.keep p1 (by simp)).trans (Mp.put_same _ _ _)
  have l34 := hle3.trans hle4
  (refine wp_load (hp7.loadM (L hp7 u6) (by simp [cells17, splice])) ?_; (repeat apply Exists.intro); refine ⟨rfl, ?_⟩)
  (refine wp_load (hp7.loadM (L hp7 u6) (by simp [cells17, splice])) ?_; (repeat apply Exists.intro); refine ⟨rfl, ?_⟩)
  (refine wp_load (hp7.loadM (L hp7 u6) (by simp [cells17, splice])) ?_; (repeat apply Exists.intro); refine ⟨rfl, ?_⟩)
  (refine wp_load (hp7.loadM (L hp7 u6) (by simp [cells17, splice])) ?_; (repeat apply Exists.intro); refine ⟨rfl, ?_⟩)
  (refine wp_load (hp7.loadM (L hp7 u6) (by simp [cells17, splice])) ?_; (repeat apply Exists.intro); refine ⟨rfl, ?_⟩)
  refine wp_call (cloneBools hp7 ((rv3.mono l34).mono hp7.le_uni) (by rw [lv, rv1]) (one_of Bo.one rv4) (by omega)) fun v8 w8 h8 => ?_
  obtain ⟨s8, M8, o8, rfl, n8, hp8, ho8, ha8⟩ := h8
  ((repeat apply Exists.intro); refine ⟨rfl, ?_⟩)
  have u8 := u6.add (i := 1) (c := ⟨s8, cv, o8⟩) (by omega) ho8 ha8
  refine ⟨fun h hh => ?_, ?_⟩
  · simp only [List.mem_cons, List.not_mem_nil, or_false] at hh
    rcases hh with rfl | rfl | rfl | rfl <;> exact hp8.loadM (L hp8 u8) (by simp [cells17, splice])
  refine wp_call (cloneNums hp8 ((rn3.mono l34).mono hp8.le_uni) (by rw [ln, rn1]) (one_of Nu.one rn4) (by omega)) fun v9 w9 h9 => ?_
  obtain ⟨s9, M9, o9, rfl, n9, hp9, ho9, ha9⟩ := h9
  ((repeat apply Exists.intro); refine ⟨rfl, ?_⟩)
  have u9 := u8.add (i := 2) (c := ⟨s9, cn, o9⟩) (by omega) ho9 ha9
  refine ⟨fun h hh => ?_, ?_⟩
  · simp only [List.mem_cons, List.not_mem_nil, or_false] at hh
    rcases hh with rfl | rfl | rfl <;> exact hp9.loadM (L hp9 u9) (by simp [cells17, splice])
  refine wp_call (cloneNums hp9 ((rm3.mono l34).mono hp9.le_uni) (by rw [lm, rm1]) (one_of Nu.one rm4) (by omega)) fun v10 w10 h10 => ?_
  obtain ⟨s10, M10, o10, rfl, n10, hp10, ho10, ha10⟩ := h10
  ((repeat apply Exists.intro); refine ⟨rfl, ?_⟩)
  have u10 := u9.add (i := 3) (c := ⟨s10, cm, o10⟩) (by omega) ho10 ha10
  refine ⟨fun h hh => ?_, ?_⟩
  · simp only [List.mem_cons, List.not_mem_nil, or_false] at hh
    rcases hh with rfl | rfl <;> exact hp10.loadM (L hp10 u10) (by simp [cells17, splice])
  refine wp_call (cloneNums hp10 ((ra3.mono l34).mono hp10.le_uni) (by rw [la, ra1]) (one_of Nu.one ra4) (by omega)) fun v11 w11 h11 => ?_
  obtain ⟨s11, M11, o11, rfl, n11, hp11, ho11, ha11⟩ := h11
  ((repeat apply Exists.intro); refine ⟨rfl, ?_⟩)
  have u11 := u10.add (i := 4) (c := ⟨s11, ca, o11⟩) (by omega) ho11 ha11
  refine ⟨fun h hh => ?_, ?_⟩
  · simp only [List.mem_singleton] at hh; subst hh; exact hp11.loadM (L hp11 u11) (by simp [cells17, splice])
  refine wp_call (cloneReads hp11 ((rr3.mono l34).mono hp11.le_uni) (by rw [lr, rr1]) (one_of Re.one rr4) (by omega)) fun v12 w12 h12 => ?_
  obtain ⟨s12, M12, o12, rfl, n12, hp12, ho12, ha12⟩ := h12
  ((repeat apply Exists.intro); refine ⟨rfl, ?_⟩)
  have u12 := u11.add (i := 5) (c := ⟨s12, cr, o12⟩) (by omega) ho12 ha12
  refine wp_store hp12 (L hp12 u12) (by simp [cells17, splice]) (by simp [Value.oneCell']) fun w13 hp13 => ?_
  refine wp_store1 hp13 (by simp [cells17, splice]) (by simp [Value.oneCell']) fun w14 hp14 => ?_
  refine wp_store1 hp14 (by simp [cells17, splice]) (by simp [Value.oneCell']) fun w15 hp15 => ?_
  refine wp_store1 hp15 (by simp [cells17, splice]) (by simp [Value.oneCell']) fun w16 hp16 => ?_
  refine wp_store1 hp16 (by simp [cells17, splice]) (by simp [Value.oneCell']) fun w17 hp17 => ?_
  have hp18 : Hp w0 w17 H4 (M12.put p1 (cells17 r ⟨a3, n3, k3⟩ s4 s8 s9 s10 s11 s12)) := hp17
  clear hp13 hp14 hp15 hp16 hp17
  have u17 := u12.store (p := p1) (cs := cells17 r ⟨a3, n3, k3⟩ s4 s8 s9 s10 s11 s12) (by simp)
  rw [Mp.put_put] at u17
  have k2 : (M12.put p1 (cells17 r ⟨a3, n3, k3⟩ s4 s8 s9 s10 s11 s12)) p2 = some z2 := by
    rw [u17.keep p2 (by rw [Mp.put_other (Ne.symm hne), m2]; simp), Mp.put_other (Ne.symm hne), m2]
  (refine wp_load (hp18.loadM (Mp.put_same _ _ _) (by simp [cells17])) ?_; (repeat apply Exists.intro); refine ⟨rfl, ?_⟩)
  refine wp_store hp18 k2 (by simp [hz2]) (by simp [Value.oneCell']) fun w19 hp19 => ?_
  rw [splice_all (by simp [hz2])] at hp19
  (refine wp_load (hp19.loadM (Mp.put_same _ _ _) (by simp)) ?_; (repeat apply Exists.intro); refine ⟨rfl, ?_⟩)
  have u19 := u17.store (p := p2) (cs := cells17 r ⟨a3, n3, k3⟩ s4 s8 s9 s10 s11 s12) (by rw [Mp.put_other (Ne.symm hne), m2]; simp)
  have u20 := Un.base (M := M) (fun b hb => by rw [Mp.put_other (b0 b hb).2, Mp.put_other (b0 b hb).1, mb b hb]) u19
  refine ⟨H4, _, ⟨a3, n3, k3⟩, _, rfl, hp19, l34, u20, ⟨hb3.mono hle4, hl4, rv4, rn4, rm4, ra4, rr4⟩, fun i h1 h2 => ?_⟩
  rw [Gs.upd_other (by omega), Gs.upd_other (by omega), Gs.upd_other (by omega), Gs.upd_other (by omega), Gs.upd_other (by omega), Gs.upd_other (by omega)]
end
end Go.Proofs.Ytnbfffmdplcajaa
