/- The walk of RaftCommits: it returns true. -/
import Derived.Test.YtnbfffmdplcajaaPre
import Derived.Test.YtnbfffmdplcajaaGrow
import Derived.Test.YtnbfffmdplcajaaTreeW11
namespace Go.Proofs.Ytnbfffmdplcajaa
open Go.Vc Go.Vc.Rf

section
variable {w0 w : World} {H M U : Mp}

theorem slice_same {a : Option Addr} {c : Nat} : (if c = 0 then a else Option.map (fun x : Addr => x) a) = a := by split <;> simp

set_option maxHeartbeats 8000000 in
theorem raftCommits_runs {r : Raft} {m : Msg} {cs cm : List Value} (hp : Hp w0 w H M) (hr : Ra H cs r) (ho : RaOk r) (hm : Ms H cm m) (mo : m.Ok) :
    Runs Try.prog 11 [.agg cs.toArray, .agg cm.toArray] w fun v w' => v = .bool true ∧ Hp w0 w' H M := by
  have hm0 := hm
  obtain ⟨ss, ls, vs, ns, ms, ak, rs, rfl, hr⟩ := hr
  obtain ⟨a1, n1, c1, a2, n2, c2, rfl, he, hs⟩ := hm
  apply r11
  refine pre_wp hp hr ho hm0 mo rfl fun p1 p2 w1 H1 hp1 hle1 f1 f2 may lm hra hma => ?_
  have f1' : H1 p1 = some [.int .u64 r.term, .int .i64 r.vote, .int .i64 r.id, .int .i64 r.n, .int .u64 r.snap.idx, .int .u64 r.snap.term, .slice ss.a ss.n ss.c, .slice ls.a ls.n ls.c, .int .u64 r.commit, .int .i64 r.role, .int .i64 r.lead,
   .slice vs.a vs.n vs.c, .slice ns.a ns.n ns.c, .slice ms.a ms.n ms.c, .slice ak.a ak.n ak.c, .int .u64 r.round, .slice rs.a rs.n rs.c] := f1
  clear f1
  (repeat' (first | refine wp_bif (fun h => ?_) (fun h => ?_) | (refine wp_load (Hp.loadH (by repeat (first | assumption | apply Hp.drew)) (by assumption) (by simp)) ?_; (repeat apply Exists.intro); refine ⟨rfl, ?_⟩) | refine wp_draw ?_))
  all_goals first | (refine ⟨rfl, ?_⟩; exact Hp.lessH (by repeat (first | assumption | apply Hp.drew)) hle1) | skip
  have k3 : m.kind ≠ 3 := by simp_all
  have k5 : m.kind ≠ 5 := by simp_all
  have gr := gr_got k3 k5 (r := r)
  refine wp_call ((got_runs hp1 hra hma may.fit lm).mono fun v w' h => top_give h) fun v3 w3 h3 => ?_
  obtain ⟨cs3, cq3, H3, rfl, hr3, hq3, hp3, hle3⟩ := h3
  have hr3' := hr3
  obtain ⟨y1, y2, y3, y4, y5, y6, y7, rfl, hy⟩ := hr3
  obtain ⟨z1, z2, z3, rfl, hz1, hz2, hz3⟩ := hq3
  have c0 := may.c0
  have cc1 := may.c1
  have s0 := may.s0
  have s1 := may.s1
  have hlg := may.log
  have gin := gr.inn cc1
  have gup := gr.up
  have gsn := gr.snap
  obtain ⟨l, hl⟩ := gr.log
  -- how long it may be
  have hsl : (got r m).r.log.length ≤ 10000000 := by
    have := got_len k3 k5 (r := r)
    omega
  generalize (got r m).r = A at *
  ((repeat apply Exists.intro); refine ⟨rfl, ?_⟩)
  refine wp_keep2 hp3 (by rfl) (by rfl) (by simp [Value.oneCell']) (by simp [Value.oneCell']) fun p5 p6 w5 H5 hp5 hle5 f5 f6 => ?_
  have l15 := hle3.trans hle5
  have g1' := l15 _ _ f1'
  have hfin := hle1.trans l15
  have hr5 := hr.mono (hle1.trans l15)
  have hA5 := hr3'.mono hle5
  have hy5 := hy.mono hle5
  have hlA : lastI A ≤ 9000000000000000000 := by unfold lastI; rw [gsn]; omega
  (refine wp_load (hp5.loadH f5 (by simp)) ?_; (repeat apply Exists.intro); refine ⟨rfl, ?_⟩)
  refine wp_call (last_runs hp5 hp5.le_uni hA5 (by rw [gsn]; exact s0) hlA) fun v7 w7 h7 => ?_
  obtain ⟨rfl, hp7⟩ := h7
  ((repeat apply Exists.intro); refine ⟨rfl, ?_⟩)
  (refine wp_load (hp7.loadH f5 (by simp)) ?_; (repeat apply Exists.intro); refine ⟨rfl, ?_⟩)
  (refine wp_load (hp7.loadH g1' (by simp)) ?_; (repeat apply Exists.intro); refine ⟨rfl, ?_⟩)
  refine wp_bif (fun h => ?_) fun _ => ?_
  · have : A.commit < r.commit := of_decide_eq_true h
    omega
  (refine wp_load (hp7.loadH f5 (by simp)) ?_; (repeat apply Exists.intro); refine ⟨rfl, ?_⟩)
  refine wp_bif (fun h => ?_) fun _ => ?_
  · have : A.commit > lastI A := of_decide_eq_true h
    omega
  (refine wp_load (hp7.loadH g1' (by simp)) ?_; (repeat apply Exists.intro); refine ⟨rfl, ?_⟩)
  (refine wp_load (hp7.loadH g1' (by simp)) ?_; (repeat apply Exists.intro); refine ⟨rfl, ?_⟩)
  have hp8 := hp7.drew
  refine wp_draw ?_
  unfold lastI at cc1
  have ew : IntKind.i64.wrap (IntKind.u64.wrap (r.commit - r.snap.idx)) = r.commit - r.snap.idx := by
    rw [wrap_u64 (by omega) (by omega), wrap_i64 (by omega) (by omega)]
  rw [ew]
  (refine wp_load (hp8.loadH f5 (by simp)) ?_; (repeat apply Exists.intro); refine ⟨rfl, ?_⟩)
  have hyn := hy5.log.1
  have hyc := hy5.log.2.1
  have hrn := hr5.log.1
  have hrc := hr5.log.2.1
  have hAl : A.log.length = r.log.length + l.length := by rw [hl, List.length_append]
  refine wp_bif (fun _ => ?_) fun h => ?_
  rotate_left
  · have : ¬ (y2.n : Int) ≥ r.commit - r.snap.idx := of_decide_eq_false h
    omega
  (refine wp_load (hp8.loadH f5 (by simp)) ?_; (repeat apply Exists.intro); refine ⟨rfl, ?_⟩)
  refine ⟨⟨by omega, by omega⟩, ?_⟩
  (refine wp_load (hp8.loadH g1' (by simp)) ?_; (repeat apply Exists.intro); refine ⟨rfl, ?_⟩)
  refine ⟨⟨by omega, by omega⟩, ?_⟩
  rw [slice_same, slice_same]
  have ht : A.log.take (r.commit - r.snap.idx).toNat = r.log.take (r.commit - r.snap.idx).toNat := by
    rw [hl, List.take_append_of_le_length (by omega)]
  have h1 : Sl H5 (En H5) y2.a ((r.commit - r.snap.idx).toNat - 0) (y2.c - 0) (r.log.take (r.commit - r.snap.idx).toNat) := by
    rw [← ht]; exact Sl.take En.len hy5.log (by omega)
  have h2 : Sl H5 (En H5) ls.a ((r.commit - r.snap.idx).toNat - 0) (ls.c - 0) (r.log.take (r.commit - r.snap.idx).toNat) := Sl.take En.len hr5.log (by omega)
  refine wp_call (sameEntries hp8 h1 h2 (by rw [List.length_take]; omega)) fun v9 w9 h9 => ?_
  obtain ⟨b9, rfl, i9, hp9⟩ := h9
  ((repeat apply Exists.intro); refine ⟨rfl, ?_⟩)
  exact ⟨by rw [i9.2 rfl], hp9.lessH hfin⟩
end
end Go.Proofs.Ytnbfffmdplcajaa
