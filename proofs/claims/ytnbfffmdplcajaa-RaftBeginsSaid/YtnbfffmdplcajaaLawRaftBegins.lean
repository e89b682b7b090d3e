/- The walk of RaftBegins: it returns true. -/
import Derived.Test.YtnbfffmdplcajaaRef1
import Derived.Test.YtnbfffmdplcajaaRead2
import Derived.Test.YtnbfffmdplcajaaTreeL1
namespace Go.Proofs.Ytnbfffmdplcajaa
open Go.Vc Go.Vc.Rf

section
variable {w0 w : World} {H M U : Mp}

theorem raftBegins_runs {id n i : Int} {kp : Kept} {cs : List Value} (hp : Hp w0 w H M) (i0 : 0 ≤ id) (i1 : id ≤ 255) (n0 : 0 ≤ n) (n1 : n ≤ 255) (hk : Kp H cs kp) (ko : kp.Ok) (a0 : 0 ≤ i) (a1 : i ≤ 18446744073709551615) :
    Runs Try.prog 3 [.int .u8 id, .int .u8 n, .agg cs.toArray, .int .u64 i] w fun v w' => v = .bool true ∧ Hp w0 w' H M := by
  have hk0 := hk
  obtain ⟨ss, es, rfl, hs, he⟩ := hk
  have hn := he.1
  have hsn := hs.1
  apply r3
  refine wp_newH hp fun p1 w1 H1 hp1 hle1 f1 => ?_
  refine wp_call (begun_runs hp1) fun v2 w2 h2 => ?_
  obtain ⟨rfl, hp2⟩ := h2
  ((repeat apply Exists.intro); refine ⟨rfl, ?_⟩)
  refine wp_bif (fun h => by simp at h) fun _ => ?_
  (refine wp_load (hp2.loadH f1 (by simp)) ?_; (repeat apply Exists.intro); refine ⟨rfl, ?_⟩)
  refine wp_bif (fun h => ⟨rfl, hp2.lessH hle1⟩) fun h3 => ?_
  (refine wp_load (hp2.loadH f1 (by simp)) ?_; (repeat apply Exists.intro); refine ⟨rfl, ?_⟩)
  refine wp_bif (fun h => ⟨rfl, hp2.lessH hle1⟩) fun h4 => ?_
  (refine wp_load (hp2.loadH f1 (by simp)) ?_; (repeat apply Exists.intro); refine ⟨rfl, ?_⟩)
  refine wp_bif (fun h => ⟨rfl, hp2.lessH hle1⟩) fun h5 => ?_
  have g3 : ¬ (es.n : Int) > 20 := of_decide_eq_false h3
  have g4 : ¬ kp.snap.idx > 1099511627776 := of_decide_eq_false h4
  have g0 := ko.snap.1.1
  have hsize : IntKind.i64.wrap (1 + (IntKind.i64.wrap n).tmod 7) ≠ 0 := by
    rw [wrap_i64 (x := n) (by omega) (by omega), Int.tmod_eq_emod_of_nonneg n0, wrap_i64 (by omega) (by omega)]
    omega
  generalize IntKind.i64.wrap (1 + (IntKind.i64.wrap n).tmod 7) = B at *
  generalize IntKind.i64.wrap (1 + (IntKind.i64.wrap id).tmod B) = A
  have hrl : (newR A B kp).log = kp.entries := rfl
  have hri : (newR A B kp).snap = kp.snap := rfl
  have hcp : Cpy (newR A B kp) := ⟨by rw [hrl]; omega, by simp [newR, Raft.none], by simp [newR, Raft.none], by simp [newR, Raft.none], by simp [newR, Raft.none], by simp [newR, Raft.none]⟩
  have hla : lastI (newR A B kp) ≤ 9000000000000000000 := by unfold lastI; rw [hrl, hri]; omega
  have hla0 : 0 ≤ lastI (newR A B kp) := by unfold lastI; rw [hri]; omega
  refine ⟨by omega, fun vs w' => ∃ (p : Nat) (H' : Mp) (cs : List Value), vs = [.pointer (some ⟨p, 0, none⟩)] ∧ Hp w0 w' H' M ∧ H1.le H' ∧ H' p = some cs ∧ Ra H' cs (newR A B kp), ?_, ?_⟩
  · have hpd := hp2.drew
    refine ⟨hsize, ?_⟩
    (refine wp_load (hpd.loadH f1 (by simp)) ?_; (repeat apply Exists.intro); refine ⟨rfl, ?_⟩)
    refine ⟨?_, ?_⟩
    · refine wp_call (new_runs hpd (hk0.mono hle1) (by omega)) fun v3 w3 h3 => ?_
      obtain ⟨cs3, H3, rfl, hr3, hp3, hle3⟩ := h3
      have hr3' := hr3
      obtain ⟨x1, x2, x3, x4, x5, x6, x7, rfl, hx⟩ := hr3
      ((repeat apply Exists.intro); refine ⟨rfl, ?_⟩)
      refine wp_keep hp3 (by rfl) (by simp [Value.oneCell']) fun p4 w4 H4 hp4 hle4 f4 => ?_
      exact ⟨p4, H4, _, rfl, hp4, hle3.trans hle4, f4, hr3'.mono hle4⟩
    · refine wp_new hpd fun p3 w3 hp3 hM3 _ => ?_
      refine wp_call (new_runs hp3 (hk0.mono hle1) (by omega)) fun v4 w4 h4 => ?_
      obtain ⟨cs4, H4, rfl, hr4, hp4, hle4⟩ := h4
      have hr4' := hr4
      obtain ⟨x1, x2, x3, x4, x5, x6, x7, rfl, hx⟩ := hr4
      ((repeat apply Exists.intro); refine ⟨rfl, ?_⟩)
      refine wp_store1 hp4 (by simp) (by simp [Value.oneCell']) fun w5 hp5 => ?_
      rw [splice_all (by simp)] at hp5
      obtain ⟨hp6, hle6⟩ := hp5.fix hM3
      exact ⟨p3, _, _, rfl, hp6, hle4.trans hle6, Mp.put_same _ _ _, hr4'.mono hle6⟩
  rintro vs w3 ⟨p3, H3, cs3, rfl, hp3, hle3, f3, hr3⟩
  ((repeat apply Exists.intro); refine ⟨rfl, ?_⟩)
  refine ⟨fun vs w' => ∃ (p : Nat) (H' : Mp) (cs : List Value), vs = [.pointer (some ⟨p, 0, none⟩)] ∧ Hp w0 w' H' M ∧ H3.le H' ∧ H' p = some cs ∧ Ra H' cs (newR A B kp), ?_, ?_⟩
  · have hpd := hp3.drew
    refine ⟨hsize, ?_⟩
    (refine wp_load (hpd.loadH (hle3 _ _ f1) (by simp)) ?_; (repeat apply Exists.intro); refine ⟨rfl, ?_⟩)
    refine ⟨?_, ?_⟩
    · refine wp_call (refNew_runs hpd ((hk0.mono hle1).mono hle3) (by omega)) fun v3 w3 h3 => ?_
      obtain ⟨cs3, H3, rfl, hr3, hp3, hle3⟩ := h3
      have hr3' := hr3
      obtain ⟨x1, x2, x3, x4, x5, x6, x7, rfl, hx⟩ := hr3
      ((repeat apply Exists.intro); refine ⟨rfl, ?_⟩)
      refine wp_keep hp3 (by rfl) (by simp [Value.oneCell']) fun p4 w4 H4 hp4 hle4 f4 => ?_
      exact ⟨p4, H4, _, rfl, hp4, hle3.trans hle4, f4, hr3'.mono hle4⟩
    · refine wp_new hpd fun p3 w3 hp3 hM3 _ => ?_
      refine wp_call (refNew_runs hp3 ((hk0.mono hle1).mono hle3) (by omega)) fun v4 w4 h4 => ?_
      obtain ⟨cs4, H4, rfl, hr4, hp4, hle4⟩ := h4
      have hr4' := hr4
      obtain ⟨x1, x2, x3, x4, x5, x6, x7, rfl, hx⟩ := hr4
      ((repeat apply Exists.intro); refine ⟨rfl, ?_⟩)
      refine wp_store1 hp4 (by simp) (by simp [Value.oneCell']) fun w5 hp5 => ?_
      rw [splice_all (by simp)] at hp5
      obtain ⟨hp6, hle6⟩ := hp5.fix hM3
      exact ⟨p3, _, _, rfl, hp6, hle4.trans hle6, Mp.put_same _ _ _, hr4'.mono hle6⟩
  rintro vs w4 ⟨p4, H4, cs4, rfl, hp4, hle4, f4, hr4⟩
  ((repeat apply Exists.intro); refine ⟨rfl, ?_⟩)
  have hr3 := hr3.mono hle4
  have f3 := hle4 _ _ f3
  have hr3' := hr3
  have hr4' := hr4
  obtain ⟨x1, x2, x3, x4, x5, x6, x7, rfl, hx⟩ := hr3
  obtain ⟨y1, y2, y3, y4, y5, y6, y7, rfl, hy⟩ := hr4
  have g0' : 0 ≤ (newR A B kp).snap.idx := by rw [hri]; exact g0
  (refine wp_load (hp4.loadH f3 (by simp [cells17])) ?_; (repeat apply Exists.intro); refine ⟨rfl, ?_⟩)
  refine wp_call (last_runs hp4 hp4.le_uni hr3' g0' hla) fun v5 w5 h5 => ?_
  obtain ⟨rfl, hp5⟩ := h5
  ((repeat apply Exists.intro); refine ⟨rfl, ?_⟩)
  (refine wp_load (hp5.loadH f4 (by simp [cells17])) ?_; (repeat apply Exists.intro); refine ⟨rfl, ?_⟩)
  refine wp_call (refLast_runs hp5 hp5.le_uni hr4' (by rw [hri]; exact ko.snap.1) (by rw [hrl]; omega)) fun v6 w6 h6 => ?_
  obtain ⟨rfl, hp6⟩ := h6
  ((repeat apply Exists.intro); refine ⟨rfl, ?_⟩)
  (refine wp_load (hp6.loadH f3 (by simp [cells17])) ?_; (repeat apply Exists.intro); refine ⟨rfl, ?_⟩)
  refine wp_call (termAt_runs hp6 hp6.le_uni hr3' g0' hla) fun v7 w7 h7 => ?_
  obtain ⟨rfl, hp7⟩ := h7
  ((repeat apply Exists.intro); refine ⟨rfl, ?_⟩)
  (refine wp_load (hp7.loadH f4 (by simp [cells17])) ?_; (repeat apply Exists.intro); refine ⟨rfl, ?_⟩)
  refine wp_call (refTermAt_runs hp7 hp7.le_uni hr4' g0' hla ⟨a0, a1⟩) fun v8 w8 h8 => ?_
  obtain ⟨rfl, hp8⟩ := h8
  ((repeat apply Exists.intro); refine ⟨rfl, ?_⟩)
  (refine wp_load (hp8.loadH f3 (by simp [cells17])) ?_; (repeat apply Exists.intro); refine ⟨rfl, ?_⟩)
  (refine wp_load (hp8.loadH f4 (by simp [cells17])) ?_; (repeat apply Exists.intro); refine ⟨rfl, ?_⟩)
  refine wp_call (same_runs hp8 hr3' hr4' hcp) fun v9 w9 h9 => ?_
  obtain ⟨rfl, hp9⟩ := h9
  ((repeat apply Exists.intro); refine ⟨rfl, ?_⟩)
  refine wp_bif (fun _ => ?_) fun h => by simp at h
  refine wp_bif (fun _ => ?_) fun h => (by rw [wrap_u64 hla0 (by omega)] at h; simp at h)
  refine wp_bif (fun _ => ?_) fun h => by simp at h
  refine wp_bif (fun _ => ?_) fun h => by simp at h
  exact ⟨by simp, hp9.lessH (hle1.trans (hle3.trans hle4))⟩
end
end Go.Proofs.Ytnbfffmdplcajaa
