/- The walk of RaftTerms: it returns true. -/
import Derived.Test.YtnbfffmdplcajaaPre
import Derived.Test.YtnbfffmdplcajaaKeep
import Derived.Test.YtnbfffmdplcajaaTreeW10
import Derived.Test.YtnbfffmdplcajaaTreeE47
namespace Go.Proofs.Ytnbfffmdplcajaa
open Go.Vc Go.Vc.Rf

/-- Term and vote as they were. -/
def Tv (x y : Raft) : Prop := y.term = x.term ∧ y.vote = x.vote
theorem Tv.trans {x y z : Raft} (a : Tv x y) (b : Tv y z) : Tv x z := ⟨b.1.trans a.1, b.2.trans a.2⟩
theorem tv_leads {x : Sp} : Tv x.r x.leads.r := by
  unfold Sp.leads
  rw [calls_r]
  exact ⟨rfl, rfl⟩
theorem tv_elects {x : Sp} : Tv x.r x.elects.r := by
  unfold Sp.elects
  split
  · exact tv_leads
  · exact ⟨rfl, rfl⟩
theorem tv_takesAll : ∀ (l : List Ent) (x : Sp) (i : Int), Tv x.r (x.takesAll i l).r
  | [], _, _ => ⟨rfl, rfl⟩
  | e :: l, x, i => by
    have h1 : Tv x.r (x.takes i e).r := by
      unfold Sp.takes
      split
      · exact ⟨rfl, rfl⟩
      split
      · exact ⟨rfl, rfl⟩
      split <;> exact ⟨rfl, rfl⟩
    exact h1.trans (tv_takesAll l (x.takes i e) (i + 1))
theorem tv_done {x : Sp} {m : Msg} : Tv x.r (x.done m).r := by
  by_cases hc : x.r.role ≠ 2 ∨ m.term ≠ x.r.term
  · have : x.done m = x := if_pos hc
    rw [this]; exact ⟨rfl, rfl⟩
  · have h1 : x.r.role = 2 := by
      by_cases e : x.r.role = 2
      · exact e
      · exact absurd (.inl e) hc
    have h2 : m.term = x.r.term := by
      by_cases e : m.term = x.r.term
      · exact e
      · exact absurd (.inr e) hc
    obtain ⟨y, A, M, N, c, e1, e2, _⟩ := done_spec h1 h2
    rw [e1, answers_fields, e2]; exact ⟨rfl, rfl⟩

/-- A term never falls; who voted votes for no other. -/
def Hd (x y : Raft) : Prop := x.term ≤ y.term ∧ (y.term = x.term → x.vote ≠ 0 → y.vote = x.vote)
theorem hd_got {r : Raft} {m : Msg} : Hd r (got r m).r := by
  by_cases hm : mine r m = true
  · have hy : Hd r (gotAt r m).r := by
      unfold gotAt
      split
      · rename_i h
        exact ⟨by show r.term ≤ m.term; omega, fun h2 => by
          have : m.term = r.term := h2
          omega⟩
      · exact ⟨Int.le_refl _, fun _ _ => rfl⟩
    have go : ∀ z : Raft, z.term = (gotAt r m).r.term → ((gotAt r m).r.vote ≠ 0 → z.vote = (gotAt r m).r.vote) → Hd r z := fun z e1 e2 => by
      refine ⟨by rw [e1]; exact hy.1, fun h1 h2 => ?_⟩
      have h3 := hy.2 (e1 ▸ h1) h2
      rw [e2 (by rw [h3]; exact h2), h3]
    have tv : ∀ z : Raft, Tv (gotAt r m).r z → Hd r z := fun z h => go z h.1 fun _ => h.2
    rw [got_mine hm]
    split
    · unfold Sp.asked
      split
      · rename_i h
        rw [Bool.and_eq_true] at h
        exact go _ rfl fun hv => absurd (by simpa using h.2) hv
      · exact tv _ ⟨rfl, rfl⟩
    split
    · unfold Sp.voted
      split
      · exact tv _ (tv_elects (x := { (gotAt r m) with r := { (gotAt r m).r with votes := (gotAt r m).r.votes.set (m.frm - 1).toNat true } }))
      · exact tv _ ⟨rfl, rfl⟩
    have tl : Tv (gotAt r m).r ((gotAt r m).led m).1.r := by unfold Sp.led; split <;> exact ⟨rfl, rfl⟩
    split
    · unfold Sp.appends
      split
      · exact tv _ tl
      · dsimp only
        split
        · exact tv _ tl
        · exact tv _ (tl.trans (tv_takesAll m.entries ((gotAt r m).led m).1 (m.index + 1)))
    split
    · unfold Sp.snaps
      split
      · exact tv _ tl
      · dsimp only
        split
        · split <;> exact tv _ tl
        · exact tv _ tl
    · exact tv _ tv_done
  · have : got r m = Rf.start r := if_pos (by simpa using hm)
    rw [this]
    exact ⟨Int.le_refl _, fun _ _ => rfl⟩
theorem hd_timeout {r : Raft} : Hd r (timeout r).r := by
  unfold timeout
  split
  · exact ⟨Int.le_refl _, fun _ _ => rfl⟩
  · have ht : (Rf.start (stands r)).hard.elects.r.term = r.term + 1 := tv_elects.1
    have up : ∀ z : Raft, z.term = r.term + 1 → Hd r z := fun z e => ⟨by omega, fun h => by omega⟩
    dsimp only
    split
    · exact up _ ht
    · exact up _ (by rw [(askFold _ _ _).1]; exact ht)

theorem foldRec_tv (k : Kept) (x : Rec) : (foldRec k x).term = (if x.kind = 1 then x.term else k.term) ∧ (foldRec k x).vote = (if x.kind = 1 then x.vote else k.vote) := by
  unfold foldRec
  split
  · exact ⟨rfl, rfl⟩
  split
  · exact ⟨rfl, rfl⟩
  split
  · exact ⟨rfl, rfl⟩
  split
  · split <;> exact ⟨rfl, rfl⟩
  · exact ⟨rfl, rfl⟩

def hardV (p1 p2 p3 : Nat) : VC :=
 .load ⟨p1, 0, none⟩ 2 fun v68 =>
 .exI fun i69 =>
 .exI fun i70 =>
 .isL v68 [.int .u64 i69, .int .i64 i70] <|
 .new 24 [.int .u64 0, .int .i64 0] fun p71 =>
 .store ⟨p71, 0, none⟩ [.int .u64 i69, .int .i64 i70] <|
 .loop 0 [.int .i64 0] (fun v72 =>
  .exI fun i73 =>
  .isL v72 [.int .i64 i73] <|
  .load ⟨p3, 0, none⟩ 1 fun v74 =>
  .exS fun a75 n75 c75 =>
  .isL v74 [.slice a75 n75 c75] <|
  bif (decide (i73 < (↑n75 : Int))) then
   (.load ⟨p3, 0, none⟩ 1 fun v76 =>
   .exS fun a77 n77 c77 =>
   .isL v76 [.slice a77 n77 c77] <|
   .some a77 fun x78 =>
   .need ((0 : Int) ≤ i73 ∧ i73 < (↑n77 : Int)) <|
   .load (x78.add (i73.toNat * 9)) 1 fun v79 =>
   .exI fun i80 =>
   .isL v79 [.int .i64 i80] <|
   bif (i80 == 1) then
    (.load ⟨p3, 0, none⟩ 1 fun v81 =>
    .exS fun a82 n82 c82 =>
    .isL v81 [.slice a82 n82 c82] <|
    .some a82 fun x83 =>
    .need ((0 : Int) ≤ i73 ∧ i73 < (↑n82 : Int)) <|
    .load ((x83.add (i73.toNat * 9)).add 1) 2 fun v84 =>
    .exI fun i85 =>
    .exI fun i86 =>
    .isL v84 [.int .u64 i85, .int .i64 i86] <|
    .store ⟨p71, 0, none⟩ [.int .u64 i85, .int .i64 i86] <|
    .again 0 [.int .i64 (IntKind.i64.wrap (i73 + 1))])
   else
   (.again 0 [.int .i64 (IntKind.i64.wrap (i73 + 1))]))
  else
  (.load ⟨p71, 0, none⟩ 2 fun v87 =>
  .exI fun i88 =>
  .exI fun i89 =>
  .isL v87 [.int .u64 i88, .int .i64 i89] <|
  .load ⟨p2, 0, none⟩ 2 fun v90 =>
  .exI fun i91 =>
  .exI fun i92 =>
  .isL v90 [.int .u64 i91, .int .i64 i92] <|
  .ret (.bool (i88 == i91 && (i89 == i92 && true)))))

section
variable {w0 w : World} {H M U : Mp}

theorem hardV_wp {H0 : Mp} {P1 P2 P3 : Nat} {r A : Raft} {S : List Rec} {c1 c2 : List Value} {s1 s2 s3 : Sl3} (hp : Hp w0 w H M) (h0 : H0.le H) (f1 : H P1 = some c1) (f2 : H P2 = some c2) {x1 x2 x3 x4 x5 x6 x7 y1 y2 y3 y4 y5 y6 y7 : Sl3} (e1 : c1 = cells17 r x1 x2 x3 x4 x5 x6 x7) (e2 : c2 = cells17 A y1 y2 y3 y4 y5 y6 y7)
    (f3 : H P3 = some [.slice s1.a s1.n s1.c, .slice s2.a s2.n s2.c, .slice s3.a s3.n s3.c]) (hq : Sl H (Rc H) s1.a s1.n s1.c S) (hql : S.length ≤ 4398046511104) (hS : S.foldl foldRec (kof r) = kof A) {env : Nat → List Value → World → Prop} :
    (hardV P1 P2 P3).wp Try.prog (fun v w' => v = .bool true ∧ Hp w0 w' H0 M) env w := by
  subst e1 e2
  have hqn := hq.1
  (refine wp_load (hp.loadH f1 (by simp [cells17])) ?_; (repeat apply Exists.intro); refine ⟨rfl, ?_⟩)
  refine wp_new hp fun p w1 hp1 hM1 _ => ?_
  refine wp_store1 hp1 (by simp) (by simp [Value.oneCell']) fun w2 hp2 => ?_
  rw [splice_all (by simp)] at hp2
  refine ⟨fun vs w' => ∃ (j : Nat) (t v : Int), vs = [.int .i64 j] ∧ j ≤ S.length ∧ Hp w0 w' H (M.put p [.int .u64 t, .int .i64 v]) ∧ t = ((S.take j).foldl foldRec (kof r)).term ∧ v = ((S.take j).foldl foldRec (kof r)).vote, fun vs _ => match vs with | [.int _ k] => S.length - k.toNat | _ => 0, ⟨0, r.term, r.vote, rfl, Nat.zero_le _, hp2, rfl, rfl⟩, ?_⟩
  rintro vs w3 ⟨j, t, v, rfl, hj, hp3, ht, hv⟩
  have ewrap : j < S.length → IntKind.i64.wrap ((j : Int) + 1) = ((j + 1 : Nat) : Int) := fun h => by rw [wrap_i64 (by omega) (by omega)]; rfl
  ((repeat apply Exists.intro); refine ⟨rfl, ?_⟩)
  (refine wp_load (hp3.loadH f3 (by simp)) ?_; (repeat apply Exists.intro); refine ⟨rfl, ?_⟩)
  refine wp_bif (fun h => ?_) fun h => ?_
  · have hjl : j < S.length := by
      have : (j : Int) < s1.n := of_decide_eq_true h
      omega
    have etake : S.take (j + 1) = S.take j ++ [S[j]] := List.take_succ_eq_append_getElem hjl
    obtain ⟨q1, q2⟩ := foldRec_tv ((S.take j).foldl foldRec (kof r)) S[j]
    (refine wp_load (hp3.loadH f3 (by simp)) ?_; (repeat apply Exists.intro); refine ⟨rfl, ?_⟩)
    obtain ⟨b, o, cs, ha, hcs, hat⟩ := Sl.elem Rc.len hq hp3 (List.getElem?_eq_getElem hjl) (by omega)
    obtain ⟨_, _, _, _, _, _, rfl, _⟩ := hcs
    have h1 := hat _ _ hp3 0 1 (by omega)
    have h2 := hat _ _ hp3 1 2 (by omega)
    rw [Nat.add_zero] at h1
    refine ⟨_, ha, ⟨by omega, by omega⟩, ?_⟩
    simp only [add_mk, Int.toNat_natCast]
    (refine wp_load (h1) ?_; (repeat apply Exists.intro); refine ⟨rfl, ?_⟩)
    refine wp_bif (fun h4 => ?_) fun h4 => ?_
    · have k1 : S[j].kind = 1 := by simpa using h4
      (refine wp_load (hp3.loadH f3 (by simp)) ?_; (repeat apply Exists.intro); refine ⟨rfl, ?_⟩)
      refine ⟨_, ha, ⟨by omega, by omega⟩, ?_⟩
      simp only [add_mk]
      (refine wp_load (h2) ?_; (repeat apply Exists.intro); refine ⟨rfl, ?_⟩)
      refine wp_store1 hp3 (by simp) (by simp [Value.oneCell']) fun w5 hp5 => ?_
      rw [splice_all (by simp)] at hp5
      refine ⟨⟨j + 1, S[j].term, S[j].vote, by rw [ewrap hjl], hjl, hp5, ?_, ?_⟩, ?_⟩
      · rw [etake, List.foldl_append]
        show _ = (foldRec _ S[j]).term
        rw [q1, if_pos k1]
      · rw [etake, List.foldl_append]
        show _ = (foldRec _ S[j]).vote
        rw [q2, if_pos k1]
      · show S.length - (IntKind.i64.wrap ((j : Int) + 1)).toNat < S.length - (j : Int).toNat
        rw [ewrap hjl]; omega
    · have k1 : ¬ S[j].kind = 1 := by simpa using h4
      refine ⟨⟨j + 1, t, v, by rw [ewrap hjl], hjl, hp3, ?_, ?_⟩, ?_⟩
      · rw [etake, List.foldl_append]
        show _ = (foldRec _ S[j]).term
        rw [q1, if_neg k1]; exact ht
      · rw [etake, List.foldl_append]
        show _ = (foldRec _ S[j]).vote
        rw [q2, if_neg k1]; exact hv
      · show S.length - (IntKind.i64.wrap ((j : Int) + 1)).toNat < S.length - (j : Int).toNat
        rw [ewrap hjl]; omega
  · have hje : j = S.length := by
      have : ¬ (j : Int) < s1.n := of_decide_eq_false h
      omega
    subst hje
    rw [List.take_length, hS] at ht hv
    have ht' : t = A.term := ht
    have hv' : v = A.vote := hv
    (refine wp_load (hp3.loadM (Mp.put_same _ _ _) (by simp)) ?_; (repeat apply Exists.intro); refine ⟨rfl, ?_⟩)
    (refine wp_load (hp3.loadH f2 (by simp [cells17])) ?_; (repeat apply Exists.intro); refine ⟨rfl, ?_⟩)
    refine ⟨by rw [ht', hv']; simp, (hp3.lessH h0).less fun b cs hb => ?_⟩
    rw [Mp.put_other fun e => by rw [e, hM1] at hb; cases hb]
    exact hb

theorem hard_law {r A : Raft} {q : Out} {c1 c2 cq : List Value} (hp : Hp w0 w H M) (h1 : Ra H c1 r) (h2 : Ra H c2 A) (h3 : Ou H cq q) (hd : Hd r A) (hS : q.save.foldl foldRec (kof r) = kof A) (hql : q.save.length ≤ 4398046511104) :
    Runs Try.prog 47 [.agg c1.toArray, .agg c2.toArray, .agg cq.toArray] w fun v w' => v = .bool true ∧ Hp w0 w' H M := by
  obtain ⟨x1, x2, x3, x4, x5, x6, x7, rfl, hx⟩ := h1
  obtain ⟨y1, y2, y3, y4, y5, y6, y7, rfl, hy⟩ := h2
  obtain ⟨z1, z2, z3, rfl, hz, _⟩ := h3
  obtain ⟨d1, d2⟩ := hd
  apply r47
  refine wp_newH hp fun p1 w1 H1 hp1 hle1 f1 => wp_newH hp1 fun p2 w2 H2 hp2 hle2 f2 => wp_newH hp2 fun p3 w3 H3 hp3 hle3 f3 => ?_
  replace f1 := hle3 _ _ (hle2 _ _ f1)
  replace f2 := hle3 _ _ f2
  have hle := (hle1.trans hle2).trans hle3
  have go : ∀ {w' : World}, Hp w0 w' H3 M → (hardV p1 p2 p3).wp Try.prog (fun v w' => v = .bool true ∧ Hp w0 w' H M) (fun _ _ _ => False) w' := fun hp' => hardV_wp hp' hle f1 f2 rfl rfl f3 (hz.mono hle (Rc.mono hle)) hql hS
  (refine wp_load (hp3.loadH f2 (by simp)) ?_; (repeat apply Exists.intro); refine ⟨rfl, ?_⟩)
  (refine wp_load (hp3.loadH f1 (by simp)) ?_; (repeat apply Exists.intro); refine ⟨rfl, ?_⟩)
  refine wp_bif (fun h => ?_) fun _ => ?_
  · have : A.term < r.term := of_decide_eq_true h
    omega
  (refine wp_load (hp3.loadH f2 (by simp)) ?_; (repeat apply Exists.intro); refine ⟨rfl, ?_⟩)
  (refine wp_load (hp3.loadH f1 (by simp)) ?_; (repeat apply Exists.intro); refine ⟨rfl, ?_⟩)
  refine wp_bif (fun h4 => ?_) fun _ => go hp3
  (refine wp_load (hp3.loadH f1 (by simp)) ?_; (repeat apply Exists.intro); refine ⟨rfl, ?_⟩)
  refine wp_bif (fun h5 => ?_) fun _ => go hp3
  (refine wp_load (hp3.loadH f2 (by simp)) ?_; (repeat apply Exists.intro); refine ⟨rfl, ?_⟩)
  (refine wp_load (hp3.loadH f1 (by simp)) ?_; (repeat apply Exists.intro); refine ⟨rfl, ?_⟩)
  have e4 : A.term = r.term := by simpa using h4
  have e5 : r.vote ≠ 0 := by simpa using h5
  refine wp_bif (fun h6 => ?_) fun _ => go hp3
  rw [d2 e4 e5] at h6
  simp at h6

set_option maxHeartbeats 4000000 in
theorem raftTerms_runs {r : Raft} {m : Msg} {cs cm : List Value} (hp : Hp w0 w H M) (hr : Ra H cs r) (ho : RaOk r) (hm : Ms H cm m) (mo : m.Ok) :
    Runs Try.prog 10 [.agg cs.toArray, .agg cm.toArray] w fun v w' => v = .bool true ∧ Hp w0 w' H M := by
  have hm0 := hm
  obtain ⟨ss, ls, vs, ns, ms, ak, rs, rfl, hr⟩ := hr
  obtain ⟨a1, n1, c1, a2, n2, c2, rfl, he, hs⟩ := hm
  apply r10
  refine pre_wp hp hr ho hm0 mo rfl fun p1 p2 w1 H1 hp1 hle1 f1 f2 may lm hra hma => ?_
  have kg := ks_got (m := m) lm may.s0 may.c0
  have kt := ks_timeout (r := r)
  have mg := kg.many
  have mt := kt.many
  have fg := kg.fold
  have ft := kt.fold
  have dg := hd_got (r := r) (m := m)
  have dt := hd_timeout (r := r)
  (refine wp_load (hp1.loadH f1 (by simp [cells17])) ?_; (repeat apply Exists.intro); refine ⟨rfl, ?_⟩)
  (refine wp_load (hp1.loadH f2 (by simp)) ?_; (repeat apply Exists.intro); refine ⟨rfl, ?_⟩)
  refine wp_call ((got_runs hp1 hra hma may.fit lm).mono fun v w' h => top_give h) fun v3 w3 h3 => ?_
  obtain ⟨cs3, cq3, H3, rfl, hr3, hq3, hp3, hle3⟩ := h3
  have hr3' := hr3
  have hq3' := hq3
  obtain ⟨y1, y2, y3, y4, y5, y6, y7, rfl, hy⟩ := hr3
  obtain ⟨z1, z2, z3, rfl, hz1, hz2, hz3⟩ := hq3
  ((repeat apply Exists.intro); refine ⟨rfl, ?_⟩)
  refine wp_keep2 hp3 (by rfl) (by rfl) (by simp [Value.oneCell']) (by simp [Value.oneCell']) fun p5 p6 w5 H5 hp5 hle5 f5 f6 => ?_
  have l15 := hle3.trans hle5
  (refine wp_load (hp5.loadH (l15 _ _ f1) (by simp [cells17])) ?_; (repeat apply Exists.intro); refine ⟨rfl, ?_⟩)
  refine wp_call ((timeout_runs hp5 (hra.mono l15) may.fit).mono fun v w' h => top_give h) fun v7 w7 h7 => ?_
  obtain ⟨cs7, cq7, H7, rfl, hr7, hq7, hp7, hle7⟩ := h7
  have hr7' := hr7
  have hq7' := hq7
  obtain ⟨b1, b2, b3, b4, b5, b6, b7, rfl, hb⟩ := hr7
  obtain ⟨d1, d2, d3, rfl, hd1, hd2, hd3⟩ := hq7
  ((repeat apply Exists.intro); refine ⟨rfl, ?_⟩)
  refine wp_keep2 hp7 (by rfl) (by rfl) (by simp [Value.oneCell']) (by simp [Value.oneCell']) fun p9 p10 w9 H9 hp9 hle9 f9 f10 => ?_
  have l59 := hle7.trans hle9
  have l19 := l15.trans l59
  (refine wp_load (hp9.loadH (l19 _ _ f1) (by simp [cells17])) ?_; (repeat apply Exists.intro); refine ⟨rfl, ?_⟩)
  (refine wp_load (hp9.loadH (l59 _ _ f5) (by simp)) ?_; (repeat apply Exists.intro); refine ⟨rfl, ?_⟩)
  (refine wp_load (hp9.loadH (l59 _ _ f6) (by simp)) ?_; (repeat apply Exists.intro); refine ⟨rfl, ?_⟩)
  refine wp_call (hard_law hp9 (hra.mono l19) (hr3'.mono (hle5.trans l59)) (hq3'.mono (hle5.trans l59)) dg fg (by omega)) fun v10 w10 h10 => ?_
  obtain ⟨rfl, hp10⟩ := h10
  ((repeat apply Exists.intro); refine ⟨rfl, ?_⟩)
  refine wp_bif (fun _ => ?_) fun h => by cases h
  (refine wp_load (hp10.loadH (l19 _ _ f1) (by simp [cells17])) ?_; (repeat apply Exists.intro); refine ⟨rfl, ?_⟩)
  (refine wp_load (hp10.loadH f9 (by simp)) ?_; (repeat apply Exists.intro); refine ⟨rfl, ?_⟩)
  (refine wp_load (hp10.loadH f10 (by simp)) ?_; (repeat apply Exists.intro); refine ⟨rfl, ?_⟩)
  refine wp_call (hard_law hp10 (hra.mono l19) (hr7'.mono hle9) (hq7'.mono hle9) dt ft (by omega)) fun v11 w11 h11 => ?_
  obtain ⟨rfl, hp11⟩ := h11
  ((repeat apply Exists.intro); refine ⟨rfl, ?_⟩)
  exact ⟨rfl, hp11.lessH (hle1.trans l19)⟩
end
end Go.Proofs.Ytnbfffmdplcajaa
