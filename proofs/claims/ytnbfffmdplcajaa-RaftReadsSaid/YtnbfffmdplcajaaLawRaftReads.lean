/- The walk of RaftReads: it returns true. -/
import Derived.Test.YtnbfffmdplcajaaPre
import Derived.Test.YtnbfffmdplcajaaMost
import Derived.Test.YtnbfffmdplcajaaTreeW20
namespace Go.Proofs.Ytnbfffmdplcajaa
open Go.Vc Go.Vc.Rf

theorem filter_both {α : Type} (p : α → Bool) : ∀ l : List α, (l.filter fun x => !p x).length + (l.filter p).length = l.length
  | [] => rfl
  | x :: l => by
    have := filter_both p l
    simp only [List.filter_cons]
    cases p x <;> simp <;> omega

theorem done_acks {x : Sp} {m : Msg} (h2 : x.r.role = 2) (ht : m.term = x.r.term) : (x.done m).r.acks.length = x.r.acks.length ∧ ((x.done m).q.ready.length ≤ x.q.ready.length + x.r.reads.length) := by
  have hq : ∀ (s : Sp) (to : Int), (s.sends to).q.ready = s.q.ready := fun s to => by
    unfold Sp.sends; split <;> rfl
  have hl : ∀ s : Sp, s.answers.q.ready.length ≤ s.q.ready.length + s.r.reads.length := fun s => by
    show (s.q.ready ++ s.r.reads.filter (readOk s.r)).length ≤ _
    rw [List.length_append]
    have := List.length_filter_le (readOk s.r) s.r.reads
    omega
  unfold Sp.done
  rw [if_neg (by rintro (h | h); exact h h2; exact h ht)]
  dsimp only
  by_cases hok : m.ok = true
  · simp only [hok, if_true]
    split
    · refine ⟨by rw [answers_fields, sends_r]; simp [Sp.counts, Sp.commit], Nat.le_trans (hl _) ?_⟩
      rw [hq, sends_r]; exact Nat.le_refl _
    · exact ⟨by rw [answers_fields]; simp [Sp.counts, Sp.commit], hl _⟩
  · simp only [hok, if_false, Bool.false_eq_true]
    split
    · refine ⟨by rw [answers_fields, sends_r]; simp, Nat.le_trans (hl _) ?_⟩
      rw [hq, sends_r]; exact Nat.le_refl _
    · exact ⟨by rw [answers_fields]; simp, hl _⟩

theorem ask_reads {r : Raft} {id : Int} (h : (Rf.ask r id).2 = true) :
    (Rf.ask r id).1.r.role = 2 ∧ (Rf.ask r id).1.r.round = r.round + 1 ∧ (Rf.ask r id).1.r.reads.length + (Rf.ask r id).1.q.ready.length = r.reads.length + 1 := by
  unfold Rf.ask at *
  split
  · rename_i hc
    have h1 : ∀ (l : List Int) (z : Sp), (l.foldl Sp.sends z).q.ready = z.q.ready := by
      intro l
      induction l with
      | nil => intro z; rfl
      | cons t l ih =>
        intro z
        have : (z.sends t).q.ready = z.q.ready := by unfold Sp.sends; split <;> rfl
        exact (ih (z.sends t)).trans this
    have hq : ∀ x : Sp, x.q.ready = [] → x.calls.r.reads.length + x.calls.q.ready.length = x.r.reads.length := by
      intro x hx
      have : x.calls.q.ready = ((others x.r).foldl Sp.sends (x.round (x.r.round + 1))).q.ready ++ List.filter (readOk ((others x.r).foldl Sp.sends (x.round (x.r.round + 1))).r) ((others x.r).foldl Sp.sends (x.round (x.r.round + 1))).r.reads := rfl
      rw [this, h1, foldl_sends_r, calls_r]
      show (x.r.reads.filter fun y => !readOk { x.r with round := x.r.round + 1 } y).length + (x.q.ready ++ List.filter (readOk { x.r with round := x.r.round + 1 }) x.r.reads).length = _
      rw [hx, List.nil_append, filter_both]
    refine ⟨?_, ?_, ?_⟩
    · show (Sp.calls _).r.role = 2
      rw [calls_r]; exact hc.1
    · show (Sp.calls _).r.round = _
      rw [calls_r]; rfl
    · have := hq (Rf.start { r with reads := r.reads ++ [⟨id, r.commit, r.round + 1⟩] }) rfl
      show (Sp.calls _).r.reads.length + (Sp.calls _).q.ready.length = _
      rw [this]
      simp [Rf.start]
  · rename_i hc
    rw [if_neg hc] at h
    cases h

def readsV (p110 p111 : Nat) : VC :=
 .loop 0 [.int .i64 0] (fun v198 =>
  .exI fun i199 =>
  .isL v198 [.int .i64 i199] <|
  .load ⟨p111, 2, none⟩ 1 fun v200 =>
  .exS fun a201 n201 c201 =>
  .isL v200 [.slice a201 n201 c201] <|
  bif (decide (i199 < (↑n201 : Int))) then
   (.loop 1 [.int .i64 1, .int .i64 0] (fun v202 =>
    .exI fun i203 =>
    .exI fun i204 =>
    .isL v202 [.int .i64 i203, .int .i64 i204] <|
    .load ⟨p110, 14, none⟩ 1 fun v205 =>
    .exS fun a206 n206 c206 =>
    .isL v205 [.slice a206 n206 c206] <|
    bif (decide (i204 < (↑n206 : Int))) then
     (.draw <|
     .load ⟨p110, 2, none⟩ 1 fun v207 =>
     .exI fun i208 =>
     .isL v207 [.int .i64 i208] <|
     bif (i204 != IntKind.i64.wrap (i208 - 1)) then
      (.load ⟨p110, 14, none⟩ 1 fun v209 =>
      .exS fun a210 n210 c210 =>
      .isL v209 [.slice a210 n210 c210] <|
      .some a210 fun x211 =>
      .need ((0 : Int) ≤ i204 ∧ i204 < (↑n210 : Int)) <|
      .load (x211.add (i204.toNat * 1)) 1 fun v212 =>
      .exI fun i213 =>
      .isL v212 [.int .u64 i213] <|
      .load ⟨p111, 2, none⟩ 1 fun v214 =>
      .exS fun a215 n215 c215 =>
      .isL v214 [.slice a215 n215 c215] <|
      .some a215 fun x216 =>
      .need ((0 : Int) ≤ i199 ∧ i199 < (↑n215 : Int)) <|
      .load ((x216.add (i199.toNat * 3)).add 2) 1 fun v217 =>
      .exI fun i218 =>
      .isL v217 [.int .u64 i218] <|
      bif (decide (i213 ≥ i218)) then
       (.again 1 [.int .i64 (IntKind.i64.wrap (i203 + 1)), .int .i64 (IntKind.i64.wrap (i204 + 1))])
      else
      (.again 1 [.int .i64 i203, .int .i64 (IntKind.i64.wrap (i204 + 1))]))
     else
     (.again 1 [.int .i64 i203, .int .i64 (IntKind.i64.wrap (i204 + 1))]))
    else
    (.draw <|
    .load ⟨p110, 9, none⟩ 1 fun v219 =>
    .exI fun i220 =>
    .isL v219 [.int .i64 i220] <|
    bif (i220 != 2) then
     (.ret (.bool false))
    else
    (.load ⟨p110, 3, none⟩ 1 fun v221 =>
    .exI fun i222 =>
    .isL v221 [.int .i64 i222] <|
    bif (decide (IntKind.i64.wrap (2 * i203) ≤ i222)) then
     (.load ⟨p111, 2, none⟩ 1 fun v223 =>
     .exS fun a224 n224 c224 =>
     .isL v223 [.slice a224 n224 c224] <|
     .some a224 fun x225 =>
     .need ((0 : Int) ≤ i199 ∧ i199 < (↑n224 : Int)) <|
     .load ((x225.add (i199.toNat * 3)).add 2) 1 fun v226 =>
     .exI fun i227 =>
     .isL v226 [.int .u64 i227] <|
     .load ⟨p110, 15, none⟩ 1 fun v228 =>
     .exI fun i229 =>
     .isL v228 [.int .u64 i229] <|
     bif (decide (i227 ≤ i229)) then
      (.ret (.bool false))
     else
     (.again 0 [.int .i64 (IntKind.i64.wrap (i199 + 1))]))
    else
    (.again 0 [.int .i64 (IntKind.i64.wrap (i199 + 1))])))))
  else
  (.ret (.bool true)))

section
variable {w0 w : World} {H M U : Mp}

set_option maxHeartbeats 4000000 in
theorem readsV_wp {H0 : Mp} {P5 P6 : Nat} {A : Raft} {q : List Rd} {id n : Int} {cs : List Value} {s1 s2 s3 : Sl3} (hp : Hp w0 w H M) (h0 : H0.le H) (f5 : H P5 = some cs) {x1 x2 x3 x4 x5 x6 x7 : Sl3} (hcs : cs = cells17 A x1 x2 x3 x4 x5 x6 x7) (hy : RaS H A x1 x2 x3 x4 x5 x6 x7)
    (f6 : H P6 = some [.slice s1.a s1.n s1.c, .slice s2.a s2.n s2.c, .slice s3.a s3.n s3.c]) (hq : Sl H Re s3.a s3.n s3.c q) (hql : q.length ≤ 4398046511104)
    (hA : q = [] ∨ (A.role = 2 ∧ A.id = id ∧ A.n = n ∧ ∀ x ∈ q, x.round ≤ A.round → 2 * (1 + (cnt id A.acks x.round n.toNat : Int)) > n)) (h1 : 1 ≤ id) (h2 : id ≤ n) (h7 : n ≤ 7) (hak : q = [] ∨ A.acks.length = n.toNat) {env : Nat → List Value → World → Prop} :
    (readsV P5 P6).wp Try.prog (fun v w' => v = .bool true ∧ Hp w0 w' H0 M) env w := by
  subst hcs
  have hqn := hq.1
  have han := hy.acks.1
  refine ⟨fun vs w' => ∃ j : Nat, vs = [.int .i64 j] ∧ j ≤ q.length ∧ Hp w0 w' H M, fun vs _ => match vs with | [.int _ k] => q.length - k.toNat | _ => 0, ⟨0, rfl, Nat.zero_le _, hp⟩, ?_⟩
  rintro vs w1 ⟨i, rfl, hi, hp1⟩
  ((repeat apply Exists.intro); refine ⟨rfl, ?_⟩)
  (refine wp_load (hp1.loadH f6 (by simp)) ?_; (repeat apply Exists.intro); refine ⟨rfl, ?_⟩)
  refine wp_bif (fun h => ?_) fun _ => ⟨rfl, hp1.lessH h0⟩
  have hil : i < q.length := by
    have : (i : Int) < s3.n := of_decide_eq_true h
    omega
  have hne : q ≠ [] := fun e => by rw [e] at hil; simp at hil
  obtain ⟨r1, r2, r3, r4⟩ := hA.resolve_left hne
  have hac := hak.resolve_left hne
  have hx := r4 q[i] (List.getElem_mem hil)
  have iwrap : IntKind.i64.wrap ((i : Int) + 1) = ((i + 1 : Nat) : Int) := by rw [wrap_i64 (by omega) (by omega)]; rfl
  have agI : ∀ {w' : World}, Hp w0 w' H M → (∃ j2 : Nat, [Value.int .i64 (IntKind.i64.wrap ((i : Int) + 1))] = [.int .i64 j2] ∧ j2 ≤ q.length ∧ Hp w0 w' H M) ∧ q.length - (IntKind.i64.wrap ((i : Int) + 1)).toNat < q.length - (i : Int).toNat := fun h =>
    ⟨⟨i + 1, by rw [iwrap], hil, h⟩, by rw [iwrap]; omega⟩
  refine ⟨fun vs w' => ∃ j : Nat, vs = [.int .i64 (1 + (cnt id A.acks q[i].round j : Nat) : Int), .int .i64 j] ∧ j ≤ A.acks.length ∧ Hp w0 w' H M, fun vs _ => match vs with | [_, .int _ k] => 9 - k.toNat | _ => 0, ⟨0, rfl, Nat.zero_le _, hp1⟩, ?_⟩
  rintro vs w7 ⟨j, rfl, hj, hp7⟩
  have ewrap : IntKind.i64.wrap ((j : Int) + 1) = ((j + 1 : Nat) : Int) := by rw [wrap_i64 (by omega) (by omega)]; rfl
  have hcl := cnt_le id A.acks q[i].round j
  have hsc := cnt_succ id A.acks q[i].round j
  ((repeat apply Exists.intro); refine ⟨rfl, ?_⟩)
  (refine wp_load (hp7.loadH f5 (by simp [cells17])) ?_; (repeat apply Exists.intro); refine ⟨rfl, ?_⟩)
  refine wp_bif (fun h => ?_) fun h => ?_
  · have hjl : j < A.acks.length := by
      have : (j : Int) < x6.n := of_decide_eq_true h
      omega
    have again : ∀ {w' : World} {k : Int}, Hp w0 w' H M → k = 1 + (cnt id A.acks q[i].round (j + 1) : Nat) → (∃ j2 : Nat, [Value.int .i64 k, Value.int .i64 (IntKind.i64.wrap ((j : Int) + 1))] = [.int .i64 (1 + (cnt id A.acks q[i].round j2 : Nat) : Int), .int .i64 j2] ∧ j2 ≤ A.acks.length ∧ Hp w0 w' H M) ∧ 9 - (IntKind.i64.wrap ((j : Int) + 1)).toNat < 9 - (j : Int).toNat := fun h e =>
      ⟨⟨j + 1, by rw [ewrap, e], hjl, h⟩, by rw [ewrap]; omega⟩
    have hp8 := hp7.drew
    (refine wp_load (hp8.loadH f5 (by simp [cells17])) ?_; (repeat apply Exists.intro); refine ⟨rfl, ?_⟩)
    have ei : IntKind.i64.wrap (A.id - 1) = id - 1 := by rw [r2]; exact wrap_i64 (by omega) (by omega)
    rw [ei]
    refine wp_bif (fun h9 => ?_) fun h9 => ?_
    · (refine wp_load (hp8.loadH f5 (by simp [cells17])) ?_; (repeat apply Exists.intro); refine ⟨rfl, ?_⟩)
      refine wp_idx Nu.len (by omega) hp8 hp8.le_uni hy.acks 0 1 (by omega) (by omega) (by omega) fun cs hcs => ?_
      cases hcs
      ((repeat apply Exists.intro); refine ⟨rfl, ?_⟩)
      (refine wp_load (hp8.loadH f6 (by simp)) ?_; (repeat apply Exists.intro); refine ⟨rfl, ?_⟩)
      obtain ⟨b, o, cs, ha, hcs, hat⟩ := Sl.elem Re.len hq hp8 (List.getElem?_eq_getElem hil) (by omega)
      cases hcs
      have hat1 := hat _ _ hp8 2 1 (by omega)
      refine ⟨_, ha, ⟨by omega, by omega⟩, ?_⟩
      simp only [add_mk, Int.toNat_natCast]
      (refine wp_load (hat1) ?_; (repeat apply Exists.intro); refine ⟨rfl, ?_⟩)
      change VC.wp _ _ (bif decide (nth A.acks j ≥ q[i].round) then _ else _) _ _
      refine wp_bif (fun h10 => ?_) fun h10 => ?_
      · have g10 : q[i].round ≤ nth A.acks j := of_decide_eq_true h10
        refine again hp8 ?_
        rw [wrap_i64 (by omega) (by omega), hsc, if_pos (by simp only [h9, Bool.true_and]; exact decide_eq_true g10)]
        omega
      · have g10 : ¬ q[i].round ≤ nth A.acks j := of_decide_eq_false h10
        refine again hp8 ?_
        rw [hsc, if_neg (by simp only [h9, Bool.true_and]; simpa using g10)]
        omega
    · refine again hp8 ?_
      rw [hsc, if_neg (by simp only [h9, Bool.false_and]; simp)]
      omega
  · have hje : j = A.acks.length := by
      have : ¬ (j : Int) < x6.n := of_decide_eq_false h
      omega
    subst hje
    rw [hac] at hcl ⊢
    have hp8 := hp7.drew
    refine wp_draw ?_
    (refine wp_load (hp8.loadH f5 (by simp [cells17])) ?_; (repeat apply Exists.intro); refine ⟨rfl, ?_⟩)
    refine wp_bif (fun h => by rw [r1] at h; simp at h) fun _ => ?_
    (refine wp_load (hp8.loadH f5 (by simp [cells17])) ?_; (repeat apply Exists.intro); refine ⟨rfl, ?_⟩)
    rw [wrap_i64 (by omega) (by omega), r3]
    refine wp_bif (fun h11 => ?_) fun _ => agI hp8
    have g11 : 2 * (1 + (cnt id A.acks q[i].round n.toNat : Int)) ≤ n := of_decide_eq_true h11
    (refine wp_load (hp8.loadH f6 (by simp)) ?_; (repeat apply Exists.intro); refine ⟨rfl, ?_⟩)
    obtain ⟨b, o, cs, ha, hcs, hat⟩ := Sl.elem Re.len hq hp8 (List.getElem?_eq_getElem hil) (by omega)
    cases hcs
    have hat1 := hat _ _ hp8 2 1 (by omega)
    refine ⟨_, ha, ⟨by omega, by omega⟩, ?_⟩
    simp only [add_mk, Int.toNat_natCast]
    (refine wp_load (hat1) ?_; (repeat apply Exists.intro); refine ⟨rfl, ?_⟩)
    (refine wp_load (hp8.loadH f5 (by simp [cells17])) ?_; (repeat apply Exists.intro); refine ⟨rfl, ?_⟩)
    refine wp_bif (fun h12 => ?_) fun _ => agI hp8
    have g12 : q[i].round ≤ A.round := of_decide_eq_true h12
    have := hx g12
    omega

set_option maxHeartbeats 4000000 in
theorem raftReads_runs {r : Raft} {m : Msg} {id : Int} {cs cm : List Value} (hp : Hp w0 w H M) (hr : Ra H cs r) (ho : RaOk r) (hm : Ms H cm m) (mo : m.Ok) (_ : 0 ≤ id) (_ : id ≤ 18446744073709551615) :
    Runs Try.prog 20 [.agg cs.toArray, .agg cm.toArray, .int .u64 id] w fun v w' => v = .bool true ∧ Hp w0 w' H M := by
  have hm0 := hm
  obtain ⟨ss, ls, vs, ns, ms, ak, rs, rfl, hr⟩ := hr
  obtain ⟨a1, n1, c1, a2, n2, c2, rfl, he, hs⟩ := hm
  apply r20
  refine pre_wp hp hr ho hm0 mo rfl fun p1 p2 w1 H1 hp1 hle1 f1 f2 may lm hra hma => ?_
  have hready := got_ready (m := m) may
  have hreads := may.reads
  (refine wp_load (hp1.loadH f1 (by simp [cells17])) ?_; (repeat apply Exists.intro); refine ⟨rfl, ?_⟩)
  (refine wp_load (hp1.loadH f2 (by simp)) ?_; (repeat apply Exists.intro); refine ⟨rfl, ?_⟩)
  refine wp_call ((got_runs hp1 hra hma may.fit lm).mono fun v w' h => top_give h) fun v3 w3 h3 => ?_
  obtain ⟨cs3, cq3, H3, rfl, hr3, hq3, hp3, hle3⟩ := h3
  -- how many are answered, and how many nodes there are
  have hlen : (got r m).q.ready.length ≤ 4398046511104 ∧ ((got r m).q.ready = [] ∨ (got r m).r.acks.length = r.n.toNat) := by
    by_cases h2 : r.role = 2
    · rcases got_kinds (m := m) h2 with ⟨h, _⟩ | ⟨h, ht⟩
      · rw [h]; exact ⟨by simp, .inl rfl⟩
      · obtain ⟨e1, e2⟩ := done_acks (x := Rf.start r) h2 ht
        rw [h]
        have := (may.lead h2).acks
        refine ⟨Nat.le_trans e2 ?_, .inr (e1.trans ?_)⟩
        · show 0 + r.reads.length ≤ _
          omega
        · show r.acks.length = _
          omega
    · rcases hready with h | ⟨h, _⟩
      · rw [h]; exact ⟨by simp, .inl rfl⟩
      · by_cases e : (got r m).q.ready = []
        · rw [e]; exact ⟨by simp, .inl rfl⟩
        · exact absurd (got_ready_role may h2) e
  obtain ⟨y1, y2, y3, y4, y5, y6, y7, rfl, hy⟩ := hr3
  obtain ⟨z1, z2, z3, rfl, hz1, hz2, hz3⟩ := hq3
  generalize (got r m).r = A at *
  generalize (got r m).q.ready = Q at *
  ((repeat apply Exists.intro); refine ⟨rfl, ?_⟩)
  refine wp_keep2 hp3 (by rfl) (by rfl) (by simp [Value.oneCell']) (by simp [Value.oneCell']) fun p5 p6 w5 H5 hp5 hle5 f5 f6 => ?_
  have l15 := hle3.trans hle5
  have g1' := l15 _ _ f1
  have hfin := hle1.trans l15
  have hask := ask_reads (r := r) (id := id)
  (refine wp_load (hp5.loadH g1' (by simp [cells17])) ?_; (repeat apply Exists.intro); refine ⟨rfl, ?_⟩)
  refine wp_call ((ask_runs (id := id) hp5 (hra.mono l15) may.fit).mono fun v w' h => top3_give h) fun v7 w7 h7 => ?_
  obtain ⟨cs7, cq7, H7, rfl, hr7, hq7, hp7, hle7⟩ := h7
  obtain ⟨b1, b2, b3, b4, b5, b6, b7, rfl, hb⟩ := hr7
  obtain ⟨d1, d2, d3, rfl, hd1, hd2, hd3⟩ := hq7
  generalize (Rf.ask r id).2 = isB at *
  generalize (Rf.ask r id).1 = X at *
  ((repeat apply Exists.intro); refine ⟨rfl, ?_⟩)
  refine wp_keep2 hp7 (by rfl) (by rfl) (by simp [Value.oneCell']) (by simp [Value.oneCell']) fun p9 p10 w9 H9 hp9 hle9 f9 f10 => ?_
  have l59 := hle7.trans hle9
  have loop : ∀ {w' : World}, Hp w0 w' H9 M → (readsV p5 p6).wp Try.prog (fun v w' => v = .bool true ∧ Hp w0 w' H M) (fun _ _ _ => False) w' := fun hp' =>
    readsV_wp hp' (hfin.trans l59) (l59 _ _ f5) rfl (hy.mono (hle5.trans l59)) (l59 _ _ f6) (hz3.mono (hle5.trans l59) fun _ _ h => h) hlen.1 hready may.id1 may.idn may.n7 hlen.2
  refine wp_bif (fun his => ?_) fun _ => loop hp9
  obtain ⟨k1, k2, k3⟩ := hask his
  have nb := hb.reads.1
  have nd := hd3.1
  have nr := hr.reads.1
  (refine wp_load (hp9.loadH f9 (by simp)) ?_; (repeat apply Exists.intro); refine ⟨rfl, ?_⟩)
  refine wp_bif (fun h => by rw [k1] at h; simp at h) fun _ => ?_
  (refine wp_load (hp9.loadH f9 (by simp)) ?_; (repeat apply Exists.intro); refine ⟨rfl, ?_⟩)
  (refine wp_load (hp9.loadH f10 (by simp)) ?_; (repeat apply Exists.intro); refine ⟨rfl, ?_⟩)
  (refine wp_load (hp9.loadH (l59 _ _ g1') (by simp [cells17])) ?_; (repeat apply Exists.intro); refine ⟨rfl, ?_⟩)
  have ew : IntKind.i64.wrap ((b7.n : Int) + d3.n) = IntKind.i64.wrap ((rs.n : Int) + 1) := by
    congr 1
    omega
  refine wp_bif (fun h => by rw [ew] at h; simp at h) fun _ => ?_
  (refine wp_load (hp9.loadH f9 (by simp)) ?_; (repeat apply Exists.intro); refine ⟨rfl, ?_⟩)
  (refine wp_load (hp9.loadH (l59 _ _ g1') (by simp [cells17])) ?_; (repeat apply Exists.intro); refine ⟨rfl, ?_⟩)
  have q0 := may.q0
  have q1 := may.q1
  refine wp_bif (fun h => ?_) fun _ => loop hp9
  rw [k2, wrap_u64 (by omega) (by omega)] at h
  simp at h
end
end Go.Proofs.Ytnbfffmdplcajaa
