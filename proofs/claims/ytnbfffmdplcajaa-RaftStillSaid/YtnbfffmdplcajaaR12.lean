/- Contracts: appends, snaps, done. -/
import Derived.Test.YtnbfffmdplcajaaR11
namespace Go.Vc.Rf
/-- A letter of modest size. -/
structure Lm (m : Msg) : Prop where
  index0 : 0 ≤ m.index
  index : m.index ≤ 2199023255552
  term0 : 0 ≤ m.term
  term : m.term ≤ 1125899906842624
  round0 : 0 ≤ m.round
  round : m.round ≤ 1125899906842624
  commit0 : 0 ≤ m.commit
  commit : m.commit ≤ 2199023255552
  snap0 : 0 ≤ m.snap.idx
  snap : m.snap.idx ≤ 2199023255552
  size : m.entries.length ≤ 20
theorem takesAll_snoc {e : Ent} : ∀ (l : List Ent) (s : Sp) (i : Int), s.takesAll i (l ++ [e]) = (s.takesAll i l).takes (i + l.length) e
  | [], s, i => by simp [Sp.takesAll]
  | d :: l, s, i => by
    show (s.takes i d).takesAll (i + 1) (l ++ [e]) = _
    rw [takesAll_snoc l]
    show _ = ((s.takes i d).takesAll (i + 1) l).takes (i + ((l.length + 1 : Nat) : Int)) e
    congr 1
    omega
theorem Bd.takes {k : Nat} {x : Sp} {i : Int} {e : Ent} (h : Bd k x) : Bd (k + 2) (x.takes i e) := by
  have h' := h.mono (show k ≤ k + 2 by omega)
  have h1 := h.last
  have h2 := h.log
  have h3 := h.save
  unfold Sp.takes
  split
  · exact h'
  split
  · exact h'
  split
  · refine ⟨h'.idx, ?_, h'.term0, h'.term, h'.round0, h'.round, h'.mat, h'.next, ?_, h'.reads, h'.n, ?_, h'.send, h'.ready⟩
    · simp [Sp.save, Sp.log, lastI] at h1 ⊢; omega
    · simp [Sp.save, Sp.log]; omega
    · simp [Sp.save, Sp.log]; omega
  · refine ⟨h'.idx, ?_, h'.term0, h'.term, h'.round0, h'.round, h'.mat, h'.next, ?_, h'.reads, h'.n, ?_, h'.send, h'.ready⟩
    · simp [Sp.save, Sp.log, lastI] at h1 ⊢; omega
    · simp [Sp.save, Sp.log]; omega
    · simp [Sp.save, Sp.log]; omega
theorem Bd.takesAll : ∀ (l : List Ent) {k : Nat} {x : Sp} {i : Int}, Bd k x → Bd (k + 2 * l.length) (x.takesAll i l)
  | [], _, _, _, h => h
  | e :: l, _, _, _, h => (Bd.takesAll l h.takes).mono (by simp; omega)
theorem led_true {x : Sp} {m : Msg} (h : (x.led m).2 = true) : (x.led m).1 = ({ x with r := { x.r with role := 0, lead := m.frm } } : Sp).bare := by
  unfold Sp.led at *
  split
  · rename_i h2; rw [if_pos h2] at h; cases h
  · rfl
theorem Bd.led {k : Nat} {x : Sp} {m : Msg} (h : Bd k x) (h2 : (x.led m).2 = true) : Bd k (x.led m).1 := by
  rw [led_true h2]
  exact Bd.bare (x := { x with r := { x.r with role := 0, lead := m.frm } }) ⟨h.idx, h.last, h.term0, h.term, h.round0, h.round, h.mat, h.next, h.log, h.reads, h.n, h.save, h.send, h.ready⟩
theorem Bd.shift {k : Nat} {x : Sp} {s : Snp} (h : Bd k x) (h0 : 0 ≤ s.idx) (h1 : s.idx ≤ 2199023255552) : Bd k (x.shift s) := by
  have h2 := h.log
  have h3 : (x.shift s).r.log.length ≤ x.r.log.length := by
    unfold Sp.shift
    show (if _ then _ else _ : List Ent).length ≤ _
    split
    · rw [List.length_drop]; omega
    · simp
  refine ⟨h0, ?_, h.term0, h.term, h.round0, h.round, h.mat, h.next, by omega, h.reads, h.n, h.save, h.send, h.ready⟩
  unfold lastI
  show s.idx + _ ≤ _
  omega
end Go.Vc.Rf
namespace Go.Proofs.Ytnbfffmdplcajaa
open Go.Vc Go.Vc.Rf

section
variable {w0 w : World} {H M U : Mp} {s : Nat} {o : List Nat} {x : Sp} {k : Nat} {R : Value → World → Prop} {env : Nat → List Value → World → Prop}

def appendsV (s p1 : Nat) : VC :=
 .load ⟨p1, 6, none⟩ 1 fun v121 =>
 .exS fun a122 n122 c122 =>
 .isL v121 [.slice a122 n122 c122] <|
 .loop 0 [.int .i64 0] (fun v123 =>
  .exI fun i124 =>
  .isL v123 [.int .i64 i124] <|
  bif (decide (i124 < (↑n122 : Int))) then
   (.some a122 fun x125 =>
   .need ((0 : Int) ≤ i124 ∧ i124 < (↑n122 : Int)) <|
   .load (x125.add (i124.toNat * 2)) 2 fun v126 =>
   .exI fun i127 =>
   .exS fun a128 n128 c128 =>
   .isL v126 [.int .u64 i127, .slice a128 n128 c128] <|
   .new 57 [.int .u64 0, .slice none 0 0] fun p129 =>
   .store ⟨p129, 0, none⟩ [.int .u64 i127, .slice a128 n128 c128] <|
   .load ⟨p1, 4, none⟩ 1 fun v130 =>
   .exI fun i131 =>
   .isL v130 [.int .u64 i131] <|
   .load ⟨p129, 0, none⟩ 2 fun v132 =>
   .exI fun i133 =>
   .exS fun a134 n134 c134 =>
   .isL v132 [.int .u64 i133, .slice a134 n134 c134] <|
   .call 107 ([.pointer (some ⟨s, 0, none⟩), .int .u64 (IntKind.u64.wrap (IntKind.u64.wrap (i131 + 1) + IntKind.u64.wrap i124)), .agg #[.int .u64 i133, .slice a134 n134 c134]]) fun v135 =>
   .isL [v135] [.tuple #[]] <|
   .again 0 [.int .i64 (IntKind.i64.wrap (i124 + 1))])
  else
  (.load ⟨p1, 4, none⟩ 1 fun v136 =>
  .exI fun i137 =>
  .isL v136 [.int .u64 i137] <|
  .load ⟨p1, 6, none⟩ 1 fun v138 =>
  .exS fun a139 n139 c139 =>
  .isL v138 [.slice a139 n139 c139] <|
  .draw <|
  .load ⟨s, 8, none⟩ 1 fun v140 =>
  .exI fun i141 =>
  .isL v140 [.int .u64 i141] <|
  .load ⟨p1, 7, none⟩ 1 fun v142 =>
  .exI fun i143 =>
  .isL v142 [.int .u64 i143] <|
  .store ⟨s, 8, none⟩ [.int .u64 (if (if IntKind.u64.wrap (i137 + IntKind.u64.wrap (↑n139 : Int)) < i143 then IntKind.u64.wrap (i137 + IntKind.u64.wrap (↑n139 : Int)) else i143) > i141 then if IntKind.u64.wrap (i137 + IntKind.u64.wrap (↑n139 : Int)) < i143 then IntKind.u64.wrap (i137 + IntKind.u64.wrap (↑n139 : Int)) else i143 else i141)] <|
  .load ⟨p1, 1, none⟩ 1 fun v144 =>
  .exI fun i145 =>
  .isL v144 [.int .i64 i145] <|
  .load ⟨p1, 8, none⟩ 1 fun v146 =>
  .exI fun i147 =>
  .isL v146 [.int .u64 i147] <|
  .new 70 [.int .i64 4, .int .i64 0, .int .i64 i145, .int .u64 0, .int .u64 (IntKind.u64.wrap (i137 + IntKind.u64.wrap (↑n139 : Int))), .int .u64 0, .slice none 0 0, .int .u64 0, .int .u64 i147, .bool true, .int .u64 0, .int .u64 0, .slice none 0 0, .int .i64 0, .int .i64 0, .int .u64 0, .string ({ data := #[] }), .string ({ data := #[] }), .int .u64 0, .int .i64 0, .string ({ data := #[] })] fun p148 =>
  .call 64 ([.pointer (some ⟨s, 0, none⟩), .slice (some ⟨p148, 0, none⟩) 1 1]) fun v149 =>
  .isL [v149] [.tuple #[]] <|
  .ret (.tuple #[])))

/-- What appends comes to, behind its questions. -/
def appended (y : Sp) (m : Msg) : Sp :=
  ((y.takesAll (m.index + 1) m.entries).commit (max (y.takesAll (m.index + 1) m.entries).r.commit (min m.commit (m.index + m.entries.length)))).send { Msg.none with kind := 4, dest := m.frm, ok := true, index := m.index + m.entries.length, round := m.round }

theorem appendsV_wp {p1 : Nat} {m : Msg} {y : Sp} {cs : List Value} (hp : Hp w0 w H M) (st : St H M s o y.r y.q) (f1 : H p1 = some cs) (hm : Ms H cs m) (hb : Bd k y) (hk : k ≤ 800) (lm : Lm m)
    (hR : ∀ w', Dd w0 H M s o (appended y m) w' → R (.tuple #[]) w') : (appendsV s p1).wp Try.prog R env w := by
  obtain ⟨a1, n1, c1, a2, n2, c2, rfl, he, hs⟩ := hm
  have hn := he.1
  have l1 := lm.index0
  have l2 := lm.index
  have l3 := lm.size
  (refine wp_load (hp.loadH f1 (by simp)) ?_; (repeat apply Exists.intro); refine ⟨rfl, ?_⟩)
  refine ⟨fun vs w' => ∃ (j : Nat) (H' M' : Mp) (o' : List Nat), vs = [.int .i64 j] ∧ j ≤ m.entries.length ∧ Hp w0 w' H' M' ∧ H.le H' ∧ Adv M o M' o' ∧ St H' M' s o' (y.takesAll (m.index + 1) (m.entries.take j)).r (y.takesAll (m.index + 1) (m.entries.take j)).q,
    fun vs _ => match vs with | [.int _ q] => m.entries.length - q.toNat | _ => 0, ⟨0, H, M, o, rfl, Nat.zero_le _, hp, Mp.le.refl _, Adv.refl _ _, by simpa [Sp.takesAll] using st⟩, ?_⟩
  rintro vs w2 ⟨j, H2, M2, o2, rfl, hj, hp2, hle2, ha2, st2⟩
  have hbj : Bd (k + 2 * j) (y.takesAll (m.index + 1) (m.entries.take j)) := by
    have := Bd.takesAll (m.entries.take j) (i := m.index + 1) hb
    rwa [List.length_take, Nat.min_eq_left hj] at this
  ((repeat apply Exists.intro); refine ⟨rfl, ?_⟩)
  refine wp_bif (fun h => ?_) fun h => ?_
  · have hjl : j < m.entries.length := by simp at h; omega
    refine wp_idx En.len (by omega) hp2 (Mp.le.refl _) ((he.mono hle2 (En.mono hle2)).mono hp2.le_uni fun _ _ h => h) Ent.none 2 (by omega) (by omega) (by omega) fun cs hcs => ?_
    have eg : m.entries.getD ((j : Int)).toNat Ent.none = m.entries[j] := by
      rw [List.getD_eq_getElem?_getD, Int.toNat_natCast, List.getElem?_eq_getElem hjl]; rfl
    rw [eg] at hcs
    obtain ⟨ea, en, ec, rfl, hd⟩ := hcs
    ((repeat apply Exists.intro); refine ⟨rfl, ?_⟩)
    refine wp_keep hp2 (by rfl) (by simp [Value.oneCell']) fun p3 w3 H3 hp3 hle3 f3 => ?_
    (refine wp_load (hp3.loadH ((hle2.trans hle3) _ _ f1) (by simp)) ?_; (repeat apply Exists.intro); refine ⟨rfl, ?_⟩)
    (refine wp_load (hp3.loadH f3 (by simp)) ?_; (repeat apply Exists.intro); refine ⟨rfl, ?_⟩)
    have ew : IntKind.u64.wrap (IntKind.u64.wrap (m.index + 1) + IntKind.u64.wrap (j : Int)) = m.index + 1 + j := by
      rw [wrap_u64 (x := m.index + 1) (by omega) (by omega), wrap_u64 (x := (j : Int)) (by omega) (by omega), wrap_u64 (by omega) (by omega)]
    rw [ew]
    refine wp_call (takes_runs (e := m.entries[j]) hp3 (st2.mono hle3) (hd.mono hle3) hbj (by omega)) fun v4 w4 h4 => ?_
    obtain ⟨rfl, H4, M4, o4, hp4, hle4, ha4, st4⟩ := h4
    ((repeat apply Exists.intro); refine ⟨rfl, ?_⟩)
    have ewrap : IntKind.i64.wrap ((j : Int) + 1) = ((j + 1 : Nat) : Int) := by rw [wrap_i64 (by omega) (by omega)]; rfl
    have et : y.takesAll (m.index + 1) (m.entries.take (j + 1)) = (y.takesAll (m.index + 1) (m.entries.take j)).takes (m.index + 1 + j) m.entries[j] := by
      rw [List.take_succ_eq_append_getElem hjl, takesAll_snoc, List.length_take, Nat.min_eq_left hj]
    refine ⟨⟨j + 1, H4, M4, o4, by rw [ewrap], hjl, hp4, (hle2.trans hle3).trans hle4, ha2.trans ha4, by rw [et]; exact st4⟩, ?_⟩
    show m.entries.length - (IntKind.i64.wrap ((j : Int) + 1)).toNat < m.entries.length - (j : Int).toNat
    rw [ewrap]; omega
  · have hje : j = m.entries.length := by simp at h; omega
    subst hje
    rw [List.take_length] at st2 hbj
    obtain ⟨ss, g, rfl, low, sem⟩ := st2.ex
    have hsd := hbj.send
    (refine wp_load (hp2.loadH (hle2 _ _ f1) (by simp)) ?_; (repeat apply Exists.intro); refine ⟨rfl, ?_⟩)
    (refine wp_load (hp2.loadH (hle2 _ _ f1) (by simp)) ?_; (repeat apply Exists.intro); refine ⟨rfl, ?_⟩)
    have hp3 := hp2.drew
    (refine wp_load (hp3.loadM low.var (by simp [cells20])) ?_; (repeat apply Exists.intro); refine ⟨rfl, ?_⟩)
    (refine wp_load (hp3.loadH (hle2 _ _ f1) (by simp)) ?_; (repeat apply Exists.intro); refine ⟨rfl, ?_⟩)
    have ew : IntKind.u64.wrap (m.index + IntKind.u64.wrap (n1 : Int)) = m.index + m.entries.length := by
      rw [wrap_u64 (x := (n1 : Int)) (by omega) (by omega), hn, wrap_u64 (by omega) (by omega)]
    rw [ew]
    have em : ∀ a b c : Int, (if (if a < b then a else b) > c then if a < b then a else b else c) = max c (min b a) := fun a b c => by split <;> split <;> omega
    rw [em]
    refine wp_storeL hp3 low (by simp [cells20]) (by simp [Value.oneCell']) fun w4 M4 hp4 low4 a4 => ?_
    have st4 : St H2 M4 s _ ((y.takesAll (m.index + 1) m.entries).commit (max (y.takesAll (m.index + 1) m.entries).r.commit (min m.commit (m.index + m.entries.length)))).r ((y.takesAll (m.index + 1) m.entries).commit (max (y.takesAll (m.index + 1) m.entries).r.commit (min m.commit (m.index + m.entries.length)))).q :=
      St.of (ss := ss) low4 rfl ⟨sem.state, sem.log, sem.votes, sem.next, sem.mat, sem.acks, sem.reads, sem.save, sem.send, sem.ready⟩
    (refine wp_load (hp4.loadH (hle2 _ _ f1) (by simp)) ?_; (repeat apply Exists.intro); refine ⟨rfl, ?_⟩)
    (refine wp_load (hp4.loadH (hle2 _ _ f1) (by simp)) ?_; (repeat apply Exists.intro); refine ⟨rfl, ?_⟩)
    refine wp_send1 (m := { Msg.none with kind := 4, dest := m.frm, ok := true, index := m.index + m.entries.length, round := m.round }) hp4 st4 ⟨_, _, _, _, _, _, rfl, Sl.nil _ _, Bs.nil _⟩ (by show (y.takesAll (m.index + 1) m.entries).q.send.length ≤ _; omega) fun w5 H5 M5 o5 hp5 hle5 ha5 st5 => ?_
    exact hR _ ⟨H5, M5, o5, hp5, hle2.trans hle5, (ha2.trans a4).trans ha5, st5⟩

set_option maxHeartbeats 1000000 in
theorem appends_runs {m : Msg} {cs : List Value} (hp : Hp w0 w H M) (st : St H M s o x.r x.q) (hm : Ms H cs m) (hb : Bd k x) (hk : k ≤ 800) (lm : Lm m) :
    Runs Try.prog 74 [.pointer (some ⟨s, 0, none⟩), .agg cs.toArray] w fun v w' => v = .tuple #[] ∧ Dd w0 H M s o (x.appends m) w' := by
  have hm0 := hm
  obtain ⟨a1, n1, c1, a2, n2, c2, rfl, he, hs⟩ := hm
  have l1 := lm.index0
  have l2 := lm.index
  apply r74
  refine wp_newH hp fun p1 w1 H1 hp1 hle1 f1 => ?_
  (refine wp_load (hp1.loadH f1 (by simp)) ?_; (repeat apply Exists.intro); refine ⟨rfl, ?_⟩)
  refine wp_call (led_runs hp1 (st.mono hle1) (hm0.mono hle1) hb (by omega)) fun v2 w2 h2 => ?_
  obtain ⟨rfl, H2, M2, o2, hp2, hle2, ha2, st2⟩ := h2
  ((repeat apply Exists.intro); refine ⟨rfl, ?_⟩)
  refine wp_bif (fun h => ?_) fun h => ?_
  · have hl : (x.led m).2 = false := by simpa using h
    have e : x.appends m = (x.led m).1 := if_pos hl
    rw [e]
    exact ⟨rfl, H2, M2, o2, hp2, hle1.trans hle2, ha2, st2⟩
  have hl : (x.led m).2 = true := by simpa using h
  have hby := hb.led hl
  have e0 : x.appends m = if (x.led m).1.r.snap.idx ≤ m.index ∧ ((termAt (x.led m).1.r m.index).2 = false ∨ (termAt (x.led m).1.r m.index).1 ≠ m.logTerm) then
      (x.led m).1.send { Msg.none with kind := 4, dest := m.frm, index := min (lastI (x.led m).1.r) (max m.index 1 - 1), round := m.round } else appended (x.led m).1 m := by
    unfold Sp.appends
    rw [if_neg (by rw [hl]; simp)]
    rfl
  generalize (x.led m).1 = y at *
  obtain ⟨ss, g, rfl, low, sem⟩ := id st2.ex
  have hi0 := hby.idx
  have hla := hby.last
  have hsd := hby.send
  have f2 := hle2 _ _ f1
  have hle := hle1.trans hle2
  (refine wp_load (hp2.loadM low.var (by simp [cells20])) ?_; (repeat apply Exists.intro); refine ⟨rfl, ?_⟩)
  refine wp_call (last_runs hp2 (Mp.le.refl _) ⟨_, _, _, _, _, _, _, rfl, Low.ra hp2 low sem⟩ hi0 (by omega)) fun v3 w3 h3 => ?_
  obtain ⟨rfl, hp3⟩ := h3
  ((repeat apply Exists.intro); refine ⟨rfl, ?_⟩)
  have hp4 := hp3.drew
  (refine wp_load (hp4.loadM low.var (by simp [cells20])) ?_; (repeat apply Exists.intro); refine ⟨rfl, ?_⟩)
  (refine wp_load (hp4.loadH f2 (by simp)) ?_; (repeat apply Exists.intro); refine ⟨rfl, ?_⟩)
  refine wp_call (termAt_runs (i := m.index) hp4 (Mp.le.refl _) ⟨_, _, _, _, _, _, _, rfl, Low.ra hp4 low sem⟩ hi0 (by omega)) fun v5 w5 h5 => ?_
  obtain ⟨rfl, hp5⟩ := h5
  ((repeat apply Exists.intro); refine ⟨rfl, ?_⟩)
  have hp6 := hp5.drew
  (refine wp_load (hp6.loadH f2 (by simp)) ?_; (repeat apply Exists.intro); refine ⟨rfl, ?_⟩)
  (refine wp_load (hp6.loadM low.var (by simp [cells20])) ?_; (repeat apply Exists.intro); refine ⟨rfl, ?_⟩)
  have go : ∀ {w' : World}, Hp w0 w' H2 M2 → ¬ (y.r.snap.idx ≤ m.index ∧ ((termAt y.r m.index).2 = false ∨ (termAt y.r m.index).1 ≠ m.logTerm)) → (appendsV s p1).wp Try.prog (fun v w' => v = .tuple #[] ∧ Dd w0 H M s o (x.appends m) w') (fun _ _ _ => False) w' := fun hp' hn => by
    rw [e0, if_neg hn]
    exact appendsV_wp hp' st2 f2 (hm0.mono hle) hby hk lm fun w'' h => ⟨rfl, Dd.more hle ha2 h⟩
  have hlst : 0 ≤ lastI y.r := by unfold lastI; omega
  have em : (if IntKind.u64.wrap ((if (1 : Int) > m.index then 1 else m.index) - 1) < lastI y.r then IntKind.u64.wrap ((if (1 : Int) > m.index then 1 else m.index) - 1) else lastI y.r) = min (lastI y.r) (max m.index 1 - 1) := by
    rw [wrap_u64 (by split <;> omega) (by split <;> omega)]
    split <;> split <;> omega
  have hint : ∀ {w' : World}, Hp w0 w' H2 M2 → (y.r.snap.idx ≤ m.index ∧ ((termAt y.r m.index).2 = false ∨ (termAt y.r m.index).1 ≠ m.logTerm)) →
      (VC.new 70 [.int .i64 4, .int .i64 0, .int .i64 m.frm, .int .u64 0, .int .u64 (min (lastI y.r) (max m.index 1 - 1)), .int .u64 0, .slice none 0 0, .int .u64 0, .int .u64 m.round, .bool false, .int .u64 0, .int .u64 0, .slice none 0 0, .int .i64 0, .int .i64 0, .int .u64 0, .string ⟨#[]⟩, .string ⟨#[]⟩, .int .u64 0, .int .i64 0, .string ⟨#[]⟩] fun p => .call 64 [.pointer (some ⟨s, 0, none⟩), .slice (some ⟨p, 0, none⟩) 1 1] fun v => .isL [v] [.tuple #[]] <| .ret (.tuple #[])).wp Try.prog
        (fun v w' => v = .tuple #[] ∧ Dd w0 H M s o (x.appends m) w') (fun _ _ _ => False) w' := fun hp' hn => by
    rw [e0, if_pos hn]
    refine wp_send1 (m := { Msg.none with kind := 4, dest := m.frm, index := min (lastI y.r) (max m.index 1 - 1), round := m.round }) hp' st2 ⟨_, _, _, _, _, _, rfl, Sl.nil _ _, Bs.nil _⟩ (by omega) fun w5 H5 M5 o5 hp5 hle5 ha5 st5 => ?_
    exact ⟨rfl, H5, M5, o5, hp5, hle.trans hle5, ha2.trans ha5, st5⟩
  refine wp_bif (fun h7 => ?_) fun h7 => ?_
  · have g7 : y.r.snap.idx ≤ m.index := of_decide_eq_true h7
    refine wp_bif (fun h8 => ?_) fun h8 => ?_
    · (refine wp_load (hp6.loadH f2 (by simp)) ?_; (repeat apply Exists.intro); refine ⟨rfl, ?_⟩)
      (refine wp_load (hp6.loadH f2 (by simp)) ?_; (repeat apply Exists.intro); refine ⟨rfl, ?_⟩)
      (refine wp_load (hp6.loadH f2 (by simp)) ?_; (repeat apply Exists.intro); refine ⟨rfl, ?_⟩)
      rw [em]
      exact hint hp6 ⟨g7, .inl (by simpa using h8)⟩
    · (refine wp_load (hp6.loadH f2 (by simp)) ?_; (repeat apply Exists.intro); refine ⟨rfl, ?_⟩)
      refine wp_bif (fun h9 => ?_) fun h9 => ?_
      · (refine wp_load (hp6.loadH f2 (by simp)) ?_; (repeat apply Exists.intro); refine ⟨rfl, ?_⟩)
        (refine wp_load (hp6.loadH f2 (by simp)) ?_; (repeat apply Exists.intro); refine ⟨rfl, ?_⟩)
        (refine wp_load (hp6.loadH f2 (by simp)) ?_; (repeat apply Exists.intro); refine ⟨rfl, ?_⟩)
        rw [em]
        exact hint hp6 ⟨g7, .inr (by simpa using h9)⟩
      · refine go hp6 fun hh => ?_
        rcases hh.2 with h | h
        · rw [h] at h8; simp at h8
        · exact h (by simpa using h9)
  · have g7 : ¬ y.r.snap.idx ≤ m.index := of_decide_eq_false h7
    exact go hp6 fun hh => g7 hh.1

def snapped (y : Sp) (m : Msg) : Sp :=
  if y.r.commit < m.snap.idx then (if y.r.snap.idx < m.snap.idx then (y.save [recS m.snap]).shift m.snap else y.save [recS m.snap]).commit m.snap.idx else y

set_option maxHeartbeats 1000000 in
theorem snaps_runs {m : Msg} {cs : List Value} (hp : Hp w0 w H M) (st : St H M s o x.r x.q) (hm : Ms H cs m) (hb : Bd k x) (hk : k ≤ 800) (_ : Lm m) :
    Runs Try.prog 75 [.pointer (some ⟨s, 0, none⟩), .agg cs.toArray] w fun v w' => v = .tuple #[] ∧ Dd w0 H M s o (x.snaps m) w' := by
  have hm0 := hm
  obtain ⟨a1, n1, c1, a2, n2, c2, rfl, he, hs⟩ := hm
  apply r75
  refine wp_newH hp fun p1 w1 H1 hp1 hle1 f1 => ?_
  (refine wp_load (hp1.loadH f1 (by simp)) ?_; (repeat apply Exists.intro); refine ⟨rfl, ?_⟩)
  refine wp_call (led_runs hp1 (st.mono hle1) (hm0.mono hle1) hb (by omega)) fun v2 w2 h2 => ?_
  obtain ⟨rfl, H2, M2, o2, hp2, hle2, ha2, st2⟩ := h2
  ((repeat apply Exists.intro); refine ⟨rfl, ?_⟩)
  refine wp_bif (fun h => ?_) fun h => ?_
  · have hl : (x.led m).2 = false := by simpa using h
    have e : x.snaps m = (x.led m).1 := if_pos hl
    rw [e]
    exact ⟨rfl, H2, M2, o2, hp2, hle1.trans hle2, ha2, st2⟩
  have hl : (x.led m).2 = true := by simpa using h
  have hby := hb.led hl
  have e0 : x.snaps m = (snapped (x.led m).1 m).send { Msg.none with kind := 4, dest := m.frm, ok := true, index := (snapped (x.led m).1 m).r.commit, round := m.round } := by
    unfold Sp.snaps
    rw [if_neg (by rw [hl]; simp)]
    rfl
  generalize (x.led m).1 = y at *
  obtain ⟨ss, g, rfl, low, sem⟩ := id st2.ex
  have hsd := hby.send
  have hsv := hby.save
  have f2 := hle2 _ _ f1
  have hle := hle1.trans hle2
  -- the answer, at the end of each way
  have fin : ∀ {w' : World} {H' M' : Mp} {o' : List Nat} {z : Sp}, Hp w0 w' H' M' → H2.le H' → Adv M2 (g.own s) M' o' → St H' M' s o' z.r z.q → z.q.send.length ≤ 10000000 → x.snaps m = z.send { Msg.none with kind := 4, dest := m.frm, ok := true, index := z.r.commit, round := m.round } →
      (VC.draw <| .load ⟨p1, 1, none⟩ 1 fun v => .exI fun i1 => .isL v [.int .i64 i1] <| .load ⟨s, 8, none⟩ 1 fun v => .exI fun i2 => .isL v [.int .u64 i2] <| .load ⟨p1, 8, none⟩ 1 fun v => .exI fun i3 => .isL v [.int .u64 i3] <|
       VC.new 70 [.int .i64 4, .int .i64 0, .int .i64 i1, .int .u64 0, .int .u64 i2, .int .u64 0, .slice none 0 0, .int .u64 0, .int .u64 i3, .bool true, .int .u64 0, .int .u64 0, .slice none 0 0, .int .i64 0, .int .i64 0, .int .u64 0, .string ⟨#[]⟩, .string ⟨#[]⟩, .int .u64 0, .int .i64 0, .string ⟨#[]⟩] fun p => .call 64 [.pointer (some ⟨s, 0, none⟩), .slice (some ⟨p, 0, none⟩) 1 1] fun v => .isL [v] [.tuple #[]] <| .ret (.tuple #[])).wp Try.prog
        (fun v w' => v = .tuple #[] ∧ Dd w0 H M s o (x.snaps m) w') (fun _ _ _ => False) w' := by
    intro w' H' M' o' z hp' hl' ha' st' hs' e
    obtain ⟨sz, gz, rfl, lowz, semz⟩ := id st'.ex
    have hpd := hp'.drew
    refine wp_draw ?_
    (refine wp_load (hpd.loadH (hl' _ _ f2) (by simp)) ?_; (repeat apply Exists.intro); refine ⟨rfl, ?_⟩)
    (refine wp_load (hpd.loadM lowz.var (by simp [cells20])) ?_; (repeat apply Exists.intro); refine ⟨rfl, ?_⟩)
    (refine wp_load (hpd.loadH (hl' _ _ f2) (by simp)) ?_; (repeat apply Exists.intro); refine ⟨rfl, ?_⟩)
    refine wp_send1 (m := { Msg.none with kind := 4, dest := m.frm, ok := true, index := z.r.commit, round := m.round }) hpd st' ⟨_, _, _, _, _, _, rfl, Sl.nil _ _, Bs.nil _⟩ hs' fun w5 H5 M5 o5 hp5 hle5 ha5 st5 => ?_
    rw [e]
    exact ⟨rfl, H5, M5, o5, hp5, (hle.trans hl').trans hle5, (ha2.trans ha').trans ha5, st5⟩
  have hp3 := hp2.drew
  (refine wp_load (hp3.loadH f2 (by simp)) ?_; (repeat apply Exists.intro); refine ⟨rfl, ?_⟩)
  (refine wp_load (hp3.loadM low.var (by simp [cells20])) ?_; (repeat apply Exists.intro); refine ⟨rfl, ?_⟩)
  refine wp_bif (fun h3 => ?_) fun h3 => ?_
  rotate_left
  · have g3 : ¬ y.r.commit < m.snap.idx := of_decide_eq_false h3
    exact fin hp3 (Mp.le.refl _) (Adv.refl _ _) st2 (by omega) (by rw [e0, show snapped y m = y from if_neg g3])
  have g3 : y.r.commit < m.snap.idx := of_decide_eq_true h3
  unfold snapped at e0
  simp only [if_pos g3] at e0
  (refine wp_load (hp3.loadH f2 (by simp)) ?_; (repeat apply Exists.intro); refine ⟨rfl, ?_⟩)
  refine wp_call (snap_runs (x := m.snap) hp3 (hs.mono hle)) fun v4 w4 h4 => ?_
  obtain ⟨a4, n4, c4, H4, rfl, hb4, hp4, hle4⟩ := h4
  ((repeat apply Exists.intro); refine ⟨rfl, ?_⟩)
  refine wp_save1 (m := recS m.snap) hp4 (st2.mono hle4) (Rc_S (x := m.snap) hb4) (by omega) fun w5 H5 M5 o5 hp5 hle5 ha5 st5 => ?_
  obtain ⟨s5, g5, rfl, low5, sem5⟩ := id st5.ex
  have l25 := hle4.trans hle5
  have hp6 := hp5.drew
  (refine wp_load (hp6.loadH (l25 _ _ f2) (by simp)) ?_; (repeat apply Exists.intro); refine ⟨rfl, ?_⟩)
  (refine wp_load (hp6.loadM low5.var (by simp [cells20])) ?_; (repeat apply Exists.intro); refine ⟨rfl, ?_⟩)
  have st_commit : ∀ {w' : World} {H' M' : Mp} {o' : List Nat} {z : Sp} {K : VC}, Hp w0 w' H' M' → St H' M' s o' z.r z.q → (∀ w'' M'' o'', Hp w0 w'' H' M'' → Adv M' o' M'' o'' → St H' M'' s o'' (z.commit m.snap.idx).r (z.commit m.snap.idx).q → K.wp Try.prog (fun v w' => v = .tuple #[] ∧ Dd w0 H M s o (x.snaps m) w') (fun _ _ _ => False) w'') →
      (VC.store ⟨s, 8, none⟩ [.int .u64 m.snap.idx] K).wp Try.prog (fun v w' => v = .tuple #[] ∧ Dd w0 H M s o (x.snaps m) w') (fun _ _ _ => False) w' := by
    intro w' H' M' o' z K hp' st' hK
    obtain ⟨sz, gz, rfl, lowz, semz⟩ := id st'.ex
    refine wp_storeL hp' lowz (by simp [cells20]) (by simp [Value.oneCell']) fun w7 M7 hp7 low7 a7 => ?_
    exact hK w7 M7 _ hp7 a7 (St.of (ss := sz) low7 rfl ⟨semz.state, semz.log, semz.votes, semz.next, semz.mat, semz.acks, semz.reads, semz.save, semz.send, semz.ready⟩)
  refine wp_bif (fun h7 => ?_) fun h7 => ?_
  · have g7 : y.r.snap.idx < m.snap.idx := of_decide_eq_true h7
    (refine wp_load (hp6.loadH (l25 _ _ f2) (by simp)) ?_; (repeat apply Exists.intro); refine ⟨rfl, ?_⟩)
    refine wp_call (shift_runs (x := y.save [recS m.snap]) (xs := m.snap) hp6 st5 (hs.mono (hle.trans l25)) (hby.saved (by simp)) (by omega)) fun v8 w8 h8 => ?_
    obtain ⟨rfl, H8, M8, o8, hp8, hle8, ha8, st8⟩ := h8
    ((repeat apply Exists.intro); refine ⟨rfl, ?_⟩)
    (refine wp_load (hp8.loadH ((l25.trans hle8) _ _ f2) (by simp)) ?_; (repeat apply Exists.intro); refine ⟨rfl, ?_⟩)
    refine st_commit hp8 st8 fun w9 M9 o9 hp9 a9 st9 => ?_
    exact fin hp9 (l25.trans hle8) ((ha5.trans ha8).trans a9) st9 (by show y.q.send.length ≤ _; omega) (by rw [e0, if_pos g7])
  · have g7 : ¬ y.r.snap.idx < m.snap.idx := of_decide_eq_false h7
    (refine wp_load (hp6.loadH (l25 _ _ f2) (by simp)) ?_; (repeat apply Exists.intro); refine ⟨rfl, ?_⟩)
    refine st_commit hp6 st5 fun w9 M9 o9 hp9 a9 st9 => ?_
    exact fin hp9 l25 (ha5.trans a9) st9 (by show y.q.send.length ≤ _; omega) (by rw [e0, if_neg g7])
end
end Go.Proofs.Ytnbfffmdplcajaa
