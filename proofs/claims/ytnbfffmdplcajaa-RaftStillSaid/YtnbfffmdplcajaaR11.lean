/- Contracts: asked, takes. -/
import Derived.Test.YtnbfffmdplcajaaR10
namespace Go.Proofs.Ytnbfffmdplcajaa
open Go.Vc Go.Vc.Rf

section
variable {w0 w : World} {H M U : Mp} {s : Nat} {o : List Nat} {x : Sp} {k : Nat} {R : Value → World → Prop} {env : Nat → List Value → World → Prop}

set_option maxHeartbeats 4000000 in
theorem asked_runs {m : Msg} {cs : List Value} (hp : Hp w0 w H M) (st : St H M s o x.r x.q) (hm : Ms H cs m) (hb : Bd k x) (hk : k ≤ 1000) :
    Runs Try.prog 72 [.pointer (some ⟨s, 0, none⟩), .agg cs.toArray] w fun v w' => v = .tuple #[] ∧ Dd w0 H M s o (x.asked m) w' := by
  have st0 := st
  obtain ⟨ss, g, rfl, low, sem⟩ := st.ex
  obtain ⟨a1, n1, c1, a2, n2, c2, rfl, he, hs⟩ := hm
  have hi0 := hb.idx
  have hla := hb.last
  have hsd := hb.send
  have hsv := hb.save
  apply r72
  refine wp_newH hp fun p1 w1 H1 hp1 hle1 f1 => ?_
  (refine wp_load (hp1.loadM low.var (by simp [cells20])) ?_; (repeat apply Exists.intro); refine ⟨rfl, ?_⟩)
  refine wp_call (last_runs hp1 (Mp.le.refl _) ⟨_, _, _, _, _, _, _, rfl, Low.ra hp1 low (sem.mono hle1)⟩ hi0 (by omega)) fun v2 w2 h2 => ?_
  obtain ⟨rfl, hp2⟩ := h2
  ((repeat apply Exists.intro); refine ⟨rfl, ?_⟩)
  have leafN : ∀ {w' : World} {b : Bool}, Hp w0 w' H1 M → grants x.r m = b → (b = true → x.r.vote ≠ 0) →
      (VC.new 70 [.int .i64 2, .int .i64 0, .int .i64 m.frm, .int .u64 0, .int .u64 0, .int .u64 0, .slice none 0 0, .int .u64 0, .int .u64 0, .bool b, .int .u64 0, .int .u64 0, .slice none 0 0, .int .i64 0, .int .i64 0, .int .u64 0, .string ⟨#[]⟩, .string ⟨#[]⟩, .int .u64 0, .int .i64 0, .string ⟨#[]⟩] fun p => .call 64 [.pointer (some ⟨s, 0, none⟩), .slice (some ⟨p, 0, none⟩) 1 1] fun v => .isL [v] [.tuple #[]] <| .ret (.tuple #[])).wp Try.prog
        (fun v w' => v = .tuple #[] ∧ Dd w0 H M s (g.own s) (x.asked m) w') (fun _ _ _ => False) w' := by
    intro w' b hp' hg hv
    refine wp_send1 (m := { Msg.none with kind := 2, dest := m.frm, ok := b }) hp' (st0.mono hle1) ⟨_, _, _, _, _, _, rfl, Sl.nil _ _, Bs.nil _⟩ (by omega) fun w3 H3 M3 o3 hp3 hle3 ha3 st3 => ?_
    have e : x.asked m = x.send { Msg.none with kind := 2, dest := m.frm, ok := b } := by
      unfold Sp.asked
      rw [hg, if_neg]
      rw [Bool.and_eq_true]
      exact fun hh => hv hh.1 (by simpa using hh.2)
    rw [e]
    exact ⟨rfl, H3, M3, o3, hp3, hle1.trans hle3, ha3, st3⟩
  have leafY : ∀ {w' : World} {b : Bool}, Hp w0 w' H1 M → grants x.r m = b → b = true → x.r.vote = 0 →
      (VC.store ⟨s, 1, none⟩ [.int .i64 m.frm] <| .call 61 [.pointer (some ⟨s, 0, none⟩)] fun v => .isL [v] [.tuple #[]] <| .load ⟨p1, 1, none⟩ 1 fun v => .exI fun i => .isL v [.int .i64 i] <|
       VC.new 70 [.int .i64 2, .int .i64 0, .int .i64 i, .int .u64 0, .int .u64 0, .int .u64 0, .slice none 0 0, .int .u64 0, .int .u64 0, .bool b, .int .u64 0, .int .u64 0, .slice none 0 0, .int .i64 0, .int .i64 0, .int .u64 0, .string ⟨#[]⟩, .string ⟨#[]⟩, .int .u64 0, .int .i64 0, .string ⟨#[]⟩] fun p => .call 64 [.pointer (some ⟨s, 0, none⟩), .slice (some ⟨p, 0, none⟩) 1 1] fun v => .isL [v] [.tuple #[]] <| .ret (.tuple #[])).wp Try.prog
        (fun v w' => v = .tuple #[] ∧ Dd w0 H M s (g.own s) (x.asked m) w') (fun _ _ _ => False) w' := by
    intro w' b hp' hg hbt hv
    refine wp_storeL hp' low (by simp [cells20]) (by simp [Value.oneCell']) fun w3 M3 hp3 low3 a3 => ?_
    have sm := sem.mono hle1
    have st3 : St H1 M3 s _ ({ x with r := { x.r with vote := m.frm } } : Sp).r x.q := St.of (ss := ss) low3 rfl ⟨sm.state, sm.log, sm.votes, sm.next, sm.mat, sm.acks, sm.reads, sm.save, sm.send, sm.ready⟩
    refine wp_call (hard_runs (x := { x with r := { x.r with vote := m.frm } }) hp3 st3 (by show x.q.save.length ≤ _; omega)) fun v4 w4 h4 => ?_
    obtain ⟨rfl, H4, M4, o4, hp4, hle4, ha4, st4⟩ := h4
    ((repeat apply Exists.intro); refine ⟨rfl, ?_⟩)
    (refine wp_load (hp4.loadH (hle4 _ _ f1) (by simp)) ?_; (repeat apply Exists.intro); refine ⟨rfl, ?_⟩)
    refine wp_send1 (m := { Msg.none with kind := 2, dest := m.frm, ok := b }) hp4 st4 ⟨_, _, _, _, _, _, rfl, Sl.nil _ _, Bs.nil _⟩ (by show x.q.send.length ≤ _; omega) fun w5 H5 M5 o5 hp5 hle5 ha5 st5 => ?_
    have e : x.asked m = (({ x with r := { x.r with vote := m.frm } } : Sp).hard).send { Msg.none with kind := 2, dest := m.frm, ok := b } := by
      unfold Sp.asked
      rw [hg, if_pos]
      rw [hbt, hv]; rfl
    rw [e]
    exact ⟨rfl, H5, M5, o5, hp5, (hle1.trans hle4).trans hle5, (a3.trans ha4).trans ha5, st5⟩
  (repeat' (first | refine wp_bif (fun h => ?_) (fun h => ?_) | (refine wp_load (Hp.loadH (by repeat (first | assumption | apply Hp.drew)) (f1) (by simp)) ?_; (repeat apply Exists.intro); refine ⟨rfl, ?_⟩) | (refine wp_load (Hp.loadM (by repeat (first | assumption | apply Hp.drew)) (low.var) (by simp [cells20])) ?_; (repeat apply Exists.intro); refine ⟨rfl, ?_⟩) | refine wp_draw ?_))
  all_goals first | refine leafN (by repeat (first | assumption | apply Hp.drew)) ?_ ?_ | refine leafY (by repeat (first | assumption | apply Hp.drew)) ?_ ?_ ?_
  all_goals clear leafN leafY
  all_goals simp_all [grants, fresh]

def takesV (s p1 : Nat) : VC :=
 .load ⟨p1, 0, none⟩ 2 fun v108 =>
 .exI fun i109 =>
 .exS fun a110 n110 c110 =>
 .isL v108 [.int .u64 i109, .slice a110 n110 c110] <|
 .load ⟨p1, 0, none⟩ 2 fun v111 =>
 .exI fun i112 =>
 .exS fun a113 n113 c113 =>
 .isL v111 [.int .u64 i112, .slice a113 n113 c113] <|
 .new 57 [.int .u64 i109, .slice a110 n110 c110, .int .u64 i112, .slice a113 n113 c113] fun p114 =>
 .call 94 ([.slice (some ⟨p114, 0, none⟩) 2 2]) fun v115 =>
 .exS fun a116 n116 c116 =>
 .isL [v115] [.slice a116 n116 c116] <|
 .draw <|
 .load ⟨s, 7, none⟩ 1 fun v117 =>
 .exS fun a118 n118 c118 =>
 .isL v117 [.slice a118 n118 c118] <|
 .some a116 fun x119 =>
 .need ((0 : Int) ≤ 0 ∧ 0 < (↑n116 : Int)) <|
 .load x119 2 fun v120 =>
 .exI fun i121 =>
 .exS fun a122 n122 c122 =>
 .isL v120 [.int .u64 i121, .slice a122 n122 c122] <|
 .new 57 [.int .u64 i121, .slice a122 n122 c122] fun p123 =>
 .append 57 2 32 [.int .u64 0, .slice none 0 0] a118 n118 c118 (some ⟨p123, 0, none⟩) 1 fun a124 n124 c124 =>
 .store ⟨s, 7, none⟩ [.slice a124 n124 c124] <|
 .some a116 fun x125 =>
 .need ((0 : Int) ≤ 1 ∧ 1 < (↑n116 : Int)) <|
 .load (x125.add 2) 2 fun v126 =>
 .exI fun i127 =>
 .exS fun a128 n128 c128 =>
 .isL v126 [.int .u64 i127, .slice a128 n128 c128] <|
 .new 59 [.int .i64 2, .int .u64 0, .int .i64 0, .int .u64 i127, .slice a128 n128 c128, .int .u64 0, .int .u64 0, .int .u64 0, .slice none 0 0] fun p129 =>
 .call 56 ([.pointer (some ⟨s, 0, none⟩), .slice (some ⟨p129, 0, none⟩) 1 1]) fun v130 =>
 .isL [v130] [.tuple #[]] <|
 .ret (.tuple #[])

theorem takesV_wp {p1 : Nat} {e : Ent} {a : Option Addr} {n c : Nat} (hp : Hp w0 w H M) (st : St H M s o x.r x.q) (f1 : H p1 = some [.int .u64 e.term, .slice a n c]) (he : Bs H a n c e.data)
    (hl : x.r.log.length ≤ 10000000) (hsv : x.q.save.length ≤ 10000000) (hR : ∀ w', Dd w0 H M s o ((x.log (x.r.log ++ [e])).save [recE e]) w' → R (.tuple #[]) w') :
    (takesV s p1).wp Try.prog R env w := by
  obtain ⟨ss, g, rfl, low, sem⟩ := st.ex
  (refine wp_load (hp.loadH f1 (by simp)) ?_; (repeat apply Exists.intro); refine ⟨rfl, ?_⟩)
  (refine wp_load (hp.loadH f1 (by simp)) ?_; (repeat apply Exists.intro); refine ⟨rfl, ?_⟩)
  refine wp_newH hp fun p2 w2 H2 hp2 hle2 f2 => ?_
  have hes : Sl H2 (En H2) (some ⟨p2, 0, none⟩) 2 2 [e, e] := ⟨rfl, by simp, _, .inr ⟨p2, 0, _, rfl, f2, rfl⟩, ⟨[.int .u64 e.term, .slice a n c], [.int .u64 e.term, .slice a n c], rfl, ⟨a, n, c, rfl, he.mono hle2⟩, [.int .u64 e.term, .slice a n c], [], rfl, ⟨a, n, c, rfl, he.mono hle2⟩, rfl⟩⟩
  refine wp_call (entries_runs hp2 (Mp.le.refl _) (hes.mono hp2.le_uni (fun _ _ h => h)) (by simp)) fun v3 w3 h3 => ?_
  obtain ⟨t3, H3, M3, o3, cells3, rfl, hp3, hle3, ho3, hl3, ha3⟩ := h3
  ((repeat apply Exists.intro); refine ⟨rfl, ?_⟩)
  have hes3 : Sl (H3.froz M3 o3) (En (H3.froz M3 o3)) t3.a t3.n t3.c [e, e] := own_sl En.len (by omega) ho3 (ho3.froz fun _ h => h) (hl3.mono (En.mono (hp3.froz_le _)))
  have hp4 := hp3.give ha3
  have hle4 := (hle2.trans hle3).trans (hp3.froz_le o3)
  generalize H3.froz M3 o3 = H4 at *
  have hn := hes3.1
  simp only [List.length_cons, List.length_nil] at hn
  obtain ⟨b, q0, cs0, ha0, hcs0, hat0⟩ := Sl.elem (i := 0) En.len hes3 hp4 rfl (by omega)
  obtain ⟨b', q1, cs1, ha1, hcs1, hat1⟩ := Sl.elem (i := 1) En.len hes3 hp4 rfl (by omega)
  rw [ha0] at ha1
  cases ha1
  obtain ⟨x0, y0, z0, rfl, hb0⟩ := hcs0
  obtain ⟨x1, y1, z1, rfl, hb1⟩ := hcs1
  have hp5 := hp4.drew
  (refine wp_load (hp5.loadM low.var (by simp [cells20])) ?_; (repeat apply Exists.intro); refine ⟨rfl, ?_⟩)
  refine ⟨_, ha0, ⟨by omega, by omega⟩, ?_⟩
  have h0 := hat0 _ _ hp5 0 2 (by omega)
  simp only [Nat.zero_mul, Nat.add_zero] at h0
  (refine wp_load (h0) ?_; (repeat apply Exists.intro); refine ⟨rfl, ?_⟩)
  refine wp_newH hp5 fun p6 w6 H6 hp6 hle6 f6 => ?_
  have hcur := low.n (i := 0) (by omega) En.len (by decide) sem.log
  refine wp_appendL 0 (by omega) hp6 low rfl (hp6.read1 f6 rfl) rfl (by simp [Value.oneCell']) (by omega) (by omega) fun s' M' o' w' hp' low' hn' ha => ?_
  refine wp_storeL hp' low' (by simp [cells20]) (by simp [Value.oneCell']) fun w7 M7 hp7 low7 a7 => ?_
  have sm := (sem.mono hle4).mono hle6
  have st7 : St H6 M7 s _ (x.log (x.r.log ++ [e])).r (x.log (x.r.log ++ [e])).q := St.of (ss := ss) low7 rfl ⟨sm.state, sm.log.append (LL.one ⟨x0, y0, z0, rfl, hb0.mono hle6⟩), sm.votes, sm.next, sm.mat, sm.acks, sm.reads, sm.save, sm.send, sm.ready⟩
  refine ⟨_, ha0, ⟨by omega, by omega⟩, ?_⟩
  have h1 : cellsAt w7 ⟨b, q0 + 2, none⟩ 0 2 = some [.int .u64 e.term, .slice x1 y1 z1] := by
    have hp8 : Hp w0 w7 H4 M7 := hp7.lessH hle6
    have h2 := hat1 _ _ hp8 0 2 (by omega)
    simpa using h2
  simp only [add_mk]
  (refine wp_load (h1) ?_; (repeat apply Exists.intro); refine ⟨rfl, ?_⟩)
  refine wp_save1 (x := x.log (x.r.log ++ [e])) (m := recE e) hp7 st7 (Rc_E (d := e.data) (hb1.mono hle6)) (by show x.q.save.length ≤ _; omega) fun w8 H8 M8 o8 hp8 hle8 ha8 st8 => ?_
  exact hR _ ⟨H8, M8, o8, hp8, (hle4.trans hle6).trans hle8, (ha.trans a7).trans ha8, st8⟩

theorem takes_runs {e : Ent} {a : Option Addr} {n c : Nat} {i : Int} (hp : Hp w0 w H M) (st : St H M s o x.r x.q) (he : Bs H a n c e.data) (hb : Bd k x) (hk : k ≤ 1000) :
    Runs Try.prog 107 [.pointer (some ⟨s, 0, none⟩), .int .u64 i, .agg #[.int .u64 e.term, .slice a n c]] w fun v w' => v = .tuple #[] ∧ Dd w0 H M s o (x.takes i e) w' := by
  have st0 := st
  obtain ⟨ss, g, rfl, low, sem⟩ := st.ex
  have hi0 := hb.idx
  have hla := hb.last
  have hlog := hb.log
  have hsv := hb.save
  apply r107
  refine wp_newH hp fun p1 w1 H1 hp1 hle1 f1 => ?_
  (refine wp_load (hp1.loadM low.var (by simp [cells20])) ?_; (repeat apply Exists.intro); refine ⟨rfl, ?_⟩)
  refine wp_bif (fun h => ?_) fun h => ?_
  · have h' : i ≤ x.r.snap.idx := of_decide_eq_true h
    have e : x.takes i e = x := if_pos h'
    rw [e]
    exact ⟨rfl, H1, M, _, hp1, hle1, Adv.refl _ _, st0.mono hle1⟩
  have hgt : ¬ i ≤ x.r.snap.idx := of_decide_eq_false h
  (refine wp_load (hp1.loadM low.var (by simp [cells20])) ?_; (repeat apply Exists.intro); refine ⟨rfl, ?_⟩)
  refine wp_call (termAt_runs (i := i) hp1 (Mp.le.refl _) ⟨_, _, _, _, _, _, _, rfl, Low.ra hp1 low (sem.mono hle1)⟩ hi0 (by omega)) fun v2 w2 h2 => ?_
  obtain ⟨rfl, hp2⟩ := h2
  ((repeat apply Exists.intro); refine ⟨rfl, ?_⟩)
  have same : ∀ {w' : World}, Hp w0 w' H1 M → (termAt x.r i).2 = true → (termAt x.r i).1 = e.term → Value.tuple #[] = .tuple #[] ∧ Dd w0 H M s (g.own s) (x.takes i e) w' := fun hp' h3 h4 => by
    have e : x.takes i e = x := by unfold Sp.takes; rw [if_neg hgt, if_pos ⟨h3, h4⟩]
    rw [e]
    exact ⟨rfl, H1, M, _, hp', hle1, Adv.refl _ _, st0.mono hle1⟩
  have app : ∀ {w' : World}, Hp w0 w' H1 M → (termAt x.r i).2 = false → (takesV s p1).wp Try.prog (fun v w' => v = .tuple #[] ∧ Dd w0 H M s (g.own s) (x.takes i e) w') (fun _ _ _ => False) w' := fun {w'} hp' h3 => by
    have e' : x.takes i e = (x.log (x.r.log ++ [e])).save [recE e] := by
      unfold Sp.takes; rw [if_neg hgt, if_neg (by rw [h3]; simp), if_neg (by rw [h3]; simp)]
    rw [e']
    exact takesV_wp hp' (st0.mono hle1) f1 (he.mono hle1) (by omega) (by omega) fun w'' h => ⟨rfl, Dd.of hle1 h⟩
  have cut : ∀ {w' : World}, Hp w0 w' H1 M → (termAt x.r i).2 = true → (termAt x.r i).1 ≠ e.term →
      (VC.new 59 [.int .i64 3, .int .u64 0, .int .i64 0, .int .u64 0, .slice none 0 0, .int .u64 i, .int .u64 0, .int .u64 0, .slice none 0 0] fun p => .call 56 [.pointer (some ⟨s, 0, none⟩), .slice (some ⟨p, 0, none⟩) 1 1] fun v => .isL [v] [.tuple #[]] <|
        .draw <| .load ⟨s, 7, none⟩ 1 fun v => .exS fun a n c => .isL v [.slice a n c] <| .load ⟨s, 4, none⟩ 1 fun v => .exI fun j => .isL v [.int .u64 j] <|
        .need ((0 : Int) ≤ IntKind.u64.wrap (IntKind.u64.wrap (i - j) - 1) ∧ IntKind.u64.wrap (IntKind.u64.wrap (i - j) - 1) ≤ (c : Int)) <|
        .store ⟨s, 7, none⟩ [.slice (if c = 0 then a else Option.map (fun x => x) a) ((IntKind.u64.wrap (IntKind.u64.wrap (i - j) - 1)).toNat - 0) (c - 0)] <| takesV s p1).wp Try.prog (fun v w' => v = .tuple #[] ∧ Dd w0 H M s (g.own s) (x.takes i e) w') (fun _ _ _ => False) w' := fun {w'} hp' h3 h4 => by
    obtain ⟨b1, b2⟩ := termAt_in h3
    refine wp_save1 (m := recC i) hp' (st0.mono hle1) Rc_C (by omega) fun w3 H3 M3 o3 hp3 hle3 ha3 st3 => ?_
    obtain ⟨s3, g3, rfl, low3, sem3⟩ := st3.ex
    have hcur := low3.n (i := 0) (by omega) En.len (by decide) sem3.log
    change (g3 0).sl.n = x.r.log.length at hcur
    have hcc := (low3.own 0 (by omega)).le
    unfold lastI at b2 hla
    have hp4 := hp3.drew
    (refine wp_load (hp4.loadM low3.var (by simp [cells20])) ?_; (repeat apply Exists.intro); refine ⟨rfl, ?_⟩)
    (refine wp_load (hp4.loadM low3.var (by simp [cells20])) ?_; (repeat apply Exists.intro); refine ⟨rfl, ?_⟩)
    change VC.wp _ _ (VC.need ((0 : Int) ≤ IntKind.u64.wrap (IntKind.u64.wrap (i - x.r.snap.idx) - 1) ∧ IntKind.u64.wrap (IntKind.u64.wrap (i - x.r.snap.idx) - 1) ≤ ((g3 0).sl.c : Int)) <|
        .store ⟨s, 7, none⟩ [.slice (if (g3 0).sl.c = 0 then (g3 0).sl.a else Option.map (fun x => x) (g3 0).sl.a) ((IntKind.u64.wrap (IntKind.u64.wrap (i - x.r.snap.idx) - 1)).toNat - 0) ((g3 0).sl.c - 0)] <| takesV s p1) _ _
    rw [wrap_u64 (x := i - x.r.snap.idx) (by omega) (by omega), wrap_u64 (x := i - x.r.snap.idx - 1) (by omega) (by omega)]
    refine ⟨⟨by omega, by omega⟩, ?_⟩
    have ho := Rf.Own.cut (low3.own 0 (by omega)) (j := (i - x.r.snap.idx - 1).toNat) (by omega)
    have low4 := low3.turn (i := 0) (c := ⟨⟨(g3 0).sl.a, (i - x.r.snap.idx - 1).toNat, (g3 0).sl.c⟩, (g3 0).cells.take ((i - x.r.snap.idx - 1).toNat * wd 0), (g3 0).o⟩) (by omega) ho (Adv.refl _ _)
    have a4 := adv_own (M := M3) (M' := M3) (g := g3) (s := s) (i := 0) (c := ⟨⟨(g3 0).sl.a, (i - x.r.snap.idx - 1).toNat, (g3 0).sl.c⟩, (g3 0).cells.take ((i - x.r.snap.idx - 1).toNat * wd 0), (g3 0).o⟩) (by omega) (Adv.refl _ _)
    have ea : (if (g3 0).sl.c = 0 then (g3 0).sl.a else Option.map (fun x => x) (g3 0).sl.a) = (g3 0).sl.a := by split <;> simp
    rw [ea]
    refine wp_storeL hp4 low4 (by simp [cells20]) (by simp [Value.oneCell']) fun w5 M5 hp5 low5 a5 => ?_
    have st5 : St H3 M5 s _ ((x.save [recC i]).log (x.r.log.take (i - x.r.snap.idx - 1).toNat)).r ((x.save [recC i]).log (x.r.log.take (i - x.r.snap.idx - 1).toNat)).q :=
      St.of (ss := s3) low5 rfl ⟨sem3.state, sem3.log.take En.len (i - x.r.snap.idx - 1).toNat, sem3.votes, sem3.next, sem3.mat, sem3.acks, sem3.reads, sem3.save, sem3.send, sem3.ready⟩
    have e' : x.takes i e = ((((x.save [recC i]).log (x.r.log.take (i - x.r.snap.idx - 1).toNat)).log ((x.r.log.take (i - x.r.snap.idx - 1).toNat) ++ [e])).save [recE e]) := by
      unfold Sp.takes; rw [if_neg hgt, if_neg fun hh => h4 hh.2, if_pos h3]; rfl
    rw [e']
    exact (takesV_wp (x := (x.save [recC i]).log (x.r.log.take (i - x.r.snap.idx - 1).toNat)) hp5 st5 (hle3 _ _ f1) (he.mono (hle1.trans hle3)) (by simp [Sp.save, Sp.log]; omega) (by simp [Sp.save, Sp.log]; omega)) fun w'' h => ⟨rfl, Dd.more (hle1.trans hle3) ((ha3.trans a4).trans a5) h⟩
  refine wp_bif (fun h3 => ?_) fun h3 => ?_
  · (refine wp_load (hp2.loadH f1 (by simp)) ?_; (repeat apply Exists.intro); refine ⟨rfl, ?_⟩)
    refine wp_bif (fun h4 => same hp2 h3 (by simpa using h4)) fun h4 => ?_
    refine wp_bif (fun _ => ?_) fun h5 => by rw [h3] at h5; cases h5
    exact cut hp2 h3 (by simpa using h4)
  · refine wp_bif (fun h5 => by rw [h3] at h5; cases h5) fun _ => ?_
    exact app hp2 h3
end
end Go.Proofs.Ytnbfffmdplcajaa
