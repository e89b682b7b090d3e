/- Contracts: bare, save, hard, send, put, follows. -/
import Derived.Test.YtnbfffmdplcajaaR2
namespace Go.Proofs.Ytnbfffmdplcajaa
open Go.Vc Go.Vc.Rf

section
variable {w0 w : World} {H M U : Mp} {s : Nat} {o : List Nat} {x : Sp}

theorem bare_runs (hp : Hp w0 w H M) (st : St H M s o x.r x.q) : Runs Try.prog 60 [.pointer (some ⟨s, 0, none⟩)] w fun v w' => v = .tuple #[] ∧ Dd w0 H M s o x.bare w' := by
  obtain ⟨ss, g, rfl, low, sem⟩ := st.ex
  apply r60
  refine wp_storeL hp low (by simp [cells20]) (by simp [Value.oneCell']) fun w1 M1 hp1 low1 a1 => ?_
  refine wp_storeL hp1 low1 (by simp [cells20, splice]) (by simp [Value.oneCell']) fun w2 M2 hp2 low2 a2 => ?_
  refine wp_storeL hp2 low2 (by simp [cells20, splice]) (by simp [Value.oneCell']) fun w3 M3 hp3 low3 a3 => ?_
  refine wp_storeL hp3 low3 (by simp [cells20, splice]) (by simp [Value.oneCell']) fun w4 M4 hp4 low4 a4 => ?_
  refine wp_storeL hp4 low4 (by simp [cells20, splice]) (by simp [Value.oneCell']) fun w5 M5 hp5 low5 a5 => ?_
  obtain ⟨k1, b1⟩ := low5.clear (i := 1) (by omega)
  obtain ⟨k2, b2⟩ := k1.clear (i := 2) (by omega)
  obtain ⟨k3, b3⟩ := k2.clear (i := 3) (by omega)
  obtain ⟨k4, b4⟩ := k3.clear (i := 4) (by omega)
  obtain ⟨k5, b5⟩ := k4.clear (i := 5) (by omega)
  refine ⟨rfl, H, M5, _, hp5, Mp.le.refl _, (((((a1.trans a2).trans a3).trans a4).trans a5).trans ((((b1.trans b2).trans b3).trans b4).trans b5)), St.of (ss := ss) k5 rfl ?_⟩
  exact ⟨sem.state, sem.log, rfl, rfl, rfl, rfl, rfl, sem.save, sem.send, sem.ready⟩

theorem save_runs {la : Option Addr} {ln lc : Nat} {l : List Rec} (hp : Hp w0 w H M) (st : St H M s o x.r x.q) (hl : Sl H (Rc H) la ln lc l) (hb : x.q.save.length + l.length ≤ 100000000) :
    Runs Try.prog 56 [.pointer (some ⟨s, 0, none⟩), .slice la ln lc] w fun v w' => v = .tuple #[] ∧ Dd w0 H M s o (x.save l) w' := by
  obtain ⟨ss, g, rfl, low, sem⟩ := st.ex
  obtain ⟨hn, hc, cells, hsl, hll⟩ := hl
  have hlen := LL.length Rc.len hll
  have hcur := low.n (i := 6) (by omega) Rc.len (by decide) sem.save
  apply r56
  (refine wp_load (hp.loadM low.var (by simp [cells20])) ?_; (repeat apply Exists.intro); refine ⟨rfl, ?_⟩)
  refine wp_appendL 6 (by omega) hp low rfl (hsl.read hp (by rw [hlen, hn]; rfl)) (by rw [hlen, hn]; rfl) (one_of Rc.one hll) (by omega) (by omega) fun s' M' o' w' hp' low' hn' ha => ?_
  refine wp_storeL hp' low' (by simp [cells20]) (by simp [Value.oneCell']) fun w2 M2 hp2 low2 a2 => ?_
  refine ⟨rfl, H, M2, _, hp2, Mp.le.refl _, ha.trans a2, St.of (ss := ss) low2 rfl ?_⟩
  exact ⟨sem.state, sem.log, sem.votes, sem.next, sem.mat, sem.acks, sem.reads, sem.save.append hll, sem.send, sem.ready⟩

theorem Rc_H {t v : Int} : Rc H [.int .i64 1, .int .u64 t, .int .i64 v, .int .u64 0, .slice none 0 0, .int .u64 0, .int .u64 0, .int .u64 0, .slice none 0 0] (recH t v) := ⟨none, 0, 0, none, 0, 0, rfl, Bs.nil _, Bs.nil _⟩
theorem Rc_E {t : Int} {a : Option Addr} {n c : Nat} {d : List UInt8} (h : Bs H a n c d) : Rc H [.int .i64 2, .int .u64 0, .int .i64 0, .int .u64 t, .slice a n c, .int .u64 0, .int .u64 0, .int .u64 0, .slice none 0 0] (recE ⟨t, d⟩) := ⟨a, n, c, none, 0, 0, rfl, h, Bs.nil _⟩
theorem Rc_C {i : Int} : Rc H [.int .i64 3, .int .u64 0, .int .i64 0, .int .u64 0, .slice none 0 0, .int .u64 i, .int .u64 0, .int .u64 0, .slice none 0 0] (recC i) := ⟨none, 0, 0, none, 0, 0, rfl, Bs.nil _, Bs.nil _⟩
theorem Rc_S {x : Snp} {a : Option Addr} {n c : Nat} (h : Bs H a n c x.state) : Rc H [.int .i64 4, .int .u64 0, .int .i64 0, .int .u64 0, .slice none 0 0, .int .u64 0, .int .u64 x.idx, .int .u64 x.term, .slice a n c] (recS x) := ⟨none, 0, 0, a, n, c, rfl, Bs.nil _, h⟩
/-- One alone, in a block of its own. -/
theorem Sl.one {α : Type} {p : List Value → α → Prop} {b : Nat} {cs : List Value} {x : α} (h : H b = some cs) (hx : p cs x) : Sl H p (some ⟨b, 0, none⟩) 1 1 [x] := ⟨rfl, Nat.le_refl _, cs, .inr ⟨b, 0, cs, rfl, h, by rw [List.drop_zero, List.take_length]⟩, LL.one hx⟩

/-- Behind some work that gave up blocks. -/
theorem Dd.of {H' : Mp} {w' : World} (hle : H.le H') (h : Dd w0 H' M s o x w') : Dd w0 H M s o x w' := by
  obtain ⟨H2, M2, o2, h1, h2, h3, h4⟩ := h
  exact ⟨H2, M2, o2, h1, hle.trans h2, h3, h4⟩
theorem Dd.more {H' M' : Mp} {o' : List Nat} {w' : World} (hle : H.le H') (ha : Adv M o M' o') (h : Dd w0 H' M' s o' x w') : Dd w0 H M s o x w' := by
  obtain ⟨H2, M2, o2, h1, h2, h3, h4⟩ := h
  exact ⟨H2, M2, o2, h1, hle.trans h2, ha.trans h3, h4⟩

theorem hard_runs (hp : Hp w0 w H M) (st : St H M s o x.r x.q) (hb : x.q.save.length ≤ 10000000) : Runs Try.prog 61 [.pointer (some ⟨s, 0, none⟩)] w fun v w' => v = .tuple #[] ∧ Dd w0 H M s o x.hard w' := by
  have st0 := st
  obtain ⟨ss, g, rfl, low, sem⟩ := st.ex
  apply r61
  (refine wp_load (hp.loadM low.var (by simp [cells20])) ?_; (repeat apply Exists.intro); refine ⟨rfl, ?_⟩)
  refine wp_newH hp fun p w1 H1 hp1 hle1 f1 => ?_
  refine wp_call (save_runs (l := [recH x.r.term x.r.vote]) hp1 (st0.mono hle1) (Sl.one f1 Rc_H) (by simp; omega)) fun v2 w2 h2 => ?_
  obtain ⟨rfl, h2⟩ := h2
  ((repeat apply Exists.intro); refine ⟨rfl, ?_⟩)
  exact ⟨rfl, Dd.of hle1 h2⟩

theorem follows_runs {t : Int} (hp : Hp w0 w H M) (st : St H M s o x.r x.q) (hb : x.q.save.length ≤ 10000000) : Runs Try.prog 71 [.pointer (some ⟨s, 0, none⟩), .int .u64 t] w fun v w' => v = .tuple #[] ∧ Dd w0 H M s o (x.follows t) w' := by
  obtain ⟨ss, g, rfl, low, sem⟩ := st.ex
  apply r71
  refine wp_storeL hp low (by simp [cells20]) (by simp [Value.oneCell']) fun w1 M1 hp1 low1 a1 => ?_
  refine wp_storeL hp1 low1 (by simp [cells20, splice]) (by simp [Value.oneCell']) fun w2 M2 hp2 low2 a2 => ?_
  refine wp_storeL hp2 low2 (by simp [cells20, splice]) (by simp [Value.oneCell']) fun w3 M3 hp3 low3 a3 => ?_
  have st3 : St H M3 s (g.own s) { x.r with term := t, vote := 0, role := 0, lead := 0 } x.q := St.of (ss := ss) low3 rfl ⟨sem.state, sem.log, sem.votes, sem.next, sem.mat, sem.acks, sem.reads, sem.save, sem.send, sem.ready⟩
  refine wp_call (bare_runs (x := ⟨_, _⟩) hp3 st3) fun v4 w4 h4 => ?_
  obtain ⟨rfl, H4, M4, o4, hp4, hle4, ha4, st4⟩ := h4
  ((repeat apply Exists.intro); refine ⟨rfl, ?_⟩)
  refine wp_call (hard_runs (x := Sp.bare ⟨_, _⟩) hp4 st4 hb) fun v5 w5 h5 => ?_
  obtain ⟨rfl, h5⟩ := h5
  ((repeat apply Exists.intro); refine ⟨rfl, ?_⟩)
  exact ⟨rfl, Dd.more hle4 (((a1.trans a2).trans a3).trans ha4) h5⟩

theorem send_runs {la : Option Addr} {ln lc : Nat} {l : List Msg} (hp : Hp w0 w H M) (st : St H M s o x.r x.q) (hl : Sl H (Ms H) la ln lc l) (hb : x.q.send.length + l.length ≤ 100000000) :
    Runs Try.prog 64 [.pointer (some ⟨s, 0, none⟩), .slice la ln lc] w fun v w' => v = .tuple #[] ∧ Dd w0 H M s o (l.foldl Sp.send x) w' := by
  have hn := hl.1
  have hr : ∀ (l : List Msg) (x : Sp), (l.foldl Sp.send x).r = x.r ∧ (l.foldl Sp.send x).q.send.length = x.q.send.length + l.length := by
    intro l
    induction l with
    | nil => intro x; simp
    | cons m l ih => intro x; simp only [List.foldl_cons, ih]; simp [Sp.send]; omega
  apply r64
  refine ⟨fun vs w' => ∃ k : Nat, vs = [.int .i64 k] ∧ k ≤ l.length ∧ Dd w0 H M s o ((l.take k).foldl Sp.send x) w', fun vs _ => match vs with | [.int _ q] => l.length - q.toNat | _ => 0,
    ⟨0, rfl, Nat.zero_le _, H, M, o, hp, Mp.le.refl _, Adv.refl _ _, by simpa using st⟩, ?_⟩
  rintro vs w1 ⟨k, rfl, hk, H1, M1, o1, hp1, hle1, ha1, st1⟩
  refine ⟨_, rfl, wp_bif (fun h => ?_) fun h => ?_⟩
  · have hkl : k < l.length := by simp at h; omega
    obtain ⟨b, o2, cs, ha, hcs, hat⟩ := Sl.elem Ms.len hl hp (List.getElem?_eq_getElem hkl) (by omega)
    have hat1 := hat _ _ (hp1.lessH hle1) 0 21 (by omega)
    have hlen := Ms.len _ _ hcs
    rw [Nat.add_zero, List.drop_zero, List.take_of_length_le (by omega)] at hat1
    obtain ⟨a1, n1, c1, a2, n2, c2, rfl, hes, hst⟩ := id (hcs.mono hle1)
    refine ⟨_, ha, ⟨by omega, by omega⟩, ?_⟩
    simp only [add_mk, Int.toNat_natCast]
    (refine wp_load (hat1) ?_; (repeat apply Exists.intro); refine ⟨rfl, ?_⟩)
    obtain ⟨ss, g, rfl, low, sem⟩ := st1.ex
    obtain ⟨e1, e2⟩ := hr (l.take k) x
    refine wp_new hp1 fun p w2 hp2 hM2 hH2 => ?_
    refine wp_store1 hp2 (by simp) (by simp [Value.oneCell']) fun w3 hp3 => ?_
    have hpd := hp3.drew
    have low3 := fun cs => low.putNew hM2 (cs' := cs)
    (refine wp_load (hpd.loadM (low3 _).var (by simp [cells20])) ?_; (repeat apply Exists.intro); refine ⟨rfl, ?_⟩)
    (refine wp_load (hpd.loadM (low3 _).var (by simp [cells20])) ?_; (repeat apply Exists.intro); refine ⟨rfl, ?_⟩)
    refine wp_store1 hpd (by simp [splice]) (by simp [Value.oneCell']) fun w4 hp4 => ?_
    refine ⟨fun h hh => ?_, ?_⟩
    · simp only [List.mem_singleton] at hh
      subst hh
      exact hp4.loadM (low3 _).var (by simp [cells20])
    refine wp_store1 hp4 (by simp [splice]) (by simp [Value.oneCell']) fun w5 hp5 => ?_
    have hp6 := hp5.drew
    (refine wp_load (hp6.loadM (low3 _).var (by simp [cells20])) ?_; (repeat apply Exists.intro); refine ⟨rfl, ?_⟩)
    (refine wp_load (hp6.loadM (Mp.put_same _ _ _) (by simp [splice])) ?_; (repeat apply Exists.intro); refine ⟨rfl, ?_⟩)
    refine wp_newH hp6 fun p2 w7 H7 hp7 hle7 f7 => ?_
    have hcur := low.n (i := 7) (by omega) Ms.len (by decide) sem.send
    refine wp_appendL 7 (by omega) hp7 (low3 _) rfl (hp7.read1 f7 rfl) rfl (by simp [Value.oneCell']) (by omega) (by rw [hcur, e2, List.length_take]; omega) fun s' M' o' w' hp' low' hn' ha => ?_
    refine wp_storeL hp' low' (by simp [cells20]) (by simp [Value.oneCell']) fun w8 M8 hp8 low8 a8 => ?_
    have hH : H.le H7 := hle1.trans hle7
    refine ⟨⟨k + 1, ?_, hkl, H7, M8, _, hp8, hH, ((ha1.trans (Adv.putNew hM2)).trans ha).trans a8, ?_⟩, ?_⟩
    · rw [wrap_i64 (by omega) (by omega)]; rfl
    · rw [List.take_succ_eq_append_getElem hkl, List.foldl_append]
      refine St.of (ss := ss) low8 rfl ?_
      exact ⟨sem.state.mono hle7, sem.log.mono (En.mono hle7), sem.votes, sem.next, sem.mat, sem.acks, sem.reads, sem.save.mono (Rc.mono hle7),
        (sem.send.mono (Ms.mono hle7)).append (LL.one ⟨a1, n1, c1, a2, n2, c2, by simp [e1], hes.mono hle7 (En.mono hle7), hst.mono hle7⟩), sem.ready⟩
    · show l.length - (IntKind.i64.wrap ((k : Int) + 1)).toNat < l.length - (k : Int).toNat
      rw [wrap_i64 (by omega) (by omega)]; omega
  · have hkeq : k = l.length := by simp at h; omega
    subst hkeq
    refine ⟨rfl, H1, M1, o1, hp1, hle1, ha1, ?_⟩
    rwa [List.take_length] at st1
end
end Go.Proofs.Ytnbfffmdplcajaa
