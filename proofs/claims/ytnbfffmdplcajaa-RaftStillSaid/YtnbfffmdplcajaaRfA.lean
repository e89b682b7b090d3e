/- Contracts of the document's answer: own, bare, hard, most, send, entry; counts, sends; answers, calls. -/
import Derived.Test.YtnbfffmdplcajaaLawKit
import Derived.Test.YtnbfffmdplcajaaTreeRf1
import Derived.Test.YtnbfffmdplcajaaTreeRf3
namespace Go.Proofs.Ytnbfffmdplcajaa
open Go.Vc Go.Vc.Rf

section
variable {w0 w : World} {H M U : Mp} {s : Nat} {o : List Nat} {x : Sp} {k : Nat}
variable {P : Program} {R : Value → World → Prop} {env : Nat → List Value → World → Prop}

/-- Appended to a new, empty slice: a copy. -/
theorem wp_appF {e : TypeId} {kk bts : Nat} {z : List Value} {b : Nat} {sa : Option Addr} {sn : Nat} {cells : List Value} (hp : Hp w0 w H (M.put b [])) (hMb : M b = none) (hs : SlC (uni H M) sa cells) (hl : cells.length = sn * kk) (hz : z.length = kk)
    (h1 : ∀ v ∈ cells, v.oneCell' = true) (hb : 0 < bts) (hsz : sn * bts ≤ 140737488355328) {K : Option Addr → Nat → Nat → VC}
    (hK : ∀ (s' : Sl3) (M' : Mp) (o' : List Nat) (w' : World), Hp w0 w' H M' → Own M' kk s' cells o' → s'.n = sn → Adv M [] M' o' → (K s'.a s'.n s'.c).wp P R env w') :
    (VC.append e kk bts z (some ⟨b, 0, none⟩) 0 0 sa sn K).wp P R env w := by
  have hHb : H b = none := hp.sep _ _ (Mp.put_same _ _ _)
  have hle : (uni H M).le (uni H (M.put b [])) := uni_frame (Mp.le.refl _) (fun x hx => Mp.put_other fun e => hx (e ▸ hMb)) fun x hx hx' => by
    by_cases e : x = b
    · rw [e]; exact hHb
    · rw [Mp.put_other e] at hx'; exact absurd hx hx'
  refine wp_append hp (own_fresh M kk b) hz ((hs.mono hle).readU hp hl.symm) hl h1 hb (by simpa using hsz) fun s' M' o' w' hp' ho' hn' ha => ?_
  exact hK s' M' o' w' hp' (by simpa using ho') (by rw [hn']; simp) (Adv.of_put hMb ha)

/-- One list of a raft's variable copied. -/
theorem wp_ownOne {e : TypeId} {kk bts f : Nat} {z : List Value} {p1 : Nat} {c : List Value} {Mi : Mp} {g : Gs} {t : Sl3} {cells : List Value} {α : Type} {p : List Value → α → Prop} {l : List α} (i : Nat) (hi : i < 9) (hw : wd i = kk) (hp : Hp w0 w H Mi) (u : Un (M.put p1 c) Mi g) (hf : f + 1 ≤ c.length) (hc : (c.drop f).take 1 = [.slice t.a t.n t.c])
    (hs : SlC H t.a cells) (hll : LL p cells l) (hk : ∀ c x, p c x → c.length = kk) (h1 : ∀ c x, p c x → ∀ v ∈ c, v.oneCell' = true) (hn : t.n = l.length) (hz : z.length = kk) (hb : 0 < bts) (hsz : t.n * bts ≤ 140737488355328) {K : VC}
    (hK : ∀ (s' : Sl3) (M' : Mp) (o' : List Nat) (w' : World), Hp w0 w' H M' → s'.n = l.length → Un (M.put p1 (splice c f [.slice s'.a s'.n s'.c])) M' (g.upd i ⟨s', cells, o'⟩) → K.wp P R env w') :
    (VC.new e [] fun q => .load ⟨p1, f, none⟩ 1 fun v3 => .exS fun a4 n4 c4 => .isL v3 [.slice a4 n4 c4] <| .append e kk bts z (some ⟨q, 0, none⟩) 0 0 a4 n4 fun a5 n5 c5 => .store ⟨p1, f, none⟩ [.slice a5 n5 c5] K).wp P R env w := by
  refine wp_new hp fun q w1 hp1 hM1 _ => ?_
  have k1 : Mi p1 = some c := (u.keep p1 (by simp)).trans (Mp.put_same _ _ _)
  have hne : p1 ≠ q := fun e => by subst e; rw [k1] at hM1; cases hM1
  refine wp_load (hp1.loadM ((Mp.put_other hne).trans k1) hf) ?_
  rw [hc]
  refine ⟨_, _, _, rfl, ?_⟩
  refine wp_appF hp1 hM1 (hs.mono hp.le_uni) (by rw [LL.length hk hll, hn]) hz (one_of h1 hll) hb hsz fun s' M' o' w' hp' ho' hn' ha' => ?_
  have u' := u.add (i := i) (c := ⟨s', cells, o'⟩) hi (by rw [hw]; exact ho') ha'
  have k2 : M' p1 = some c := (u'.keep p1 (by simp)).trans (Mp.put_same _ _ _)
  refine wp_store hp' k2 (by simpa using hf) (by simp [Value.oneCell']) fun w3 hp3 => ?_
  have u3 := u'.store (p := p1) (cs := splice c f [.slice s'.a s'.n s'.c]) (by simp)
  rw [Mp.put_put] at u3
  exact hK s' _ o' w3 hp3 (by rw [hn', hn]) u3

theorem refOwn_runs {r : Raft} {cs : List Value} (hp : Hp w0 w H M) (hr : Ra H cs r) (hc : Cpy r) :
    Runs Try.prog 69 [.agg cs.toArray] w fun v w' => ∃ s, v = .pointer (some ⟨s, 0, none⟩) ∧ ∃ H' M' o', Hp w0 w' H' M' ∧ H.le H' ∧ Adv M [] M' o' ∧ St H' M' s o' r Out.none := by
  obtain ⟨ss, ls, vs, ns, ms, ak, rs, rfl, hr⟩ := hr
  obtain ⟨c0, c1, c2, c3, c4, c5⟩ := hc
  obtain ⟨rl1, rl2, cl, rl3, rl4⟩ := hr.log
  obtain ⟨rv1, rv2, cv, rv3, rv4⟩ := hr.votes
  obtain ⟨rn1, rn2, cn, rn3, rn4⟩ := hr.next
  obtain ⟨rm1, rm2, cm, rm3, rm4⟩ := hr.mat
  obtain ⟨ra1, ra2, ca, ra3, ra4⟩ := hr.acks
  obtain ⟨rr1, rr2, cr, rr3, rr4⟩ := hr.reads
  apply r69
  refine wp_new hp fun p1 w1 hp1 hM1 _ => ?_
  refine wp_ownOne (M := M) (c := cells17 r ss ls vs ns ms ak rs) 0 (by omega) rfl hp1 (Un.start _) (by simp [cells17]) (t := ls) rfl rl3 rl4 En.len En.one rl1 rfl (by omega) (by omega) fun s0 M2 o2 w2 hp2 n2 u2 => ?_
  refine wp_ownOne (M := M) 1 (by omega) rfl hp2 u2 (by simp [cells17, splice]) (t := vs) rfl rv3 rv4 Bo.len Bo.one rv1 rfl (by omega) (by omega) fun s1 M3 o3 w3 hp3 n3 u3 => ?_
  refine wp_ownOne (M := M) 2 (by omega) rfl hp3 u3 (by simp [cells17, splice]) (t := ns) rfl rn3 rn4 Nu.len Nu.one rn1 rfl (by omega) (by omega) fun s2 M4 o4 w4 hp4 n4 u4 => ?_
  refine wp_ownOne (M := M) 3 (by omega) rfl hp4 u4 (by simp [cells17, splice]) (t := ms) rfl rm3 rm4 Nu.len Nu.one rm1 rfl (by omega) (by omega) fun s3 M5 o5 w5 hp5 n5 u5 => ?_
  refine wp_ownOne (M := M) 4 (by omega) rfl hp5 u5 (by simp [cells17, splice]) (t := ak) rfl ra3 ra4 Nu.len Nu.one ra1 rfl (by omega) (by omega) fun s4 M6 o6 w6 hp6 n6 u6 => ?_
  refine wp_ownOne (M := M) 5 (by omega) rfl hp6 u6 (by simp [cells17, splice]) (t := rs) rfl rr3 rr4 Re.len Re.one rr1 rfl (by omega) (by omega) fun s5 M7 o7 w7 hp7 n7 u7 => ?_
  have u8 : Un (M.put p1 (cells17 r ss s0 s1 s2 s3 s4 s5)) M7 _ := u7
  clear u2 u3 u4 u5 u6 u7 hp1 hp2 hp3 hp4 hp5 hp6
  generalize hg : Gs.upd (Gs.upd (Gs.upd (Gs.upd (Gs.upd (Gs.upd (fun _ => nilC) 0 ⟨s0, cl, o2⟩) 1 ⟨s1, cv, o3⟩) 2 ⟨s2, cn, o4⟩) 3 ⟨s3, cm, o5⟩) 4 ⟨s4, ca, o6⟩) 5 ⟨s5, cr, o7⟩ = g at u8
  have g0 : g 0 = ⟨s0, cl, o2⟩ := by subst hg; rfl
  have g1 : g 1 = ⟨s1, cv, o3⟩ := by subst hg; rfl
  have g2 : g 2 = ⟨s2, cn, o4⟩ := by subst hg; rfl
  have g3 : g 3 = ⟨s3, cm, o5⟩ := by subst hg; rfl
  have g4 : g 4 = ⟨s4, ca, o6⟩ := by subst hg; rfl
  have g5 : g 5 = ⟨s5, cr, o7⟩ := by subst hg; rfl
  have g6 : g 6 = nilC := by subst hg; rfl
  have g7 : g 7 = nilC := by subst hg; rfl
  have g8 : g 8 = nilC := by subst hg; rfl
  clear hg
  have k1 : M7 p1 = some (cells17 r ss s0 s1 s2 s3 s4 s5) := (u8.keep p1 (by simp)).trans (Mp.put_same _ _ _)
  (refine wp_load (hp7.loadM k1 (by simp [cells17])) ?_; (repeat apply Exists.intro); refine ⟨rfl, ?_⟩)
  refine wp_new hp7 fun p w9 hp9 hM9 _ => ?_
  have hno : ∀ i, i < 9 → ∀ b ∈ (g i).o, b ≠ p := fun i hi b hb e => (u8.own i hi).ne b hb (e ▸ hM9)
  have low : Low (M7.put p (cells20 r ss g)) p (cells20 r ss g) g := ⟨Mp.put_same _ _ _, fun i hi => (u8.own i hi).frame fun b hb => Mp.put_other (hno i hi b hb), u8.apart, fun i hi h => hno i hi p h rfl⟩
  have e20 : cells20 r ss g = (cells17 r ss s0 s1 s2 s3 s4 s5) ++ [.slice none 0 0, .slice none 0 0, .slice none 0 0] := by
    simp [cells20, cells17, Comp.v, g0, g1, g2, g3, g4, g5, g6, g7, g8, nilC]
  have hp10 : Hp w0 w9 H (M7.put p (cells20 r ss g)) := by rw [e20]; exact hp9
  have u9 := Un.base (M := M) (fun b hb => Mp.put_other fun e => hb (e ▸ hM1)) u8
  refine ⟨p, rfl, H, _, _, hp10, Mp.le.refl _, ⟨fun b hb _ => ?_, fun b hb => ?_⟩, St.of (ss := ss) low rfl ⟨hr.state, ?_, ?_, ?_, ?_, ?_, ?_, ?_, ?_, ?_⟩⟩
  · rw [Mp.put_other fun e => (by subst e; rw [u9.keep _ hb] at hM9; exact hb hM9)]
    exact u9.keep b hb
  · right
    rcases Gs.mem_own.1 hb with e | ⟨i, hi, h⟩
    · subst e
      cases hm : M b with
      | none => rfl
      | some c =>
        have := u9.keep b (by rw [hm]; simp)
        rw [hM9, hm] at this; cases this
    · exact u9.fresh i hi b h
  · rw [g0]; exact rl4
  · rw [g1]; exact rv4
  · rw [g2]; exact rn4
  · rw [g3]; exact rm4
  · rw [g4]; exact ra4
  · rw [g5]; exact rr4
  · rw [g6]; rfl
  · rw [g7]; rfl
  · rw [g8]; rfl

/-- Lists of others' roles are empty; a role, a leader. -/
def Sp.bareAs (x : Sp) (role lead : Int) : Sp := { x with r := Rf.bare { x.r with role := role, lead := lead } }
set_option maxHeartbeats 2000000 in
theorem refBare_runs {role lead : Int} (hp : Hp w0 w H M) (st : St H M s o x.r x.q) : Runs Try.prog 77 [.pointer (some ⟨s, 0, none⟩), .int .i64 role, .int .i64 lead] w fun v w' => v = .tuple #[] ∧ Dd w0 H M s o (Sp.bareAs x role lead) w' := by
  obtain ⟨ss, g, rfl, low, sem⟩ := st.ex
  apply r77
  refine wp_storeL hp low (by simp [cells20]) (by simp [Value.oneCell']) fun w1 M1 hp1 low1 a1 => ?_
  refine wp_storeL hp1 low1 (by simp [cells20, splice]) (by simp [Value.oneCell']) fun w2 M2 hp2 low2 a2 => ?_
  refine wp_storeL hp2 low2 (by simp [cells20, splice]) (by simp [Value.oneCell']) fun w3 M3 hp3 low3 a3 => ?_
  refine wp_storeL hp3 low3 (by simp [cells20, splice]) (by simp [Value.oneCell']) fun w4 M4 hp4 low4 a4 => ?_
  refine wp_storeL hp4 low4 (by simp [cells20, splice]) (by simp [Value.oneCell']) fun w5 M5 hp5 low5 a5 => ?_
  refine wp_storeL hp5 low5 (by simp [cells20, splice]) (by simp [Value.oneCell']) fun w6 M6 hp6 low6 a6 => ?_
  refine wp_storeL hp6 low6 (by simp [cells20, splice]) (by simp [Value.oneCell']) fun w7 M7 hp7 low7 a7 => ?_
  obtain ⟨k1, b1⟩ := low7.clear (i := 1) (by omega)
  obtain ⟨k2, b2⟩ := k1.clear (i := 2) (by omega)
  obtain ⟨k3, b3⟩ := k2.clear (i := 3) (by omega)
  obtain ⟨k4, b4⟩ := k3.clear (i := 4) (by omega)
  obtain ⟨k5, b5⟩ := k4.clear (i := 5) (by omega)
  refine ⟨rfl, H, M7, _, hp7, Mp.le.refl _, (((((((a1.trans a2).trans a3).trans a4).trans a5).trans a6).trans a7).trans ((((b1.trans b2).trans b3).trans b4).trans b5)), St.of (ss := ss) k5 rfl ?_⟩
  exact ⟨sem.state, sem.log, rfl, rfl, rfl, rfl, rfl, sem.save, sem.send, sem.ready⟩

theorem refHard_runs (hp : Hp w0 w H M) (st : St H M s o x.r x.q) (hb : x.q.save.length ≤ 1000000000) : Runs Try.prog 78 [.pointer (some ⟨s, 0, none⟩)] w fun v w' => v = .tuple #[] ∧ Dd w0 H M s o x.hard w' := by
  obtain ⟨ss, g, rfl, low, sem⟩ := st.ex
  have hcur := low.n (i := 6) (by omega) Rc.len (by decide) sem.save
  apply r78
  have hpd := hp.drew
  (refine wp_load (hpd.loadM low.var (by simp [cells20])) ?_; (repeat apply Exists.intro); refine ⟨rfl, ?_⟩)
  (refine wp_load (hpd.loadM low.var (by simp [cells20])) ?_; (repeat apply Exists.intro); refine ⟨rfl, ?_⟩)
  refine wp_newH hpd fun p w1 H1 hp1 hle1 f1 => ?_
  refine wp_appendL 6 (by omega) hp1 low rfl (hp1.read1 f1 rfl) rfl (by simp [Value.oneCell']) (by omega) (by omega) fun s' M' o' w' hp' low' hn' ha => ?_
  refine wp_storeL hp' low' (by simp [cells20]) (by simp [Value.oneCell']) fun w2 M2 hp2 low2 a2 => ?_
  refine ⟨rfl, H1, M2, _, hp2, hle1, ha.trans a2, St.of (ss := ss) low2 rfl ?_⟩
  have sm := sem.mono hle1
  exact ⟨sm.state, sm.log, sm.votes, sm.next, sm.mat, sm.acks, sm.reads, sm.save.append (LL.one Rc_H), sm.send, sm.ready⟩

theorem refMost_runs {n : Int} {r : Raft} {q : Out} (hp : Hp w0 w H M) (st : St H M s o r q) (h0 : 0 ≤ n) (h1 : n ≤ 1000000000) : Runs Try.prog 79 [.pointer (some ⟨s, 0, none⟩), .int .i64 n] w fun v w' => v = .bool (decide (2 * n > r.n)) ∧ Hp w0 w' H M := by
  obtain ⟨ss, g, rfl, low, sem⟩ := st.ex
  apply r79
  (refine wp_load (hp.loadM low.var (by simp [cells20])) ?_; (repeat apply Exists.intro); refine ⟨rfl, ?_⟩)
  refine ⟨?_, hp⟩
  rw [wrap_i64 (by omega) (by omega)]

theorem refSend_runs {m : Msg} {cs : List Value} (hp : Hp w0 w H M) (st : St H M s o x.r x.q) (hm : Ms H cs m) (hb : x.q.send.length ≤ 100000000) : Runs Try.prog 81 [.pointer (some ⟨s, 0, none⟩), .agg cs.toArray] w fun v w' => v = .tuple #[] ∧ Dd w0 H M s o (x.send m) w' := by
  obtain ⟨ss, g, rfl, low, sem⟩ := st.ex
  obtain ⟨a1, n1, c1, a2, n2, c2, rfl, hes, hst⟩ := hm
  have hcur := low.n (i := 7) (by omega) Ms.len (by decide) sem.send
  apply r81
  refine wp_new hp fun p w2 hp2 hM2 hH2 => ?_
  have hpd := hp2.drew
  have low3 := fun cs => low.putNew hM2 (cs' := cs)
  (refine wp_load (hpd.loadM (low3 _).var (by simp [cells20])) ?_; (repeat apply Exists.intro); refine ⟨rfl, ?_⟩)
  (refine wp_load (hpd.loadM (low3 _).var (by simp [cells20])) ?_; (repeat apply Exists.intro); refine ⟨rfl, ?_⟩)
  refine wp_store1 hpd (by simp) (by simp [Value.oneCell']) fun w4 hp4 => ?_
  refine ⟨fun h hh => ?_, ?_⟩
  · simp only [List.mem_singleton] at hh
    subst hh
    exact hp4.loadM (low3 _).var (by simp [cells20])
  refine wp_store1 hp4 (by simp [splice]) (by simp [Value.oneCell']) fun w5 hp5 => ?_
  have hp6 := hp5.drew
  (refine wp_load (hp6.loadM (low3 _).var (by simp [cells20])) ?_; (repeat apply Exists.intro); refine ⟨rfl, ?_⟩)
  (refine wp_load (hp6.loadM (Mp.put_same _ _ _) (by simp [splice])) ?_; (repeat apply Exists.intro); refine ⟨rfl, ?_⟩)
  refine wp_newH hp6 fun p2 w7 H7 hp7 hle7 f7 => ?_
  refine wp_appendL 7 (by omega) hp7 (low3 _) rfl (hp7.read1 f7 rfl) rfl (by simp [Value.oneCell']) (by omega) (by omega) fun s' M' o' w' hp' low' hn' ha => ?_
  refine wp_storeL hp' low' (by simp [cells20]) (by simp [Value.oneCell']) fun w8 M8 hp8 low8 a8 => ?_
  refine ⟨rfl, H7, M8, _, hp8, hle7, ((Adv.putNew hM2).trans ha).trans a8, St.of (ss := ss) low8 rfl ?_⟩
  exact ⟨sem.state.mono hle7, sem.log.mono (En.mono hle7), sem.votes, sem.next, sem.mat, sem.acks, sem.reads, sem.save.mono (Rc.mono hle7),
    (sem.send.mono (Ms.mono hle7)).append (LL.one ⟨a1, n1, c1, a2, n2, c2, rfl, hes.mono hle7 (En.mono hle7), hst.mono hle7⟩), sem.ready⟩

/-- An entry logged, and kept. -/
def Sp.entry (x : Sp) (e : Ent) : Sp := (x.log (x.r.log ++ [e])).save [recE e]
theorem refEntry_runs {e : Ent} {a : Option Addr} {n c : Nat} (hp : Hp w0 w H M) (st : St H M s o x.r x.q) (he : Bs H a n c e.data) (hb : Bd k x) (hk : k ≤ 1000) : Runs Try.prog 84 [.pointer (some ⟨s, 0, none⟩), .agg #[.int .u64 e.term, .slice a n c]] w fun v w' => v = .tuple #[] ∧ Dd w0 H M s o (Sp.entry x e) w' := by
  obtain ⟨ss, g, rfl, low, sem⟩ := st.ex
  have hcur := low.n (i := 0) (by omega) En.len (by decide) sem.log
  have hcur6 := low.n (i := 6) (by omega) Rc.len (by decide) sem.save
  have hlog := hb.log
  have hsv := hb.save
  apply r84
  refine wp_newH hp fun p1 w1 H1 hp1 hle1 f1 => ?_
  have hpd := hp1.drew
  (refine wp_load (hpd.loadM low.var (by simp [cells20])) ?_; (repeat apply Exists.intro); refine ⟨rfl, ?_⟩)
  (refine wp_load (hpd.loadH f1 (by simp)) ?_; (repeat apply Exists.intro); refine ⟨rfl, ?_⟩)
  refine wp_newH hpd fun p2 w2 H2 hp2 hle2 f2 => ?_
  refine wp_appendL 0 (by omega) hp2 low rfl (hp2.read1 f2 rfl) rfl (by simp [Value.oneCell']) (by omega) (by omega) fun s' M' o' w' hp' low' hn' ha => ?_
  refine wp_storeL hp' low' (by simp [cells20]) (by simp [Value.oneCell']) fun w3 M3 hp3 low3 a3 => ?_
  have hp4 := hp3.drew
  (refine wp_load (hp4.loadM low3.var (by simp [cells20, splice])) ?_; (repeat apply Exists.intro); refine ⟨rfl, ?_⟩)
  (refine wp_load (hp4.loadH (hle2 _ _ f1) (by simp)) ?_; (repeat apply Exists.intro); refine ⟨rfl, ?_⟩)
  refine wp_newH hp4 fun p5 w5 H5 hp5 hle5 f5 => ?_
  have low4 : Low M3 s (cells20 (x.log (x.r.log ++ [e])).r ss (g.upd 0 ⟨s', (g 0).cells ++ [.int .u64 e.term, .slice a n c], o'⟩)) (g.upd 0 ⟨s', (g 0).cells ++ [.int .u64 e.term, .slice a n c], o'⟩) := low3
  refine wp_appendL 6 (by omega) hp5 low4 rfl (hp5.read1 f5 rfl) rfl (by simp [Value.oneCell']) (by omega) (by rw [Gs.upd_other (by omega)]; omega) fun s6 M6 o6 w6 hp6 low6 hn6 ha6 => ?_
  refine wp_storeL hp6 low6 (by simp [cells20]) (by simp [Value.oneCell']) fun w7 M7 hp7 low7 a7 => ?_
  have hle := (hle1.trans hle2).trans hle5
  have sm := sem.mono hle
  have hd := he.mono hle
  refine ⟨rfl, H5, M7, _, hp7, hle, ((ha.trans a3).trans ha6).trans a7, St.of (ss := ss) low7 rfl ?_⟩
  exact ⟨sm.state, sm.log.append (LL.one ⟨_, _, _, rfl, hd⟩), sm.votes, sm.next, sm.mat, sm.acks, sm.reads, sm.save.append (LL.one (Rc_E hd)), sm.send, sm.ready⟩
end
end Go.Proofs.Ytnbfffmdplcajaa
namespace Go.Proofs.Ytnbfffmdplcajaa
open Go.Vc Go.Vc.Rf

section
variable {w0 w : World} {H M U : Mp} {s : Nat} {o : List Nat} {x : Sp} {k : Nat}
variable {P : Program} {R : Value → World → Prop} {env : Nat → List Value → World → Prop}

theorem countTo_succ {r : Raft} (p : Int → Bool) (t : Nat) : (othersTo r (t + 1)).countP p = (othersTo r t).countP p + if ((t : Int) + 1 != r.id) = true ∧ p ((t : Int) + 1) = true then 1 else 0 := by
  rw [othersTo_succ, List.countP_append]
  congr 1
  by_cases h : ((t : Int) + 1 != r.id) = true
  · rw [if_pos h, List.countP_singleton]
    by_cases h2 : p ((t : Int) + 1) = true
    · rw [if_pos h2, if_pos ⟨h, h2⟩]
    · rw [if_neg h2, if_neg fun h3 => h2 h3.2]
  · rw [if_neg h, if_neg fun h3 => h h3.1]; rfl
theorem countTo_le {r : Raft} (p : Int → Bool) (t : Nat) : (othersTo r t).countP p ≤ t := Nat.le_trans List.countP_le_length (othersTo_len t)
theorem others_to {r : Raft} : others r = othersTo r r.n.toNat := rfl

theorem refCounts_runs (hp : Hp w0 w H M) (st : St H M s o x.r x.q) (hb : Bd k x) (hk : k ≤ 1000) (hm : (x.r.mat.length : Int) = x.r.n) (hc : x.r.snap.idx ≤ x.r.commit) :
    Runs Try.prog 85 [.pointer (some ⟨s, 0, none⟩)] w fun v w' => v = .tuple #[] ∧ Dd w0 H M s o x.counts w' := by
  have st0 := st
  obtain ⟨ss, g, rfl, low, sem⟩ := st.ex
  have hi0 := hb.idx
  have hla := hb.last
  have hn7 := hb.n
  have hlog := hb.log
  unfold lastI at hla
  apply r85
  (refine wp_load (hp.loadM low.var (by simp [cells20])) ?_; (repeat apply Exists.intro); refine ⟨rfl, ?_⟩)
  refine wp_call (refLast_runs (r := x.r) hp (Mp.le.refl _) ⟨_, _, _, _, _, _, _, rfl, Low.ra hp low sem⟩ ⟨hi0, by omega⟩ (by omega)) fun v1 w1 h1 => ?_
  obtain ⟨rfl, hp1⟩ := h1
  ((repeat apply Exists.intro); refine ⟨rfl, ?_⟩)
  have el : IntKind.u64.wrap (lastI x.r) = x.r.snap.idx + (x.r.log.length : Int) := by unfold lastI; exact wrap_u64 (by omega) (by omega)
  rw [el]
  refine ⟨fun vs w' => ∃ j : Nat, vs = [.int .u64 (x.r.snap.idx + j)] ∧ j ≤ x.r.log.length ∧ Hp w0 w' H M ∧ countsFrom x.r j = countsFrom x.r x.r.log.length,
    fun vs _ => match vs with | [.int _ q] => q.toNat | _ => 0, ⟨x.r.log.length, rfl, Nat.le_refl _, hp1, rfl⟩, ?_⟩
  rintro vs w2 ⟨j, rfl, hj, hp2, hcf⟩
  ((repeat apply Exists.intro); refine ⟨rfl, ?_⟩)
  (refine wp_load (hp2.loadM low.var (by simp [cells20])) ?_; (repeat apply Exists.intro); refine ⟨rfl, ?_⟩)
  refine wp_bif (fun h => ?_) fun h => ?_
  rotate_left
  · refine ⟨rfl, H, M, _, hp2, Mp.le.refl _, Adv.refl _ _, ?_⟩
    have h' : ¬ x.r.snap.idx + (j : Int) > x.r.commit := of_decide_eq_false h
    have e : countsFrom x.r j = x.r.commit := by
      cases j with
      | zero => rfl
      | succ i => unfold countsFrom; rw [if_pos (by omega)]
    have : x.counts = x := by
      unfold Sp.counts Sp.commit
      rw [← hcf, e]
    rw [this]
    exact st0
  have h' : x.r.snap.idx + (j : Int) > x.r.commit := of_decide_eq_true h
  obtain ⟨i, rfl⟩ : ∃ i, j = i + 1 := ⟨j - 1, by omega⟩
  (refine wp_load (hp2.loadM low.var (by simp [cells20])) ?_; (repeat apply Exists.intro); refine ⟨rfl, ?_⟩)
  refine wp_call (refTermAt_runs (r := x.r) (i := x.r.snap.idx + ((i + 1 : Nat) : Int)) hp2 (Mp.le.refl _) ⟨_, _, _, _, _, _, _, rfl, Low.ra hp2 low sem⟩ hi0 (by unfold lastI; omega) ⟨by omega, by omega⟩) fun v3 w3 h3 => ?_
  obtain ⟨rfl, hp3⟩ := h3
  ((repeat apply Exists.intro); refine ⟨rfl, ?_⟩)
  rw [termAt_mid (by omega) (by unfold lastI; omega)]
  have ei : (x.r.snap.idx + ((i + 1 : Nat) : Int) - x.r.snap.idx - 1).toNat = i := by omega
  rw [ei]
  refine ⟨fun vs w' => ∃ t : Nat, vs = [.int .i64 (1 + ((othersTo x.r t).countP fun y => decide (x.r.snap.idx + ((i + 1 : Nat) : Int) ≤ nth x.r.mat (y - 1)) : Nat)), .int .i64 ((t + 1 : Nat) : Int)] ∧ t ≤ x.r.n.toNat ∧ Hp w0 w' H M,
    fun vs _ => match vs with | [_, .int _ q] => 9 - q.toNat | _ => 0, ⟨0, by simp [othersTo], Nat.zero_le _, hp3⟩, ?_⟩
  rintro vs w4 ⟨t, rfl, ht, hp4⟩
  have hcl := countTo_le (r := x.r) (fun y => decide (x.r.snap.idx + ((i + 1 : Nat) : Int) ≤ nth x.r.mat (y - 1))) t
  have hcs := countTo_succ (r := x.r) (fun y => decide (x.r.snap.idx + ((i + 1 : Nat) : Int) ≤ nth x.r.mat (y - 1))) t
  ((repeat apply Exists.intro); refine ⟨rfl, ?_⟩)
  (refine wp_load (hp4.loadM low.var (by simp [cells20])) ?_; (repeat apply Exists.intro); refine ⟨rfl, ?_⟩)
  refine wp_bif (fun h5 => ?_) fun h5 => ?_
  · have h5' : ((t + 1 : Nat) : Int) ≤ x.r.n := of_decide_eq_true h5
    have ew : IntKind.i64.wrap (((t + 1 : Nat) : Int) + 1) = ((t + 1 + 1 : Nat) : Int) := by rw [wrap_i64 (by omega) (by omega)]; rfl
    (refine wp_load (hp4.loadM low.var (by simp [cells20])) ?_; (repeat apply Exists.intro); refine ⟨rfl, ?_⟩)
    have no : (if ((t : Int) + 1 != x.r.id) = true ∧ decide (x.r.snap.idx + ((i + 1 : Nat) : Int) ≤ nth x.r.mat ((t : Int) + 1 - 1)) = true then 1 else 0) = 0 → ∀ w', Hp w0 w' H M → (∃ t' : Nat, [Value.int .i64 (1 + ((othersTo x.r t).countP fun y => decide (x.r.snap.idx + ((i + 1 : Nat) : Int) ≤ nth x.r.mat (y - 1)) : Nat)), Value.int .i64 (IntKind.i64.wrap (((t + 1 : Nat) : Int) + 1))] = [.int .i64 (1 + ((othersTo x.r t').countP fun y => decide (x.r.snap.idx + ((i + 1 : Nat) : Int) ≤ nth x.r.mat (y - 1)) : Nat)), .int .i64 ((t' + 1 : Nat) : Int)] ∧ t' ≤ x.r.n.toNat ∧ Hp w0 w' H M) ∧ 9 - (IntKind.i64.wrap (((t + 1 : Nat) : Int) + 1)).toNat < 9 - (((t + 1 : Nat) : Int)).toNat := fun e w' hp' => by
      refine ⟨⟨t + 1, ?_, by omega, hp'⟩, by rw [ew]; omega⟩
      rw [hcs, e, ew]; rfl
    refine wp_bif (fun h6 => ?_) fun h6 => ?_
    · (refine wp_load (hp4.loadM low.var (by simp [cells20])) ?_; (repeat apply Exists.intro); refine ⟨rfl, ?_⟩)
      have e7 : IntKind.i64.wrap (((t + 1 : Nat) : Int) - 1) = (t : Int) := by rw [wrap_i64 (by omega) (by omega)]; omega
      rw [e7]
      refine wp_idx Nu.len (by omega) hp4 (Mp.le.refl _) (Low.ra hp4 low sem).mat 0 1 (by omega) (by omega) (by omega) fun cs hcs2 => ?_
      cases hcs2
      ((repeat apply Exists.intro); refine ⟨rfl, ?_⟩)
      refine wp_bif (fun h8 => ?_) fun h8 => ?_
      · have h8' : x.r.snap.idx + ((i + 1 : Nat) : Int) ≤ nth x.r.mat (t : Int) := of_decide_eq_true h8
        refine ⟨⟨t + 1, ?_, by omega, hp4⟩, ?_⟩
        · rw [hcs, if_pos ⟨by simpa using h6, by rw [show (t : Int) + 1 - 1 = t by omega]; exact decide_eq_true h8'⟩, ew, wrap_i64 (by omega) (by omega)]
          simp [Int.add_assoc]
        · show 9 - (IntKind.i64.wrap (((t + 1 : Nat) : Int) + 1)).toNat < 9 - (((t + 1 : Nat) : Int)).toNat
          rw [ew]; omega
      · have h8' : ¬ x.r.snap.idx + ((i + 1 : Nat) : Int) ≤ nth x.r.mat (t : Int) := of_decide_eq_false h8
        exact no (if_neg fun h => h8' (by have := of_decide_eq_true h.2; rwa [show (t : Int) + 1 - 1 = t by omega] at this)) _ hp4
    · exact no (if_neg fun h => by have := h.1; rw [show ((t : Int) + 1 != x.r.id) = false from h6] at this; cases this) _ hp4
  · have h5' : ¬ ((t + 1 : Nat) : Int) ≤ x.r.n := of_decide_eq_false h5
    obtain rfl : t = x.r.n.toNat := by omega
    have hcA : countsAt x.r (x.r.snap.idx + ((i + 1 : Nat) : Int)) = decide (2 * (1 + ((othersTo x.r x.r.n.toNat).countP fun y => decide (x.r.snap.idx + ((i + 1 : Nat) : Int) ≤ nth x.r.mat (y - 1)) : Nat) : Int) > x.r.n) := rfl
    have again : ∀ {w' : World}, Hp w0 w' H M → ¬ (((x.r.log.getD i Ent.none).term == x.r.term) = true ∧ countsAt x.r (x.r.snap.idx + ((i + 1 : Nat) : Int)) = true) →
        (∃ j : Nat, [Value.int .u64 (IntKind.u64.wrap (x.r.snap.idx + ((i + 1 : Nat) : Int) - 1))] = [.int .u64 (x.r.snap.idx + j)] ∧ j ≤ x.r.log.length ∧ Hp w0 w' H M ∧ countsFrom x.r j = countsFrom x.r x.r.log.length) ∧ (IntKind.u64.wrap (x.r.snap.idx + ((i + 1 : Nat) : Int) - 1)).toNat < (x.r.snap.idx + ((i + 1 : Nat) : Int)).toNat := fun h hn => by
      have ew : IntKind.u64.wrap (x.r.snap.idx + ((i + 1 : Nat) : Int) - 1) = x.r.snap.idx + (i : Int) := by rw [wrap_u64 (by omega) (by omega)]; omega
      refine ⟨⟨i, by rw [ew], by omega, h, ?_⟩, by rw [ew]; omega⟩
      rw [← hcf]
      conv => rhs; unfold countsFrom
      rw [if_neg (by omega), if_neg (by simpa using hn)]
    (refine wp_load (hp4.loadM low.var (by simp [cells20])) ?_; (repeat apply Exists.intro); refine ⟨rfl, ?_⟩)
    refine wp_bif (fun h6 => ?_) fun h6 => ?_
    · refine wp_call (refMost_runs hp4 st0 (by omega) (by omega)) fun v5 w5 h7 => ?_
      obtain ⟨rfl, hp5⟩ := h7
      ((repeat apply Exists.intro); refine ⟨rfl, ?_⟩)
      refine wp_bif (fun h7 => ?_) fun h7 => ?_
      · have e9 : countsFrom x.r x.r.log.length = x.r.snap.idx + ((i + 1 : Nat) : Int) := by
          rw [← hcf]
          unfold countsFrom
          rw [if_neg (by omega), if_pos]
          rw [Bool.and_eq_true, hcA]
          exact ⟨h6, h7⟩
        refine wp_storeL hp5 low (by simp [cells20]) (by simp [Value.oneCell']) fun w8 M8 hp8 low8 a8 => ?_
        refine ⟨rfl, H, M8, _, hp8, Mp.le.refl _, a8, St.of (ss := ss) low8 ?_ ?_⟩
        · simp [cells20, splice, Sp.counts, Sp.commit, e9]
        · exact ⟨sem.state, sem.log, sem.votes, sem.next, sem.mat, sem.acks, sem.reads, sem.save, sem.send, sem.ready⟩
      · exact again hp5 fun hh => by rw [hcA, h7] at hh; simp at hh
    · exact again hp4 fun hh => by rw [h6] at hh; simp at hh

theorem refSends_runs {to : Int} (hp : Hp w0 w H M) (st : St H M s o x.r x.q) (hb : Bd k x) (hk : k ≤ 1000) (hm : (x.r.next.length : Int) = x.r.n) (h1 : 1 ≤ to) (h2 : to ≤ x.r.n)
    (hx0 : 1 ≤ nth x.r.next (to - 1)) (hx1 : nth x.r.next (to - 1) ≤ lastI x.r + 1) :
    Runs Try.prog 104 [.pointer (some ⟨s, 0, none⟩), .int .i64 to] w fun v w' => v = .tuple #[] ∧ Dd w0 H M s o (x.sends to) w' := by
  have st0 := st
  obtain ⟨ss, g, rfl, low, sem⟩ := st.ex
  have hn := hb.n
  have hi0 := hb.idx
  have hla := hb.last
  have hlog := hb.log
  have hsd := hb.send
  apply r104
  (refine wp_load (hp.loadM low.var (by simp [cells20])) ?_; (repeat apply Exists.intro); refine ⟨rfl, ?_⟩)
  have e1 : IntKind.i64.wrap (to - 1) = to - 1 := wrap_i64 (by omega) (by omega)
  rw [e1]
  refine wp_idx Nu.len (by omega) hp (Mp.le.refl _) (Low.ra hp low sem).next 0 1 (by omega) (by omega) (by omega) fun cs hcs => ?_
  cases hcs
  ((repeat apply Exists.intro); refine ⟨rfl, ?_⟩)
  (refine wp_load (hp.loadM low.var (by simp [cells20])) ?_; (repeat apply Exists.intro); refine ⟨rfl, ?_⟩)
  have en : x.r.next.getD (to - 1).toNat 0 = nth x.r.next (to - 1) := rfl
  rw [en]
  refine wp_bif (fun h => ?_) fun h => ?_
  · have hle : nth x.r.next (to - 1) ≤ x.r.snap.idx := by simpa using h
    have hpd := hp.drew
    (refine wp_load (hpd.loadM low.var (by simp [cells20])) ?_; (repeat apply Exists.intro); refine ⟨rfl, ?_⟩)
    (refine wp_load (hpd.loadM low.var (by simp [cells20])) ?_; (repeat apply Exists.intro); refine ⟨rfl, ?_⟩)
    refine wp_call (refSend_runs (m := { Msg.none with kind := 5, dest := to, snap := x.r.snap, round := x.r.round }) hpd st0 ⟨_, _, _, _, _, _, rfl, Sl.nil _ _, sem.state⟩ (by omega)) fun v5 w5 h5 => ?_
    obtain ⟨rfl, h5⟩ := h5
    ((repeat apply Exists.intro); refine ⟨rfl, ?_⟩)
    refine ⟨rfl, ?_⟩
    unfold Sp.sends
    rw [if_pos hle]
    exact h5
  · have hgt : ¬ nth x.r.next (to - 1) ≤ x.r.snap.idx := by simpa using h
    have hcur := low.n (i := 0) (by omega) En.len (by decide) sem.log
    unfold lastI at hla hx1
    have e2 : IntKind.u64.wrap (nth x.r.next (to - 1) - 1) = nth x.r.next (to - 1) - 1 := wrap_u64 (by omega) (by omega)
    (refine wp_load (hp.loadM low.var (by simp [cells20])) ?_; (repeat apply Exists.intro); refine ⟨rfl, ?_⟩)
    rw [e2]
    refine wp_call (refTermAt_runs (r := x.r) (i := nth x.r.next (to - 1) - 1) hp (Mp.le.refl _) ⟨_, _, _, _, _, _, _, rfl, Low.ra hp low sem⟩ hi0 (by unfold lastI; omega) ⟨by omega, by omega⟩) fun v3 w3 h3 => ?_
    obtain ⟨rfl, hp3⟩ := h3
    ((repeat apply Exists.intro); refine ⟨rfl, ?_⟩)
    have hp4 := hp3.drew
    (refine wp_load (hp4.loadM low.var (by simp [cells20])) ?_; (repeat apply Exists.intro); refine ⟨rfl, ?_⟩)
    (refine wp_load (hp4.loadM low.var (by simp [cells20])) ?_; (repeat apply Exists.intro); refine ⟨rfl, ?_⟩)
    have em : IntKind.u64.wrap (IntKind.u64.wrap (nth x.r.next (to - 1) - x.r.snap.idx) - 1) = min (nth x.r.next (to - 1) - 1 - x.r.snap.idx) x.r.log.length := by
      rw [wrap_u64 (x := nth x.r.next (to - 1) - x.r.snap.idx) (by omega) (by omega), wrap_u64 (by omega) (by omega)]
      omega
    rw [em]
    refine ⟨⟨by omega, by omega⟩, ?_⟩
    have hsl : Sl (uni H M) (En H) _ _ _ _ := (own_sl En.len (by omega) (low.own 0 (by omega)) (low.own 0 (by omega)).uni sem.log : Sl (uni H M) (En H) _ _ _ _).drop En.len (k := (min (nth x.r.next (to - 1) - 1 - x.r.snap.idx) x.r.log.length).toNat)
    obtain ⟨sl1, sl2, cells, hsc, hll⟩ := hsl
    have hdl := List.length_drop (l := x.r.log) (i := (min (nth x.r.next (to - 1) - 1 - x.r.snap.idx) x.r.log.length).toNat)
    refine wp_new hp4 fun p6 w6 hp6 hM6 _ => ?_
    refine wp_appF (kk := 2) (bts := 32) (sn := (g 0).sl.n - (min (nth x.r.next (to - 1) - 1 - x.r.snap.idx) x.r.log.length).toNat) hp6 hM6 hsc (by rw [LL.length En.len hll, sl1]) rfl (one_of En.one hll) (by omega) (by omega) fun t6 M6 o6 w6' hp6' ho6 hn6 ha6 => ?_
    have hes : Sl (H.froz M6 o6) (En (H.froz M6 o6)) t6.a t6.n t6.c (x.r.log.drop (min (nth x.r.next (to - 1) - 1 - x.r.snap.idx) x.r.log.length).toNat) :=
      own_sl En.len (by omega) ho6 (ho6.froz fun _ h => h) (hll.mono (En.mono (hp6'.froz_le _)))
    have hp7 := (hp6'.give ha6).drew
    have hle7 := hp6'.froz_le o6
    (refine wp_load (hp7.loadM low.var (by simp [cells20])) ?_; (repeat apply Exists.intro); refine ⟨rfl, ?_⟩)
    (refine wp_load (hp7.loadM low.var (by simp [cells20])) ?_; (repeat apply Exists.intro); refine ⟨rfl, ?_⟩)
    refine wp_call (refSend_runs (m := { Msg.none with kind := 3, dest := to, index := nth x.r.next (to - 1) - 1, logTerm := (termAt x.r (nth x.r.next (to - 1) - 1)).1, entries := x.r.log.drop (min (nth x.r.next (to - 1) - 1 - x.r.snap.idx) x.r.log.length).toNat, commit := x.r.commit, round := x.r.round })
      hp7 (st0.mono hle7) ⟨_, _, _, _, _, _, rfl, hes, Bs.nil _⟩ (by omega)) fun v9 w9 h9 => ?_
    obtain ⟨rfl, h9⟩ := h9
    ((repeat apply Exists.intro); refine ⟨rfl, ?_⟩)
    refine ⟨rfl, ?_⟩
    unfold Sp.sends
    rw [if_neg hgt]
    exact Dd.of hle7 h9
end
end Go.Proofs.Ytnbfffmdplcajaa
namespace Go.Proofs.Ytnbfffmdplcajaa
open Go.Vc Go.Vc.Rf

section
variable {w0 w : World} {H M U : Mp} {s : Nat} {o : List Nat} {x : Sp} {k : Nat}
variable {P : Program} {R : Value → World → Prop} {env : Nat → List Value → World → Prop}

/-- Cells of an element, from one of them on. -/
theorem wp_idxO {α : Type} {p : List Value → α → Prop} {k : Nat} (hk : ∀ c x, p c x → c.length = k) (h0k : 0 < k) {U : Mp} (hp : Hp w0 w H M) (hU : U.le (uni H M)) {a : Option Addr} {n c : Nat} {l : List α} (hs : Sl U p a n c l) {i : Int} (d : α) (off m : Nat)
    (h0 : 0 ≤ i) (h1 : i < l.length) (hm : off + m ≤ k) {kk : List Value → VC} (hK : ∀ cs, p cs (l.getD i.toNat d) → (kk ((cs.drop off).take m)).wp P R env w) :
    (VC.some a fun x => .need ((0 : Int) ≤ i ∧ i < (n : Int)) <| .load ((x.add (i.toNat * k)).add off) m kk).wp P R env w := by
  have hn := hs.1
  have hil : i.toNat < l.length := by omega
  obtain ⟨b, o, cs, ha, hcs, hat⟩ := Sl.elemU hk hs (List.getElem?_eq_getElem hil) h0k
  have hat1 := hat _ _ _ hp hU off m (by omega)
  refine ⟨_, ha, ⟨h0, by omega⟩, ?_⟩
  simp only [add_mk]
  refine ⟨_, hat1, hK _ ?_⟩
  rw [List.getD_eq_getElem?_getD, List.getElem?_eq_getElem hil]
  exact hcs

def ansK (s : Nat) (a2 : Option Addr) (n2 c2 : Nat) (i3 i14 : Int) : VC :=
   .call 79 ([.pointer (some ⟨s, 0, none⟩), .int .i64 i14]) fun v30 =>
     .exB fun b31 =>
     .isL [v30] [.bool b31] <|
     bif b31 then
      (.draw <|
      .load ⟨s, 19, none⟩ 1 fun v32 =>
      .exS fun a33 n33 c33 =>
      .isL v32 [.slice a33 n33 c33] <|
      .load ⟨s, 16, none⟩ 1 fun v34 =>
      .exS fun a35 n35 c35 =>
      .isL v34 [.slice a35 n35 c35] <|
      .some a35 fun x36 =>
      .need ((0 : Int) ≤ i3 ∧ i3 < (↑n35 : Int)) <|
      .load (x36.add (i3.toNat * 3)) 3 fun v37 =>
      .exI fun i38 =>
      .exI fun i39 =>
      .exI fun i40 =>
      .isL v37 [.int .u64 i38, .int .u64 i39, .int .u64 i40] <|
      .new 62 [.int .u64 i38, .int .u64 i39, .int .u64 i40] fun p41 =>
      .append 62 3 24 [.int .u64 0, .int .u64 0, .int .u64 0] a33 n33 c33 (some ⟨p41, 0, none⟩) 1 fun a42 n42 c42 =>
      .store ⟨s, 19, none⟩ [.slice a42 n42 c42] <|
      .again 0 [.slice a2 n2 c2, .int .i64 (IntKind.i64.wrap (i3 + 1))])
     else
     (.load ⟨s, 16, none⟩ 1 fun v43 =>
     .exS fun a44 n44 c44 =>
     .isL v43 [.slice a44 n44 c44] <|
     .some a44 fun x45 =>
     .need ((0 : Int) ≤ i3 ∧ i3 < (↑n44 : Int)) <|
     .load (x45.add (i3.toNat * 3)) 3 fun v46 =>
     .exI fun i47 =>
     .exI fun i48 =>
     .exI fun i49 =>
     .isL v46 [.int .u64 i47, .int .u64 i48, .int .u64 i49] <|
     .new 62 [.int .u64 i47, .int .u64 i48, .int .u64 i49] fun p50 =>
     .append 62 3 24 [.int .u64 0, .int .u64 0, .int .u64 0] a2 n2 c2 (some ⟨p50, 0, none⟩) 1 fun a51 n51 c51 =>
     .again 0 [.slice a51 n51 c51, .int .i64 (IntKind.i64.wrap (i3 + 1))])
def ansLoop (s : Nat) (i3 h0 : Int) (K : Int → VC) : VC :=
   .loop 1 [.int .i64 h0, .int .i64 1] (fun v13 =>
     .exI fun i14 =>
     .exI fun i15 =>
     .isL v13 [.int .i64 i14, .int .i64 i15] <|
     .load ⟨s, 3, none⟩ 1 fun v16 =>
     .exI fun i17 =>
     .isL v16 [.int .i64 i17] <|
     bif (decide (i15 ≤ i17)) then
      (.draw <|
      .load ⟨s, 2, none⟩ 1 fun v18 =>
      .exI fun i19 =>
      .isL v18 [.int .i64 i19] <|
      bif (i15 != i19) then
       (.load ⟨s, 14, none⟩ 1 fun v20 =>
       .exS fun a21 n21 c21 =>
       .isL v20 [.slice a21 n21 c21] <|
       .some a21 fun x22 =>
       .need ((0 : Int) ≤ IntKind.i64.wrap (i15 - 1) ∧ IntKind.i64.wrap (i15 - 1) < (↑n21 : Int)) <|
       .load (x22.add ((IntKind.i64.wrap (i15 - 1)).toNat * 1)) 1 fun v23 =>
       .exI fun i24 =>
       .isL v23 [.int .u64 i24] <|
       .load ⟨s, 16, none⟩ 1 fun v25 =>
       .exS fun a26 n26 c26 =>
       .isL v25 [.slice a26 n26 c26] <|
       .some a26 fun x27 =>
       .need ((0 : Int) ≤ i3 ∧ i3 < (↑n26 : Int)) <|
       .load ((x27.add (i3.toNat * 3)).add 2) 1 fun v28 =>
       .exI fun i29 =>
       .isL v28 [.int .u64 i29] <|
       bif (decide (i24 ≥ i29)) then
        (.again 1 [.int .i64 (IntKind.i64.wrap (i14 + 1)), .int .i64 (IntKind.i64.wrap (i15 + 1))])
       else
       (.again 1 [.int .i64 i14, .int .i64 (IntKind.i64.wrap (i15 + 1))]))
      else
      (.again 1 [.int .i64 i14, .int .i64 (IntKind.i64.wrap (i15 + 1))]))
     else
     (K i14))

theorem ansLoop_wp {r : Raft} {q : Out} {ss : Sl3} {g : Gs} {j : Nat} {h0 : Int} (hp : Hp w0 w H M) (low : Low M s (cells20 r ss g) g) (sem : Rf.Sem H r q ss g) (hn : r.n ≤ 7) (hm : (r.acks.length : Int) = r.n) (hj : j < r.reads.length) (h00 : 0 ≤ h0) (h01 : h0 ≤ 1) {K : Int → VC}
    (hK : ∀ w' env', env' 0 = env 0 → Hp w0 w' H M → (K (h0 + ((others r).countP fun y => decide (r.reads[j].round ≤ nth r.acks (y - 1)) : Nat))).wp P R env' w') :
    (ansLoop s (j : Int) h0 K).wp P R env w := by
  refine ⟨fun vs w' => ∃ t : Nat, vs = [.int .i64 (h0 + ((othersTo r t).countP fun y => decide (r.reads[j].round ≤ nth r.acks (y - 1)) : Nat)), .int .i64 ((t + 1 : Nat) : Int)] ∧ t ≤ r.n.toNat ∧ Hp w0 w' H M,
    fun vs _ => match vs with | [_, .int _ q] => 9 - q.toNat | _ => 0, ⟨0, by simp [othersTo], Nat.zero_le _, hp⟩, ?_⟩
  rintro vs w4 ⟨t, rfl, ht, hp4⟩
  have hcl := countTo_le (r := r) (fun y => decide (r.reads[j].round ≤ nth r.acks (y - 1))) t
  have hcs := countTo_succ (r := r) (fun y => decide (r.reads[j].round ≤ nth r.acks (y - 1))) t
  ((repeat apply Exists.intro); refine ⟨rfl, ?_⟩)
  (refine wp_load (hp4.loadM low.var (by simp [cells20])) ?_; (repeat apply Exists.intro); refine ⟨rfl, ?_⟩)
  refine wp_bif (fun h5 => ?_) fun h5 => ?_
  · have h5' : ((t + 1 : Nat) : Int) ≤ r.n := of_decide_eq_true h5
    have ew : IntKind.i64.wrap (((t + 1 : Nat) : Int) + 1) = ((t + 1 + 1 : Nat) : Int) := by rw [wrap_i64 (by omega) (by omega)]; rfl
    have hp5 := hp4.drew
    (refine wp_load (hp5.loadM low.var (by simp [cells20])) ?_; (repeat apply Exists.intro); refine ⟨rfl, ?_⟩)
    have no : (if ((t : Int) + 1 != r.id) = true ∧ decide (r.reads[j].round ≤ nth r.acks ((t : Int) + 1 - 1)) = true then 1 else 0) = 0 → ∀ w', Hp w0 w' H M → (∃ t' : Nat, [Value.int .i64 (h0 + ((othersTo r t).countP fun y => decide (r.reads[j].round ≤ nth r.acks (y - 1)) : Nat)), Value.int .i64 (IntKind.i64.wrap (((t + 1 : Nat) : Int) + 1))] = [.int .i64 (h0 + ((othersTo r t').countP fun y => decide (r.reads[j].round ≤ nth r.acks (y - 1)) : Nat)), .int .i64 ((t' + 1 : Nat) : Int)] ∧ t' ≤ r.n.toNat ∧ Hp w0 w' H M) ∧ 9 - (IntKind.i64.wrap (((t + 1 : Nat) : Int) + 1)).toNat < 9 - (((t + 1 : Nat) : Int)).toNat := fun e w' hp' => by
      refine ⟨⟨t + 1, ?_, by omega, hp'⟩, by rw [ew]; omega⟩
      rw [hcs, e, ew]; rfl
    refine wp_bif (fun h6 => ?_) fun h6 => ?_
    · (refine wp_load (hp5.loadM low.var (by simp [cells20])) ?_; (repeat apply Exists.intro); refine ⟨rfl, ?_⟩)
      have e7 : IntKind.i64.wrap (((t + 1 : Nat) : Int) - 1) = (t : Int) := by rw [wrap_i64 (by omega) (by omega)]; omega
      rw [e7]
      refine wp_idx Nu.len (by omega) hp5 (Mp.le.refl _) (Low.ra hp5 low sem).acks 0 1 (by omega) (by omega) (by omega) fun cs hcs2 => ?_
      cases hcs2
      ((repeat apply Exists.intro); refine ⟨rfl, ?_⟩)
      (refine wp_load (hp5.loadM low.var (by simp [cells20])) ?_; (repeat apply Exists.intro); refine ⟨rfl, ?_⟩)
      refine wp_idxO Re.len (by omega) hp5 (Mp.le.refl _) (Low.ra hp5 low sem).reads ⟨0, 0, 0⟩ 2 1 (by omega) (by omega) (by omega) fun cs hcs2 => ?_
      have eg : r.reads.getD ((j : Int)).toNat ⟨0, 0, 0⟩ = r.reads[j] := by
        rw [List.getD_eq_getElem?_getD, Int.toNat_natCast, List.getElem?_eq_getElem hj]; rfl
      rw [eg] at hcs2
      cases hcs2
      ((repeat apply Exists.intro); refine ⟨rfl, ?_⟩)
      refine wp_bif (fun h8 => ?_) fun h8 => ?_
      · have h8' : r.reads[j].round ≤ nth r.acks (t : Int) := of_decide_eq_true h8
        refine ⟨⟨t + 1, ?_, by omega, hp5⟩, ?_⟩
        · rw [hcs, if_pos ⟨by simpa using h6, by rw [show (t : Int) + 1 - 1 = t by omega]; exact decide_eq_true h8'⟩, ew, wrap_i64 (by omega) (by omega)]
          simp [Int.add_assoc]
        · show 9 - (IntKind.i64.wrap (((t + 1 : Nat) : Int) + 1)).toNat < 9 - (((t + 1 : Nat) : Int)).toNat
          rw [ew]; omega
      · have h8' : ¬ r.reads[j].round ≤ nth r.acks (t : Int) := of_decide_eq_false h8
        exact no (if_neg fun h => h8' (by have := of_decide_eq_true h.2; rwa [show (t : Int) + 1 - 1 = t by omega] at this)) _ hp5
    · exact no (if_neg fun h => by have := h.1; rw [show ((t : Int) + 1 != r.id) = false from h6] at this; cases this) _ hp5
  · have h5' : ¬ ((t + 1 : Nat) : Int) ≤ r.n := of_decide_eq_false h5
    obtain rfl : t = r.n.toNat := by omega
    exact hK _ _ rfl hp4

/-- What is done with a reader, once those who follow are counted. -/
theorem ansK_wp {H2 M2 : Mp} {ss : Sl3} {g2 : Gs} {t : Sl3} {cells : List Value} {ot : List Nat} {j : Nat} {n : Int} {J : List Value → World → Prop} (hp2 : Hp w0 w H2 M2) (low2 : Low M2 s (cells20 x.r ss g2) g2)
    (sem2 : Rf.Sem H2 x.r { x.q with ready := x.q.ready ++ (x.r.reads.take j).filter (readOk x.r) } ss g2) (own2 : Own M2 3 t cells ot) (hl2 : LL Re cells ((x.r.reads.take j).filter fun y => !readOk x.r y)) (hd2 : ∀ b ∈ ot, b ∉ g2.own s)
    (hjl : j < x.r.reads.length) (hb : Bd k x) (hk : k ≤ 1000) (hn0 : 0 ≤ n) (hn1 : n ≤ 1000) (hok : readOk x.r x.r.reads[j] = decide (2 * n > x.r.n)) (he : env 0 = J)
    (hJ : ∀ (t' : Sl3) (cells' : List Value) (ot' : List Nat) (H' M' : Mp) (g' : Gs) (w' : World), Hp w0 w' H' M' → H2.le H' → Adv M2 (g2.own s ++ ot) M' (g'.own s ++ ot') → g' 5 = g2 5 → Low M' s (cells20 x.r ss g') g' →
        Rf.Sem H' x.r { x.q with ready := x.q.ready ++ (x.r.reads.take (j + 1)).filter (readOk x.r) } ss g' → Own M' 3 t' cells' ot' → LL Re cells' ((x.r.reads.take (j + 1)).filter fun y => !readOk x.r y) → (∀ b ∈ ot', b ∉ g'.own s) → J [.slice t'.a t'.n t'.c, .int .i64 ((j + 1 : Nat) : Int)] w') :
    (ansK s t.a t.n t.c (j : Int) n).wp Try.prog R env w := by
  have st2 : St H2 M2 s (g2.own s) x.r { x.q with ready := x.q.ready ++ (x.r.reads.take j).filter (readOk x.r) } := St.of low2 rfl sem2
  have hrd := hb.reads
  have hry := hb.ready
  have eg : x.r.reads.getD ((j : Int)).toNat ⟨0, 0, 0⟩ = x.r.reads[j] := by
    rw [List.getD_eq_getElem?_getD, Int.toNat_natCast, List.getElem?_eq_getElem hjl]; rfl
  have etake : x.r.reads.take (j + 1) = x.r.reads.take j ++ [x.r.reads[j]] := List.take_succ_eq_append_getElem hjl
  have ewrap : IntKind.i64.wrap ((j : Int) + 1) = ((j + 1 : Nat) : Int) := by rw [wrap_i64 (by omega) (by omega)]; rfl
  unfold ansK
  refine wp_call (refMost_runs hp2 st2 hn0 (by omega)) fun v5 w5 h5 => ?_
  obtain ⟨rfl, hp5⟩ := h5
  ((repeat apply Exists.intro); refine ⟨rfl, ?_⟩)
  rw [← hok]
  refine wp_bif (fun h6 => ?_) fun h6 => ?_
  · have hp6 := hp5.drew
    (refine wp_load (hp6.loadM low2.var (by simp [cells20])) ?_; (repeat apply Exists.intro); refine ⟨rfl, ?_⟩)
    (refine wp_load (hp6.loadM low2.var (by simp [cells20])) ?_; (repeat apply Exists.intro); refine ⟨rfl, ?_⟩)
    refine wp_idx Re.len (by omega) hp6 (Mp.le.refl _) (Low.ra hp6 low2 sem2).reads ⟨0, 0, 0⟩ 3 (by omega) (by omega) (by omega) fun cs hcs => ?_
    rw [eg] at hcs
    cases hcs
    ((repeat apply Exists.intro); refine ⟨rfl, ?_⟩)
    refine wp_newH hp6 fun p7 w7 H7 hp7 hle7 f7 => ?_
    have hc8 := low2.n (i := 8) (by omega) Re.len (by decide) sem2.ready
    have hf8 := List.length_filter_le (readOk x.r) (x.r.reads.take j)
    rw [List.length_append] at hc8
    rw [List.length_take] at hf8
    refine wp_appendL 8 (by omega) hp7 low2 rfl (hp7.read1 f7 rfl) rfl (by simp [Value.oneCell']) (by omega) (by omega) fun s' M' o' w' hp' low' hn' ha' => ?_
    refine wp_storeL hp' low' (by simp [cells20]) (by simp [Value.oneCell']) fun w9 M9 hp9 low9 a9 => ?_
    obtain ⟨own9, hd9⟩ := own2.beside (ha'.trans a9) hd2
    show env 0 _ _
    rw [he, ewrap]
    refine hJ t cells ot H7 M9 _ w9 hp9 hle7 ((ha'.trans a9).right ot) rfl low9 ?_ own9 ?_ hd9
    · have sm := sem2.mono hle7
      refine ⟨sm.state, sm.log, sm.votes, sm.next, sm.mat, sm.acks, sm.reads, sm.save, sm.send, ?_⟩
      rw [etake, List.filter_append, ← List.append_assoc]
      refine sm.ready.append ?_
      simp only [List.filter_cons, h6, if_true, List.filter_nil]
      exact LL.one rfl
    · rw [etake, List.filter_append]
      simpa [h6] using hl2
  · (refine wp_load (hp5.loadM low2.var (by simp [cells20])) ?_; (repeat apply Exists.intro); refine ⟨rfl, ?_⟩)
    refine wp_idx Re.len (by omega) hp5 (Mp.le.refl _) (Low.ra hp5 low2 sem2).reads ⟨0, 0, 0⟩ 3 (by omega) (by omega) (by omega) fun cs hcs => ?_
    rw [eg] at hcs
    cases hcs
    ((repeat apply Exists.intro); refine ⟨rfl, ?_⟩)
    refine wp_newH hp5 fun p7 w7 H7 hp7 hle7 f7 => ?_
    have ht := own2.1
    rw [LL.length Re.len hl2] at ht
    have hf8 := List.length_filter_le (fun y => !readOk x.r y) (x.r.reads.take j)
    rw [List.length_take] at hf8
    refine wp_append hp7 own2 rfl (m := 1) (hp7.read1 f7 rfl) rfl (by simp [Value.oneCell']) (by omega) (by omega) fun t' M' o' w' hp' own' hn' ha' => ?_
    have low' : Low M' s (cells20 x.r ss g2) g2 := low2.frame fun b hb => ha'.keep b (st2.ne b hb) fun h => hd2 b h hb
    show env 0 _ _
    rw [he, ewrap]
    refine hJ t' _ o' H7 M' g2 w' hp' hle7 (ha'.left _) rfl low' ?_ own' ?_ fun b hb hb2 => ?_
    · have sm := sem2.mono hle7
      refine ⟨sm.state, sm.log, sm.votes, sm.next, sm.mat, sm.acks, sm.reads, sm.save, sm.send, ?_⟩
      rw [etake, List.filter_append]
      simpa [h6] using sm.ready
    · rw [etake, List.filter_append]
      refine hl2.append ?_
      simp only [List.filter_cons, h6, Bool.not_false, if_true, List.filter_nil]
      exact LL.one rfl
    · rcases ha'.fresh b hb with e | e
      · exact hd2 b e hb2
      · exact st2.ne b hb2 e

theorem refAnswers_runs (hp : Hp w0 w H M) (st : St H M s o x.r x.q) (hb : Bd k x) (hk : k ≤ 1000) (hm : (x.r.acks.length : Int) = x.r.n) :
    Runs Try.prog 105 [.pointer (some ⟨s, 0, none⟩)] w fun v w' => v = .tuple #[] ∧ Dd w0 H M s o x.answers w' := by
  obtain ⟨ss, g, rfl, low, sem⟩ := st.ex
  have hcur := low.n (i := 5) (by omega) Re.len (by decide) sem.reads
  have hrd := hb.reads
  have hry := hb.ready
  have hn7 := hb.n
  apply r105
  refine ⟨fun vs w' => ∃ (j : Nat) (t : Sl3) (cells : List Value) (ot : List Nat) (H' M' : Mp) (g' : Gs), vs = [.slice t.a t.n t.c, .int .i64 j] ∧ j ≤ x.r.reads.length ∧ Hp w0 w' H' M' ∧ H.le H' ∧ Adv M (g.own s) M' (g'.own s ++ ot) ∧
      g' 5 = g 5 ∧ Low M' s (cells20 x.r ss g') g' ∧ Rf.Sem H' x.r { x.q with ready := x.q.ready ++ (x.r.reads.take j).filter (readOk x.r) } ss g' ∧
      Own M' 3 t cells ot ∧ LL Re cells ((x.r.reads.take j).filter fun y => !readOk x.r y) ∧ ∀ b ∈ ot, b ∉ g'.own s,
    fun vs _ => match vs with | [_, .int _ q] => x.r.reads.length - q.toNat | _ => 0,
    ⟨0, ⟨none, 0, 0⟩, [], [], H, M, g, rfl, Nat.zero_le _, hp, Mp.le.refl _, (Adv.refl _ _).sub (by simp), rfl, low, by simpa using sem, Own.nil _ _, rfl, by simp⟩, ?_⟩
  rintro vs w2 ⟨j, t, cells, ot, H2, M2, g2, rfl, hj, hp2, hle2, ha2, hg5, low2, sem2, own2, hl2, hd2⟩
  ((repeat apply Exists.intro); refine ⟨rfl, ?_⟩)
  have st2 : St H2 M2 s (g2.own s) x.r { x.q with ready := x.q.ready ++ (x.r.reads.take j).filter (readOk x.r) } := St.of low2 rfl sem2
  (refine wp_load (hp2.loadM low2.var (by simp [cells20])) ?_; (repeat apply Exists.intro); refine ⟨rfl, ?_⟩)
  have hcur2 : (g2 5).sl.n = x.r.reads.length := by rw [hg5]; exact hcur
  refine wp_bif (fun h => ?_) fun h => ?_
  · have hjl : j < x.r.reads.length := by have := of_decide_eq_true h; omega
    have eg : x.r.reads.getD ((j : Int)).toNat ⟨0, 0, 0⟩ = x.r.reads[j] := by
      rw [List.getD_eq_getElem?_getD, Int.toNat_natCast, List.getElem?_eq_getElem hjl]; rfl
    have hp3 := hp2.drew
    (refine wp_load (hp3.loadM low2.var (by simp [cells20])) ?_; (repeat apply Exists.intro); refine ⟨rfl, ?_⟩)
    refine wp_idxO Re.len (by omega) hp3 (Mp.le.refl _) (Low.ra hp3 low2 sem2).reads ⟨0, 0, 0⟩ 2 1 (by omega) (by omega) (by omega) fun cs hcs => ?_
    rw [eg] at hcs
    cases hcs
    ((repeat apply Exists.intro); refine ⟨rfl, ?_⟩)
    (refine wp_load (hp3.loadM low2.var (by simp [cells20])) ?_; (repeat apply Exists.intro); refine ⟨rfl, ?_⟩)
    have etake : x.r.reads.take (j + 1) = x.r.reads.take j ++ [x.r.reads[j]] := List.take_succ_eq_append_getElem hjl
    have ewrap : IntKind.i64.wrap ((j : Int) + 1) = ((j + 1 : Nat) : Int) := by rw [wrap_i64 (by omega) (by omega)]; rfl
    have hcn := countTo_le (r := x.r) (fun y => decide (x.r.reads[j].round ≤ nth x.r.acks (y - 1))) x.r.n.toNat
    rw [← others_to] at hcn
    have hJ : ∀ (t' : Sl3) (cells' : List Value) (ot' : List Nat) (H' M' : Mp) (g' : Gs) (w' : World), Hp w0 w' H' M' → H2.le H' → Adv M2 (g2.own s ++ ot) M' (g'.own s ++ ot') → g' 5 = g2 5 → Low M' s (cells20 x.r ss g') g' →
        Rf.Sem H' x.r { x.q with ready := x.q.ready ++ (x.r.reads.take (j + 1)).filter (readOk x.r) } ss g' → Own M' 3 t' cells' ot' → LL Re cells' ((x.r.reads.take (j + 1)).filter fun y => !readOk x.r y) → (∀ b ∈ ot', b ∉ g'.own s) →
        (∃ (j2 : Nat) (t : Sl3) (cells : List Value) (ot : List Nat) (H' M' : Mp) (g' : Gs), [Value.slice t'.a t'.n t'.c, .int .i64 ((j + 1 : Nat) : Int)] = [.slice t.a t.n t.c, .int .i64 j2] ∧ j2 ≤ x.r.reads.length ∧ Hp w0 w' H' M' ∧ H.le H' ∧ Adv M (g.own s) M' (g'.own s ++ ot) ∧
      g' 5 = g 5 ∧ Low M' s (cells20 x.r ss g') g' ∧ Rf.Sem H' x.r { x.q with ready := x.q.ready ++ (x.r.reads.take j2).filter (readOk x.r) } ss g' ∧
      Own M' 3 t cells ot ∧ LL Re cells ((x.r.reads.take j2).filter fun y => !readOk x.r y) ∧ ∀ b ∈ ot, b ∉ g'.own s) ∧ x.r.reads.length - (((j + 1 : Nat) : Int)).toNat < x.r.reads.length - ((j : Int)).toNat := by
      intro t' cells' ot' H' M' g' w' b1 b2 b3 b4 b5 b6 b7 b8 b9
      exact ⟨⟨j + 1, t', cells', ot', H', M', g', rfl, hjl, b1, hle2.trans b2, ha2.trans b3, b4.trans hg5, b5, b6, b7, b8, b9⟩, by omega⟩
    refine wp_bif (fun h6 => ?_) fun h6 => ?_
    · change (ansLoop s (j : Int) 1 (ansK s t.a t.n t.c (j : Int))).wp _ _ _ _
      refine ansLoop_wp hp3 low2 sem2 hn7 hm hjl (by omega) (by omega) fun w4 env' he hp4 => ?_
      refine ansK_wp hp4 low2 sem2 own2 hl2 hd2 hjl hb hk (by omega) (by omega) ?_ he hJ
      show decide (2 * ((if decide (x.r.reads[j].round ≤ x.r.round) = true then 1 else 0) + _ : Int) > x.r.n) = _
      rw [if_pos (show decide (x.r.reads[j].round ≤ x.r.round) = true from h6)]
    · change (ansLoop s (j : Int) 0 (ansK s t.a t.n t.c (j : Int))).wp _ _ _ _
      refine ansLoop_wp hp3 low2 sem2 hn7 hm hjl (by omega) (by omega) fun w4 env' he hp4 => ?_
      refine ansK_wp hp4 low2 sem2 own2 hl2 hd2 hjl hb hk (by omega) (by omega) ?_ he hJ
      show decide (2 * ((if decide (x.r.reads[j].round ≤ x.r.round) = true then 1 else 0) + _ : Int) > x.r.n) = _
      rw [if_neg (show ¬ decide (x.r.reads[j].round ≤ x.r.round) = true from by rw [show decide (x.r.reads[j].round ≤ x.r.round) = false from h6]; simp)]
  · have hje : j = x.r.reads.length := by have := of_decide_eq_false h; omega
    subst hje
    rw [List.take_length] at sem2 hl2
    refine wp_storeL hp2 low2 (by simp [cells20]) (by simp [Value.oneCell']) fun w3 M3 hp3 low3 a3 => ?_
    obtain ⟨own3, hd3⟩ := own2.beside a3 hd2
    have low4 := low3.set (i := 5) (c := ⟨t, cells, ot⟩) (by omega) own3 hd3
    refine ⟨rfl, H2, M3, _, hp3, hle2, (ha2.trans (a3.right ot)).sub fun b hb => Gs.own_upd b hb, St.of (ss := ss) low4 rfl ?_⟩
    exact ⟨sem2.state, sem2.log, sem2.votes, sem2.next, sem2.mat, sem2.acks, hl2, sem2.save, sem2.send, sem2.ready⟩

/-- Where each one is sent from lies within the log, or just behind it. -/
def Ahead (r : Raft) : Prop := ∀ i : Int, 0 ≤ i → i < r.n → 1 ≤ nth r.next i ∧ nth r.next i ≤ lastI r + 1

theorem refCalls_runs (hp : Hp w0 w H M) (st : St H M s o x.r x.q) (hb : Bd k x) (hk : k ≤ 900) (hl : Lr x.r) (hx : Ahead x.r) :
    Runs Try.prog 70 [.pointer (some ⟨s, 0, none⟩)] w fun v w' => v = .tuple #[] ∧ Dd w0 H M s o x.calls w' := by
  obtain ⟨ss, g, rfl, low, sem⟩ := st.ex
  have hr0 := hb.round0
  have hr1 := hb.round
  have hb1 := hb.roundSucc
  have hn : x.r.n ≤ 7 := hb.n
  apply r70
  (refine wp_load (hp.loadM low.var (by simp [cells20])) ?_; (repeat apply Exists.intro); refine ⟨rfl, ?_⟩)
  refine wp_storeL hp low (by simp [cells20]) (by simp [Value.oneCell']) fun w1 M1 hp1 low1 a1 => ?_
  have st1 : St H M1 s (g.own s) (x.round (x.r.round + 1)).r (x.round (x.r.round + 1)).q := by
    refine St.of (ss := ss) low1 ?_ ⟨sem.state, sem.log, sem.votes, sem.next, sem.mat, sem.acks, sem.reads, sem.save, sem.send, sem.ready⟩
    rw [wrap_u64 (by omega) (by omega)]; rfl
  refine ⟨fun vs w' => ∃ j : Nat, vs = [.int .i64 ((j + 1 : Nat) : Int)] ∧ j ≤ x.r.n.toNat ∧ Dd w0 H M1 s (g.own s) ((othersTo x.r j).foldl Sp.sends (x.round (x.r.round + 1))) w',
    fun vs _ => match vs with | [.int _ q] => 9 - q.toNat | _ => 0, ⟨0, rfl, Nat.zero_le _, H, M1, _, hp1, Mp.le.refl _, Adv.refl _ _, st1⟩, ?_⟩
  rintro vs w3 ⟨j, rfl, hj, H3, M3, o3, hp3, hle3, ha3, st3⟩
  obtain ⟨er, hb3⟩ := sends_fold (othersTo x.r j) _ _ hb1
  have hll := othersTo_len (r := x.r) j
  obtain ⟨ss3, g3, rfl, low3, sem3⟩ := id st3.ex
  have en : ((othersTo x.r j).foldl Sp.sends (x.round (x.r.round + 1))).r.n = x.r.n := by rw [er]; rfl
  have ei : ((othersTo x.r j).foldl Sp.sends (x.round (x.r.round + 1))).r.id = x.r.id := by rw [er]; rfl
  ((repeat apply Exists.intro); refine ⟨rfl, ?_⟩)
  (refine wp_load (hp3.loadM low3.var (by simp [cells20])) ?_; (repeat apply Exists.intro); refine ⟨rfl, ?_⟩)
  rw [en]
  refine wp_bif (fun h => ?_) fun h => ?_
  · have hjl : ((j + 1 : Nat) : Int) ≤ x.r.n := of_decide_eq_true h
    have ewrap : IntKind.i64.wrap (((j + 1 : Nat) : Int) + 1) = ((j + 1 + 1 : Nat) : Int) := by rw [wrap_i64 (by omega) (by omega)]; rfl
    have hos := othersTo_succ (r := x.r) j
    (refine wp_load (hp3.loadM low3.var (by simp [cells20])) ?_; (repeat apply Exists.intro); refine ⟨rfl, ?_⟩)
    rw [ei]
    refine wp_bif (fun h2 => ?_) fun h2 => ?_
    · obtain ⟨x1, x2⟩ := hx (((j + 1 : Nat) : Int) - 1) (by omega) (by omega)
      refine wp_call (refSends_runs (to := ((j + 1 : Nat) : Int)) hp3 st3 hb3 (by omega) (by rw [er]; exact hl.next) (by omega) (by rw [en]; exact hjl) (by rw [er]; exact x1) (by rw [er]; exact x2)) fun v4 w4 h4 => ?_
      obtain ⟨rfl, h4⟩ := h4
      ((repeat apply Exists.intro); refine ⟨rfl, ?_⟩)
      refine ⟨⟨j + 1, by rw [ewrap], by omega, ?_⟩, ?_⟩
      · rw [hos, if_pos (by simpa using h2), List.foldl_append]
        exact Dd.more hle3 ha3 h4
      · show 9 - (IntKind.i64.wrap (((j + 1 : Nat) : Int) + 1)).toNat < 9 - (((j + 1 : Nat) : Int)).toNat
        rw [ewrap]; omega
    · refine ⟨⟨j + 1, by rw [ewrap], by omega, ?_⟩, ?_⟩
      · rw [hos, if_neg (by simpa using h2), List.append_nil]
        exact ⟨H3, M3, _, hp3, hle3, ha3, st3⟩
      · show 9 - (IntKind.i64.wrap (((j + 1 : Nat) : Int) + 1)).toNat < 9 - (((j + 1 : Nat) : Int)).toNat
        rw [ewrap]; omega
  · have hje : j = x.r.n.toNat := by have := of_decide_eq_false h; omega
    subst hje
    refine wp_call (refAnswers_runs hp3 st3 hb3 (by omega) (by rw [er]; exact hl.acks)) fun v4 w4 h4 => ?_
    obtain ⟨rfl, h4⟩ := h4
    ((repeat apply Exists.intro); refine ⟨rfl, ?_⟩)
    exact ⟨rfl, Dd.more hle3 (a1.trans ha3) h4⟩
end
end Go.Proofs.Ytnbfffmdplcajaa
namespace Go.Proofs.Ytnbfffmdplcajaa
open Go.Vc Go.Vc.Rf

section
variable {w0 w : World} {H M U : Mp} {s : Nat} {o : List Nat} {x : Sp} {k : Nat}
def tail2V (s p2 p3 : Nat) : VC :=
 .draw <|
 .load ⟨s, 0, none⟩ 17 fun v93 =>
 .exI fun i94 =>
 .exI fun i95 =>
 .exI fun i96 =>
 .exI fun i97 =>
 .exI fun i98 =>
 .exI fun i99 =>
 .exS fun a100 n100 c100 =>
 .exS fun a101 n101 c101 =>
 .exI fun i102 =>
 .exI fun i103 =>
 .exI fun i104 =>
 .exS fun a105 n105 c105 =>
 .exS fun a106 n106 c106 =>
 .exS fun a107 n107 c107 =>
 .exS fun a108 n108 c108 =>
 .exI fun i109 =>
 .exS fun a110 n110 c110 =>
 .isL v93 [.int .u64 i94, .int .i64 i95, .int .i64 i96, .int .i64 i97, .int .u64 i98, .int .u64 i99, .slice a100 n100 c100, .slice a101 n101 c101, .int .u64 i102, .int .i64 i103, .int .i64 i104, .slice a105 n105 c105, .slice a106 n106 c106, .slice a107 n107 c107, .slice a108 n108 c108, .int .u64 i109, .slice a110 n110 c110] <|
 .load ⟨s, 17, none⟩ 3 fun v111 =>
 .exS fun a112 n112 c112 =>
 .exS fun a113 n113 c113 =>
 .exS fun a114 n114 c114 =>
 .isL v111 [.slice a112 n112 c112, .slice a113 n113 c113, .slice a114 n114 c114] <|
 .store ⟨p2, 0, none⟩ [.int .u64 i94, .int .i64 i95, .int .i64 i96, .int .i64 i97, .int .u64 i98, .int .u64 i99, .slice a100 n100 c100, .slice a101 n101 c101, .int .u64 i102, .int .i64 i103, .int .i64 i104, .slice a105 n105 c105, .slice a106 n106 c106, .slice a107 n107 c107, .slice a108 n108 c108, .int .u64 i109, .slice a110 n110 c110] <|
 .hold [(⟨s, 17, none⟩, [.slice a112 n112 c112, .slice a113 n113 c113, .slice a114 n114 c114])] <|
 .store ⟨p3, 0, none⟩ [.slice a112 n112 c112, .slice a113 n113 c113, .slice a114 n114 c114] <|
 .load ⟨p2, 0, none⟩ 17 fun v115 =>
 .exI fun i116 =>
 .exI fun i117 =>
 .exI fun i118 =>
 .exI fun i119 =>
 .exI fun i120 =>
 .exI fun i121 =>
 .exS fun a122 n122 c122 =>
 .exS fun a123 n123 c123 =>
 .exI fun i124 =>
 .exI fun i125 =>
 .exI fun i126 =>
 .exS fun a127 n127 c127 =>
 .exS fun a128 n128 c128 =>
 .exS fun a129 n129 c129 =>
 .exS fun a130 n130 c130 =>
 .exI fun i131 =>
 .exS fun a132 n132 c132 =>
 .isL v115 [.int .u64 i116, .int .i64 i117, .int .i64 i118, .int .i64 i119, .int .u64 i120, .int .u64 i121, .slice a122 n122 c122, .slice a123 n123 c123, .int .u64 i124, .int .i64 i125, .int .i64 i126, .slice a127 n127 c127, .slice a128 n128 c128, .slice a129 n129 c129, .slice a130 n130 c130, .int .u64 i131, .slice a132 n132 c132] <|
 .load ⟨p3, 0, none⟩ 3 fun v133 =>
 .exS fun a134 n134 c134 =>
 .exS fun a135 n135 c135 =>
 .exS fun a136 n136 c136 =>
 .isL v133 [.slice a134 n134 c134, .slice a135 n135 c135, .slice a136 n136 c136] <|
 .ret (.tuple #[.agg #[.int .u64 i116, .int .i64 i117, .int .i64 i118, .int .i64 i119, .int .u64 i120, .int .u64 i121, .slice a122 n122 c122, .slice a123 n123 c123, .int .u64 i124, .int .i64 i125, .int .i64 i126, .slice a127 n127 c127, .slice a128 n128 c128, .slice a129 n129 c129, .slice a130 n130 c130, .int .u64 i131, .slice a132 n132 c132], .agg #[.slice a134 n134 c134, .slice a135 n135 c135, .slice a136 n136 c136]])

variable {env : Nat → List Value → World → Prop} {H0 M0 : Mp} {p2 p3 : Nat}
theorem tail2_wp (hp : Hp w0 w H M) (hle : H0.le H) (st : St H M s o x.r x.q) (v : Rv M0 M o p2 p3) : (tail2V s p2 p3).wp Try.prog (Top w0 H0 M0 x) env w := by
  obtain ⟨ss, g, rfl, low, sem⟩ := st.ex
  have hpd := hp.drew
  (refine wp_load (hpd.loadM low.var (by simp [cells20])) ?_; (repeat apply Exists.intro); refine ⟨rfl, ?_⟩)
  (refine wp_load (hpd.loadM low.var (by simp [cells20])) ?_; (repeat apply Exists.intro); refine ⟨rfl, ?_⟩)
  obtain ⟨z2, hz2, m2⟩ := v.z2
  obtain ⟨z3, hz3, m3⟩ := v.z3
  refine wp_store hpd m2 (by simp [hz2]) (by simp [Value.oneCell']) fun w2 hp2 => ?_
  refine ⟨fun h hh => ?_, ?_⟩
  · simp only [List.mem_singleton] at hh; subst hh; exact hp2.loadM (low.putNe v.n2).var (by simp [cells20])
  refine wp_store hp2 ((Mp.put_other (Ne.symm v.ne)).trans m3) (by simp [hz3]) (by simp [Value.oneCell']) fun w3 hp3 => ?_
  rw [splice_all (by simp [hz2]), splice_all (by simp [hz3])] at hp3
  (refine wp_load (hp3.loadM ((Mp.put_other v.ne).trans (Mp.put_same _ _ _)) (by simp)) ?_; (repeat apply Exists.intro); refine ⟨rfl, ?_⟩)
  (refine wp_load (hp3.loadM (Mp.put_same _ _ _) (by simp)) ?_; (repeat apply Exists.intro); refine ⟨rfl, ?_⟩)
  exact ⟨_, _, rfl, ss, g, H, _, rfl, rfl, hp3, hle, un_of v rfl low fun b h2 h3 => by rw [Mp.put_other h3, Mp.put_other h2], sem⟩
end
end Go.Proofs.Ytnbfffmdplcajaa
namespace Go.Proofs.Ytnbfffmdplcajaa
open Go.Vc Go.Vc.Rf

section
variable {w0 w : World} {H M U : Mp}
variable {P : Program} {R : Value → World → Prop} {env : Nat → List Value → World → Prop}

theorem wp_yes {c : Bool} {x y : VC} (h : c = true) (ht : x.wp P R env w) : (bif c then x else y : VC).wp P R env w := by rw [h]; exact ht
theorem wp_no {c : Bool} {x y : VC} (h : c = false) (ht : y.wp P R env w) : (bif c then x else y : VC).wp P R env w := by rw [h]; exact ht

theorem sameRec {x : Rec} {xs ys : List Value} (hp : Hp w0 w H M) (hx : Rc H xs x) (hy : Rc H ys x) :
    Runs Try.prog 108 [.agg xs.toArray, .agg ys.toArray] w fun v w' => v = .bool true ∧ Hp w0 w' H M := by
  obtain ⟨a1, n1, c1, a2, n2, c2, rfl, hes, hst⟩ := hx
  obtain ⟨d1, m1, k1, d2, m2, k2, rfl, hfs, hsu⟩ := hy
  apply r108
  refine wp_newH hp fun p1 w1 H1 hp1 hl1 f1 => wp_newH hp1 fun p2 w2 H2 hp2 hl2 f2 => ?_
  replace f1 := hl2 _ _ f1
  have hle := hl1.trans hl2
  (refine wp_load (hp2.loadH f1 (by simp)) ?_; (repeat apply Exists.intro); refine ⟨rfl, ?_⟩)
  (refine wp_load (hp2.loadH f2 (by simp)) ?_; (repeat apply Exists.intro); refine ⟨rfl, ?_⟩)
  refine wp_yes (by simp) ?_
  (refine wp_load (hp2.loadH f1 (by simp)) ?_; (repeat apply Exists.intro); refine ⟨rfl, ?_⟩)
  (refine wp_load (hp2.loadH f2 (by simp)) ?_; (repeat apply Exists.intro); refine ⟨rfl, ?_⟩)
  refine wp_yes (by simp) ?_
  (refine wp_load (hp2.loadH f1 (by simp)) ?_; (repeat apply Exists.intro); refine ⟨rfl, ?_⟩)
  refine wp_newH hp2 fun p3 w3 H3 hp3 hl3 f3 => ?_
  (refine wp_load (hp3.loadH (hl3 _ _ f2) (by simp)) ?_; (repeat apply Exists.intro); refine ⟨rfl, ?_⟩)
  refine wp_newH hp3 fun p4 w4 H4 hp4 hl4 f4 => ?_
  have l4 := hle.trans (hl3.trans hl4)
  refine wp_call (sameEntries (es := [x.ent]) (fs := [x.ent]) hp4 (Sl.one (hl4 _ _ f3) ⟨_, _, _, rfl, hes.mono l4⟩) (Sl.one f4 ⟨_, _, _, rfl, hfs.mono l4⟩) (by simp)) fun v5 w5 h5 => ?_
  obtain ⟨b5, rfl, i5, hp5⟩ := h5
  ((repeat apply Exists.intro); refine ⟨rfl, ?_⟩)
  refine wp_yes (i5.2 rfl) ?_
  have f1' := hl4 _ _ (hl3 _ _ f1)
  have f2' := hl4 _ _ (hl3 _ _ f2)
  (refine wp_load (hp5.loadH f1' (by simp)) ?_; (repeat apply Exists.intro); refine ⟨rfl, ?_⟩)
  (refine wp_load (hp5.loadH f2' (by simp)) ?_; (repeat apply Exists.intro); refine ⟨rfl, ?_⟩)
  refine wp_yes (by simp) ?_
  (refine wp_load (hp5.loadH f1' (by simp)) ?_; (repeat apply Exists.intro); refine ⟨rfl, ?_⟩)
  (refine wp_load (hp5.loadH f2' (by simp)) ?_; (repeat apply Exists.intro); refine ⟨rfl, ?_⟩)
  refine wp_call (sameSnap (s := x.snap) (t := x.snap) hp5 (hst.mono l4) (hsu.mono l4)) fun v6 w6 h6 => ?_
  obtain ⟨b6, rfl, i6, hp6⟩ := h6
  ((repeat apply Exists.intro); refine ⟨rfl, ?_⟩)
  exact ⟨by rw [i6.2 rfl], hp6.lessH l4⟩

theorem sameRecs {aa ba : Option Addr} {an ac bn bc : Nat} {l : List Rec} (hp : Hp w0 w H M) (ha : Sl H (Rc H) aa an ac l) (hb : Sl H (Rc H) ba bn bc l) (hl : l.length ≤ 4398046511104) :
    Runs Try.prog 82 [.slice aa an ac, .slice ba bn bc] w fun v w' => v = .bool true ∧ Hp w0 w' H M := by
  have hn := ha.1
  have hm := hb.1
  apply r82
  refine wp_no (by rw [hn, hm]; simp) ?_
  refine ⟨fun vs w' => ∃ k : Nat, vs = [.int .i64 k] ∧ k ≤ l.length ∧ Hp w0 w' H M, fun vs _ => match vs with | [.int _ q] => l.length - q.toNat | _ => 0, ⟨0, rfl, Nat.zero_le _, hp⟩, ?_⟩
  rintro vs w' ⟨k, rfl, hk, hp'⟩
  ((repeat apply Exists.intro); refine ⟨rfl, ?_⟩)
  refine wp_bif (fun hlt => ?_) fun hge => ?_
  · have hklt : k < l.length := by have := of_decide_eq_true hlt; omega
    have hpd := hp'.drew
    have eg : l.getD ((k : Int)).toNat Rec.none = l[k] := by rw [List.getD_eq_getElem?_getD, Int.toNat_natCast, List.getElem?_eq_getElem hklt]; rfl
    refine wp_idx Rc.len (by omega) hpd (Mp.le.refl _) (ha.mono hpd.le_uni fun _ _ h => h) Rec.none 9 (by omega) (by omega) (by omega) fun cs hcs => ?_
    rw [eg] at hcs
    obtain ⟨a1, n1, c1, a2, n2, c2, rfl, hes, hst⟩ := hcs
    ((repeat apply Exists.intro); refine ⟨rfl, ?_⟩)
    refine wp_idx Rc.len (by omega) hpd (Mp.le.refl _) (hb.mono hpd.le_uni fun _ _ h => h) Rec.none 9 (by omega) (by omega) (by omega) fun cs hcs => ?_
    rw [eg] at hcs
    obtain ⟨d1, m1, k1, d2, m2, k2, rfl, hfs, hsu⟩ := hcs
    ((repeat apply Exists.intro); refine ⟨rfl, ?_⟩)
    refine wp_call (sameRec (x := l[k]) hpd ⟨_, _, _, _, _, _, rfl, hes, hst⟩ ⟨_, _, _, _, _, _, rfl, hfs, hsu⟩) fun v5 w5 h5 => ?_
    obtain ⟨rfl, hp5⟩ := h5
    ((repeat apply Exists.intro); refine ⟨rfl, ?_⟩)
    refine wp_no rfl ?_
    have ew : IntKind.i64.wrap ((k : Int) + 1) = ((k + 1 : Nat) : Int) := by rw [wrap_i64 (by omega) (by omega)]; rfl
    refine ⟨⟨k + 1, by rw [ew], hklt, hp5⟩, ?_⟩
    show l.length - (IntKind.i64.wrap ((k : Int) + 1)).toNat < l.length - (k : Int).toNat
    rw [ew]; omega
  · exact ⟨rfl, hp'⟩

theorem sameMsgs {aa ba : Option Addr} {an ac bn bc : Nat} {l : List Msg} (hp : Hp w0 w H M) (ha : Sl H (Ms H) aa an ac l) (hb : Sl H (Ms H) ba bn bc l) (hl : l.length ≤ 4398046511104) (he : ∀ m ∈ l, m.entries.length ≤ 4398046511104) :
    Runs Try.prog 83 [.slice aa an ac, .slice ba bn bc] w fun v w' => v = .bool true ∧ Hp w0 w' H M := by
  have hn := ha.1
  have hm := hb.1
  apply r83
  refine wp_no (by rw [hn, hm]; simp) ?_
  refine ⟨fun vs w' => ∃ k : Nat, vs = [.int .i64 k] ∧ k ≤ l.length ∧ Hp w0 w' H M, fun vs _ => match vs with | [.int _ q] => l.length - q.toNat | _ => 0, ⟨0, rfl, Nat.zero_le _, hp⟩, ?_⟩
  rintro vs w' ⟨k, rfl, hk, hp'⟩
  ((repeat apply Exists.intro); refine ⟨rfl, ?_⟩)
  refine wp_bif (fun hlt => ?_) fun hge => ?_
  · have hklt : k < l.length := by have := of_decide_eq_true hlt; omega
    have hpd := hp'.drew
    have eg : l.getD ((k : Int)).toNat Msg.none = l[k] := by rw [List.getD_eq_getElem?_getD, Int.toNat_natCast, List.getElem?_eq_getElem hklt]; rfl
    refine wp_idx Ms.len (by omega) hpd (Mp.le.refl _) (ha.mono hpd.le_uni fun _ _ h => h) Msg.none 21 (by omega) (by omega) (by omega) fun cs hcs => ?_
    rw [eg] at hcs
    obtain ⟨a1, n1, c1, a2, n2, c2, rfl, hes, hst⟩ := hcs
    ((repeat apply Exists.intro); refine ⟨rfl, ?_⟩)
    refine wp_idx Ms.len (by omega) hpd (Mp.le.refl _) (hb.mono hpd.le_uni fun _ _ h => h) Msg.none 21 (by omega) (by omega) (by omega) fun cs hcs => ?_
    rw [eg] at hcs
    obtain ⟨d1, m1, k1, d2, m2, k2, rfl, hfs, hsu⟩ := hcs
    ((repeat apply Exists.intro); refine ⟨rfl, ?_⟩)
    refine wp_call (sameMsg (x := l[k]) (y := l[k]) hpd ⟨_, _, _, _, _, _, rfl, hes, hst⟩ ⟨_, _, _, _, _, _, rfl, hfs, hsu⟩ (he _ (List.getElem_mem hklt))) fun v5 w5 h5 => ?_
    obtain ⟨b5, rfl, i5, hp5⟩ := h5
    ((repeat apply Exists.intro); refine ⟨rfl, ?_⟩)
    refine wp_no (by rw [i5.2 rfl]; rfl) ?_
    have ew : IntKind.i64.wrap ((k : Int) + 1) = ((k + 1 : Nat) : Int) := by rw [wrap_i64 (by omega) (by omega)]; rfl
    refine ⟨⟨k + 1, by rw [ew], hklt, hp5⟩, ?_⟩
    show l.length - (IntKind.i64.wrap ((k : Int) + 1)).toNat < l.length - (k : Int).toNat
    rw [ew]; omega
  · exact ⟨rfl, hp'⟩

theorem sameOut {q : Out} {cs ds : List Value} (hp : Hp w0 w H M) (ha : Ou H cs q) (hb : Ou H ds q) (h1 : q.save.length ≤ 4398046511104) (h2 : q.send.length ≤ 4398046511104) (h3 : q.ready.length ≤ 4398046511104) (he : ∀ m ∈ q.send, m.entries.length ≤ 4398046511104) :
    Runs Try.prog 40 [.agg cs.toArray, .agg ds.toArray] w fun v w' => v = .bool true ∧ Hp w0 w' H M := by
  obtain ⟨ss, dd, rs, rfl, a1, a2, a3⟩ := ha
  obtain ⟨st, dt, rt, rfl, b1, b2, b3⟩ := hb
  apply r40
  refine wp_newH hp fun p1 w1 H1 hp1 hl1 f1 => wp_newH hp1 fun p2 w2 H2 hp2 hl2 f2 => ?_
  replace f1 := hl2 _ _ f1
  have hle := hl1.trans hl2
  (refine wp_load (hp2.loadH f1 (by simp)) ?_; (repeat apply Exists.intro); refine ⟨rfl, ?_⟩)
  (refine wp_load (hp2.loadH f2 (by simp)) ?_; (repeat apply Exists.intro); refine ⟨rfl, ?_⟩)
  refine wp_call (sameRecs hp2 (a1.mono hle (Rc.mono hle)) (b1.mono hle (Rc.mono hle)) h1) fun v3 w3 i3 => ?_
  obtain ⟨rfl, hp3⟩ := i3
  ((repeat apply Exists.intro); refine ⟨rfl, ?_⟩)
  refine wp_yes rfl ?_
  (refine wp_load (hp3.loadH f1 (by simp)) ?_; (repeat apply Exists.intro); refine ⟨rfl, ?_⟩)
  (refine wp_load (hp3.loadH f2 (by simp)) ?_; (repeat apply Exists.intro); refine ⟨rfl, ?_⟩)
  refine wp_call (sameMsgs hp3 (a2.mono hle (Ms.mono hle)) (b2.mono hle (Ms.mono hle)) h2 he) fun v4 w4 i4 => ?_
  obtain ⟨rfl, hp4⟩ := i4
  ((repeat apply Exists.intro); refine ⟨rfl, ?_⟩)
  refine wp_yes rfl ?_
  (refine wp_load (hp4.loadH f1 (by simp)) ?_; (repeat apply Exists.intro); refine ⟨rfl, ?_⟩)
  (refine wp_load (hp4.loadH f2 (by simp)) ?_; (repeat apply Exists.intro); refine ⟨rfl, ?_⟩)
  refine wp_call (sameReads_runs hp4 (a3.mono hle fun _ _ h => h) (b3.mono hle fun _ _ h => h) h3) fun v5 w5 i5 => ?_
  obtain ⟨rfl, hp5⟩ := i5
  ((repeat apply Exists.intro); refine ⟨rfl, ?_⟩)
  exact ⟨rfl, hp5.lessH hle⟩
end
end Go.Proofs.Ytnbfffmdplcajaa
