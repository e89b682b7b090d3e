/- A raft, what is kept, and what comes of a step, as values; reading what is written and what is not. -/
import Derived.Test.YtnbfffmdplcajaaPure
namespace Go.Vc

/-- All blocks that are known. -/
def uni (H M : Mp) : Mp := fun b => match M b with | some cs => some cs | none => H b

section
variable {w0 w : World} {H M : Mp}

theorem uni_M {b : Nat} {cs : List Value} (h : M b = some cs) : uni H M b = some cs := by simp [uni, h]
theorem Hp.le_uni (hp : Hp w0 w H M) : H.le (uni H M) := fun b cs h => by
  unfold uni
  cases hm : M b with
  | none => exact h
  | some c => rw [hp.sep _ _ hm] at h; cases h
theorem uni_mono {H' : Mp} (h : H.le H') : (uni H M).le (uni H' M) := fun b cs hb => by
  unfold uni at *
  cases hm : M b with
  | none => rw [hm] at hb; exact h _ _ hb
  | some c => rw [hm] at hb; exact hb
theorem uni_frame {H' M' : Mp} (h : H.le H') (hm : ∀ b, M b ≠ none → M' b = M b) (hn : ∀ b, M b = none → M' b ≠ none → H b = none) : (uni H M).le (uni H' M') := fun b cs hb => by
  unfold uni at *
  cases e : M b with
  | some c => rw [e] at hb; rw [hm b (by rw [e]; simp), e]; exact hb
  | none =>
    rw [e] at hb
    cases e2 : M' b with
    | none => exact h _ _ hb
    | some c => rw [hn b e (by rw [e2]; simp)] at hb; cases hb

theorem Hp.loadU (hp : Hp w0 w H M) {b : Nat} {cs : List Value} (hb : uni H M b = some cs) {off n : Nat} (hn : off + n ≤ cs.length) : cellsAt w ⟨b, off, none⟩ 0 n = some ((cs.drop off).take n) := by
  unfold uni at hb
  cases e : M b with
  | some c => rw [e] at hb; cases hb; exact hp.loadM e hn
  | none => rw [e] at hb; exact hp.loadH hb hn

theorem SlC.readU {a : Option Addr} {cells : List Value} (hs : SlC (uni H M) a cells) (hp : Hp w0 w H M) {n : Nat} (hn : n = cells.length) : readN w a n = some cells := by
  subst hn
  rcases hs with e | ⟨b, o, cs, h1, h2, h3⟩
  · subst e; cases a <;> simp [readN, cellsAt]
  · subst h1
    rcases SlC.len h3 with hl | e
    · simp only [readN]
      rw [hp.loadU h2 hl, h3]
    · subst e; simp [readN, cellsAt]

theorem Own.uni {k : Nat} {s : Sl3} {cells : List Value} {o : List Nat} (h : Own M k s cells o) : SlC (uni H M) s.a cells := by
  obtain ⟨hl, h2⟩ := h
  rcases h2 with ⟨h3, h4, _, _⟩ | ⟨b, cs, h3, h4, h5, h6, h7, h8⟩
  · left; exact List.eq_nil_of_length_eq_zero (by rw [hl, h4]; simp)
  · exact .inr ⟨b, 0, cs, h3, uni_M h5, by rw [List.drop_zero, hl]; exact h8⟩
end

theorem Mp.put_put (M : Mp) (b : Nat) (x y : List Value) : (M.put b x).put b y = M.put b y := by
  funext z; by_cases e : z = b <;> simp [Mp.put, e]
theorem Adv.putNew {M : Mp} {o : List Nat} {p : Nat} {cs : List Value} (h : M p = none) : Adv M o (M.put p cs) o :=
  ⟨fun _ hb _ => Mp.put_other fun e => hb (e ▸ h), fun _ h => .inl h⟩
theorem Rf.Low.putNew {M : Mp} {s : Nat} {cs : List Value} {g : Rf.Gs} (low : Rf.Low M s cs g) {p : Nat} {cs' : List Value} (h : M p = none) : Rf.Low (M.put p cs') s cs g :=
  low.frame fun b hb => Mp.put_other fun e => (by
    subst e
    rcases Rf.Gs.mem_own.1 hb with e | ⟨i, hi, h2⟩
    · subst e; rw [low.var] at h; cases h
    · exact (low.own i hi).ne _ h2 h)
theorem Rf.St.putNew {H M : Mp} {s : Nat} {o : List Nat} {r : Rf.Raft} {q : Rf.Out} (st : Rf.St H M s o r q) {p : Nat} {cs' : List Value} (h : M p = none) : Rf.St H (M.put p cs') s o r q :=
  st.frame fun b hb => Mp.put_other fun e => (by subst e; exact st.ne _ hb h)
theorem wp_store1 {P : Program} {R : Value → World → Prop} {env : Nat → List Value → World → Prop} {w0 w : World} {H M : Mp} {b off : Nat} {vs cs : List Value} (hp : Hp w0 w H (M.put b cs)) {k : VC} (hn : off + vs.length ≤ cs.length) (h1 : ∀ v ∈ vs, v.oneCell' = true)
    (hk : ∀ w', Hp w0 w' H (M.put b (splice cs off vs)) → k.wp P R env w') : (VC.store ⟨b, off, none⟩ vs k).wp P R env w :=
  wp_store hp (Mp.put_same _ _ _) hn h1 fun w' hp' => hk w' (by rwa [Mp.put_put] at hp')

theorem Hp.fix {w0 w : World} {H M : Mp} {b : Nat} {vs : List Value} (hp : Hp w0 w H (M.put b vs)) (hM : M b = none) : Hp w0 w (H.put b vs) M ∧ H.le (H.put b vs) := by
  have hH : H b = none := hp.sep _ _ (Mp.put_same _ _ _)
  have h3 := hp.freeze [b]
  have e1 : H.froz (M.put b vs) [b] = H.put b vs := by
    funext x
    by_cases hx : x = b
    · subst hx; simp [Mp.froz, Mp.put]
    · simp [Mp.froz, Mp.put, hx]
  have e2 : (M.put b vs).thaw [b] = M := by
    funext x
    by_cases hx : x = b
    · subst hx; simp [Mp.thaw, hM]
    · simp [Mp.thaw, Mp.put, hx]
  rw [e1, e2] at h3
  exact ⟨h3, Mp.le_put hH⟩
theorem Adv.sub {M M' : Mp} {o o' o'' : List Nat} (h : Adv M o M' o') (hs : ∀ b ∈ o'', b ∈ o') : Adv M o M' o'' := ⟨h.keep, fun b hb => h.fresh b (hs b hb)⟩
theorem Adv.right {M M' : Mp} {o o' : List Nat} (h : Adv M o M' o') (t : List Nat) : Adv M (o ++ t) M' (o' ++ t) :=
  ⟨fun b hb hn => h.keep b hb fun h2 => hn (List.mem_append_left _ h2), fun b hb => by
    rcases List.mem_append.1 hb with h2 | h2
    · rcases h.fresh b h2 with h3 | h3
      · exact .inl (List.mem_append_left _ h3)
      · exact .inr h3
    · exact .inl (List.mem_append_right _ h2)⟩
theorem Adv.left {M M' : Mp} {o o' : List Nat} (h : Adv M o M' o') (t : List Nat) : Adv M (t ++ o) M' (t ++ o') :=
  ⟨fun b hb hn => h.keep b hb fun h2 => hn (List.mem_append_right _ h2), fun b hb => by
    rcases List.mem_append.1 hb with h2 | h2
    · exact .inl (List.mem_append_left _ h2)
    · rcases h.fresh b h2 with h3 | h3
      · exact .inl (List.mem_append_right _ h3)
      · exact .inr h3⟩
/-- What lies apart stays apart. -/
theorem Own.beside {M M' : Mp} {k : Nat} {t : Sl3} {cells : List Value} {ot o o' : List Nat} (h : Own M k t cells ot) (ha : Adv M o M' o') (hd : ∀ b ∈ ot, b ∉ o) : Own M' k t cells ot ∧ ∀ b ∈ ot, b ∉ o' :=
  ⟨h.frame fun b hb => ha.keep b (h.ne b hb) (hd b hb), fun b hb hb2 => by
    rcases ha.fresh b hb2 with e | e
    · exact hd b hb e
    · exact h.ne b hb e⟩
theorem Rf.St.beside {H M M' : Mp} {s : Nat} {o ot ot' : List Nat} {r : Rf.Raft} {q : Rf.Out} (st : Rf.St H M s o r q) (ha : Adv M ot M' ot') (hd : ∀ b ∈ ot, b ∉ o) : Rf.St H M' s o r q ∧ ∀ b ∈ ot', b ∉ o :=
  ⟨st.frame fun b hb => ha.keep b (st.ne b hb) fun h => hd b h hb, fun b hb hb2 => by
    rcases ha.fresh b hb with e | e
    · exact hd b e hb2
    · exact st.ne b hb2 e⟩
/-- One slice, of blocks of its own, in another's place. -/
theorem Rf.Low.set {M : Mp} {s : Nat} {cs : List Value} {g : Rf.Gs} (low : Rf.Low M s cs g) {i : Nat} (_ : i < 9) {c : Rf.Comp} (ho : Own M (Rf.wd i) c.sl c.cells c.o) (hd : ∀ b ∈ c.o, b ∉ g.own s) : Rf.Low M s cs (g.upd i c) := by
  have hno : ∀ b ∈ c.o, b ≠ s ∧ ∀ j, j < 9 → b ∉ (g j).o := fun b hb => ⟨fun e => hd b hb (Rf.Gs.mem_own.2 (.inl e)), fun j hj h => hd b hb (Rf.Gs.mem_own.2 (.inr ⟨j, hj, h⟩))⟩
  refine ⟨low.var, fun j hj => ?_, fun j k hj hk hjk b hb => ?_, fun j hj => ?_⟩
  · by_cases e : j = i
    · subst e; rw [Rf.Gs.upd_same]; exact ho
    · rw [Rf.Gs.upd_other e]; exact low.own j hj
  · by_cases e1 : j = i
    · subst e1
      rw [Rf.Gs.upd_same] at hb
      rw [Rf.Gs.upd_other (Ne.symm hjk)]
      exact (hno b hb).2 k hk
    · rw [Rf.Gs.upd_other e1] at hb
      by_cases e2 : k = i
      · subst e2; rw [Rf.Gs.upd_same]; exact fun h => (hno b h).2 j hj hb
      · rw [Rf.Gs.upd_other e2]; exact low.apart j k hj hk hjk b hb
  · by_cases e : j = i
    · subst e; rw [Rf.Gs.upd_same]; exact fun h => (hno s h).1 rfl
    · rw [Rf.Gs.upd_other e]; exact low.notS j hj
theorem Rf.Gs.own_upd {g : Rf.Gs} {s i : Nat} {c : Rf.Comp} (b : Nat) (hb : b ∈ (g.upd i c).own s) : b ∈ g.own s ++ c.o := by
  rcases Rf.Gs.mem_own.1 hb with e | ⟨j, hj, h⟩
  · exact List.mem_append_left _ (Rf.Gs.mem_own.2 (.inl e))
  · by_cases e : j = i
    · subst e; rw [Rf.Gs.upd_same] at h; exact List.mem_append_right _ h
    · rw [Rf.Gs.upd_other e] at h; exact List.mem_append_left _ (Rf.Gs.mem_own.2 (.inr ⟨j, hj, h⟩))

namespace Rf
section
variable {w0 w : World} {H M : Mp}

/-- An element of a slice, wherever it lies. -/
theorem Sl.elemU {α : Type} {U : Mp} {p : List Value → α → Prop} {k : Nat} (hk : ∀ c x, p c x → c.length = k) {a : Option Addr} {n c : Nat} {l : List α} (hs : Sl U p a n c l) {i : Nat} {x : α} (hx : l[i]? = some x) (h0 : 0 < k) :
    ∃ b o cs, a = some ⟨b, o, none⟩ ∧ p cs x ∧ ∀ w' H' M', Hp w0 w' H' M' → U.le (uni H' M') → ∀ j m, j + m ≤ k → cellsAt w' ⟨b, o + i * k + j, none⟩ 0 m = some ((cs.drop j).take m) := by
  obtain ⟨h1, h2, cells, h3, h4⟩ := hs
  have hil : i < l.length := (List.getElem?_eq_some_iff.1 hx).1
  have hlen := LL.length hk h4
  have hik : i * k + k ≤ cells.length := by
    rw [hlen, show i * k + k = (i + 1) * k by rw [Nat.add_mul]; omega]
    exact Nat.mul_le_mul_right k hil
  have hget := LL.get hk i h4 hx
  rcases h3 with e | ⟨b, o, cs, ha, hb, ht⟩
  · subst e; simp at hik; omega
  · refine ⟨b, o, _, ha, hget, fun w' H' M' hp' hU j m hjm => ?_⟩
    have hl : o + cells.length ≤ cs.length := (SlC.len ht).resolve_right (by intro e; subst e; simp at hik; omega)
    rw [hp'.loadU (hU _ _ hb) (by omega)]
    congr 1
    rw [← ht, List.drop_take, List.drop_take, List.drop_take, List.drop_drop, List.drop_drop, List.take_take, List.take_take, Nat.min_eq_left (by omega)]
    rw [Nat.min_eq_left (by omega), Nat.add_assoc]

def cells17 (r : Raft) (ss ls vs ns ms as rs : Sl3) : List Value :=
  [.int .u64 r.term, .int .i64 r.vote, .int .i64 r.id, .int .i64 r.n, .int .u64 r.snap.idx, .int .u64 r.snap.term, .slice ss.a ss.n ss.c, .slice ls.a ls.n ls.c, .int .u64 r.commit, .int .i64 r.role, .int .i64 r.lead,
   .slice vs.a vs.n vs.c, .slice ns.a ns.n ns.c, .slice ms.a ms.n ms.c, .slice as.a as.n as.c, .int .u64 r.round, .slice rs.a rs.n rs.c]
structure RaS (H : Mp) (r : Raft) (ss ls vs ns ms as rs : Sl3) : Prop where
  state : Bs H ss.a ss.n ss.c r.snap.state
  log : Sl H (En H) ls.a ls.n ls.c r.log
  votes : Sl H Bo vs.a vs.n vs.c r.votes
  next : Sl H Nu ns.a ns.n ns.c r.next
  mat : Sl H Nu ms.a ms.n ms.c r.mat
  acks : Sl H Nu as.a as.n as.c r.acks
  reads : Sl H Re rs.a rs.n rs.c r.reads
theorem RaS.mono {H' : Mp} (h : H.le H') {r : Raft} {ss ls vs ns ms as rs : Sl3} (x : RaS H r ss ls vs ns ms as rs) : RaS H' r ss ls vs ns ms as rs :=
  ⟨x.state.mono h, x.log.mono h (En.mono h), x.votes.mono h (fun _ _ h => h), x.next.mono h (fun _ _ h => h), x.mat.mono h (fun _ _ h => h), x.acks.mono h (fun _ _ h => h), x.reads.mono h (fun _ _ h => h)⟩
/-- A raft's value. -/
def Ra (H : Mp) (cs : List Value) (r : Raft) : Prop := ∃ ss ls vs ns ms as rs, cs = cells17 r ss ls vs ns ms as rs ∧ RaS H r ss ls vs ns ms as rs
theorem Ra.mono {H H' : Mp} (h : H.le H') (cs : List Value) (r : Raft) (x : Ra H cs r) : Ra H' cs r := by
  obtain ⟨ss, ls, vs, ns, ms, as, rs, e, x⟩ := x; exact ⟨ss, ls, vs, ns, ms, as, rs, e, x.mono h⟩
theorem Ra.len {H : Mp} (cs : List Value) (r : Raft) (x : Ra H cs r) : cs.length = 17 := by obtain ⟨_, _, _, _, _, _, _, rfl, _⟩ := x; rfl
theorem Ra.one {H : Mp} (cs : List Value) (r : Raft) (x : Ra H cs r) : ∀ v ∈ cs, v.oneCell' = true := by obtain ⟨_, _, _, _, _, _, _, rfl, _⟩ := x; simp [cells17, Value.oneCell']

/-- What comes of a step, as a value. -/
def Ou (H : Mp) (cs : List Value) (q : Out) : Prop := ∃ ss ds rs : Sl3, cs = [.slice ss.a ss.n ss.c, .slice ds.a ds.n ds.c, .slice rs.a rs.n rs.c] ∧ Sl H (Rc H) ss.a ss.n ss.c q.save ∧ Sl H (Ms H) ds.a ds.n ds.c q.send ∧ Sl H Re rs.a rs.n rs.c q.ready
theorem Ou.mono {H H' : Mp} (h : H.le H') (cs : List Value) (q : Out) (x : Ou H cs q) : Ou H' cs q := by
  obtain ⟨ss, ds, rs, e, h1, h2, h3⟩ := x; exact ⟨ss, ds, rs, e, h1.mono h (Rc.mono h), h2.mono h (Ms.mono h), h3.mono h (fun _ _ h => h)⟩
theorem Ou.one {H : Mp} (cs : List Value) (q : Out) (x : Ou H cs q) : ∀ v ∈ cs, v.oneCell' = true := by obtain ⟨_, _, _, rfl, _⟩ := x; simp [Value.oneCell']

/-- What is kept, as a value. -/
def Kp (H : Mp) (cs : List Value) (k : Kept) : Prop :=
  ∃ ss es : Sl3, cs = [.int .u64 k.term, .int .i64 k.vote, .int .u64 k.snap.idx, .int .u64 k.snap.term, .slice ss.a ss.n ss.c, .slice es.a es.n es.c] ∧ Bs H ss.a ss.n ss.c k.snap.state ∧ Sl H (En H) es.a es.n es.c k.entries
theorem Kp.mono {H H' : Mp} (h : H.le H') (cs : List Value) (k : Kept) (x : Kp H cs k) : Kp H' cs k := by
  obtain ⟨ss, es, e, h1, h2⟩ := x; exact ⟨ss, es, e, h1.mono h, h2.mono h (En.mono h)⟩

theorem own_sl {α : Type} {p : List Value → α → Prop} {U : Mp} {k : Nat} (hk : ∀ c x, p c x → c.length = k) (hk0 : 0 < k) {s : Sl3} {cells : List Value} {o : List Nat} {l : List α} (ho : Own M k s cells o) (hU : SlC U s.a cells) (hl : LL p cells l) : Sl U p s.a s.n s.c l := by
  refine ⟨?_, ho.le, cells, hU, hl⟩
  have h1 := ho.1
  rw [LL.length hk hl] at h1
  exact (Nat.eq_of_mul_eq_mul_right hk0 h1).symm

/-- The step's raft, read where it lies. -/
theorem Low.ra {r : Raft} {q : Out} {ss : Sl3} {g : Gs} {s : Nat} {cs : List Value} (hp : Hp w0 w H M) (low : Low M s cs g) (sem : Sem H r q ss g) : RaS (uni H M) r ss (g 0).sl (g 1).sl (g 2).sl (g 3).sl (g 4).sl (g 5).sl := by
  have le := hp.le_uni
  have own := low.own
  exact ⟨sem.state.mono le, own_sl En.len (by omega) (own 0 (by omega)) (own 0 (by omega)).uni (sem.log.mono (En.mono le)), own_sl Bo.len (by omega) (own 1 (by omega)) (own 1 (by omega)).uni sem.votes,
    own_sl Nu.len (by omega) (own 2 (by omega)) (own 2 (by omega)).uni sem.next, own_sl Nu.len (by omega) (own 3 (by omega)) (own 3 (by omega)).uni sem.mat, own_sl Nu.len (by omega) (own 4 (by omega)) (own 4 (by omega)).uni sem.acks,
    own_sl Re.len (by omega) (own 5 (by omega)) (own 5 (by omega)).uni sem.reads⟩

/-- How long. -/
theorem Low.n {g : Gs} {s : Nat} {cs : List Value} (low : Low M s cs g) {i : Nat} (hi : i < 9) {α : Type} {p : List Value → α → Prop} {l : List α} (hk : ∀ c x, p c x → c.length = wd i) (hk0 : 0 < wd i) (hl : LL p (g i).cells l) : (g i).sl.n = l.length := by
  have h1 := (low.own i hi).1
  rw [LL.length hk hl] at h1
  exact (Nat.eq_of_mul_eq_mul_right hk0 h1).symm

/-- What a method comes to. -/
def Dd (w0 : World) (H M : Mp) (s : Nat) (o : List Nat) (x : Sp) (w' : World) : Prop := Did w0 H M s o x.r x.q w'
end
theorem clone_wpU {P : Program} {env : Nat → List Value → World → Prop} {w0 w : World} {H M : Mp} (hp : Hp w0 w H M) {e : TypeId} {k bts : Nat} {z : List Value} {sa : Option Addr} {sn : Nat} {cells : List Value}
    (hs : SlC (uni H M) sa cells) (hl : cells.length = sn * k) (hk : 0 < k) (hz : z.length = k) (h1 : ∀ v ∈ cells, v.oneCell' = true) (hb : 0 < bts) (hsz : sn * bts ≤ 140737488355328) :
    (cloneT e k bts z sa sn).wp P (Fresh w0 H M k sn cells) env w := by
  refine wp_bif (fun hn => ?_) fun _ => ?_
  · have hsa : sa = none := by simpa using hn
    subst hsa
    have hc : cells = [] := by
      rcases hs with e | ⟨b, o, cs, h, _⟩
      · exact e
      · cases h
    subst hc
    have hsn : sn = 0 := by
      rcases Nat.eq_zero_or_pos sn with e | e
      · exact e
      · have := Nat.mul_pos e hk
        simp at hl; omega
    exact ⟨⟨none, 0, 0⟩, M, [], rfl, hsn.symm, hp, Own.nil M k, Adv.refl _ _⟩
  · refine wp_new hp fun b w1 hp1 hMb hHb => ?_
    have hle : (uni H M).le (uni H (M.put b [])) := uni_frame (Mp.le.refl _) (fun x hx => Mp.put_other fun e => hx (e ▸ hMb)) fun x hx hx' => by
      by_cases e : x = b
      · rw [e]; exact hHb
      · rw [Mp.put_other e] at hx'; exact absurd hx hx'
    refine wp_append hp1 (own_fresh M k b) hz ((hs.mono hle).readU hp1 hl.symm) hl h1 hb (by simpa using hsz) fun s' M' o' w' hp' ho' hn' ha => ?_
    exact ⟨s', M', o', rfl, by rw [hn']; simp, hp', by simpa using ho', Adv.of_put hMb ha⟩
/-- No slice. -/
def nilC : Comp := ⟨⟨none, 0, 0⟩, [], []⟩

section
variable {P : Program} {R : Value → World → Prop} {env : Nat → List Value → World → Prop} {w0 w : World} {H M : Mp}

theorem Low.clear {s : Nat} {cs : List Value} {g : Gs} (low : Low M s cs g) {i : Nat} (hi : i < 9) : Low M s cs (g.upd i nilC) ∧ Adv M (g.own s) M ((g.upd i nilC).own s) := by
  have ha : Adv M (g i).o M nilC.o := ⟨fun _ _ _ => rfl, fun b hb => (by cases hb)⟩
  exact ⟨low.turn hi (Own.nil _ _) ha, adv_own hi ha⟩

theorem wp_appendL (i : Nat) (hi : i < 9) (hp : Hp w0 w H M) {s : Nat} {cs : List Value} {g : Gs} (low : Low M s cs g) {e : TypeId} {bts : Nat} {z : List Value} (hz : z.length = wd i)
    {b : Option Addr} {m : Nat} {news : List Value} (hn : readN w b (m * wd i) = some news) (hl : news.length = m * wd i) (h1 : ∀ v ∈ news, v.oneCell' = true) (hb : 0 < bts) (hsz : ((g i).sl.n + m) * bts ≤ 140737488355328)
    {k : Option Addr → Nat → Nat → VC}
    (hK : ∀ (s' : Sl3) (M' : Mp) (o' : List Nat) (w' : World), Hp w0 w' H M' → Low M' s cs (g.upd i ⟨s', (g i).cells ++ news, o'⟩) → s'.n = (g i).sl.n + m → Adv M (g.own s) M' ((g.upd i ⟨s', (g i).cells ++ news, o'⟩).own s) → (k s'.a s'.n s'.c).wp P R env w') :
    (VC.append e (wd i) bts z (g i).sl.a (g i).sl.n (g i).sl.c b m k).wp P R env w := by
  refine wp_append hp (low.own i hi) hz hn hl h1 hb hsz fun s' M' o' w' hp' ho' hn' ha => ?_
  exact hK s' M' o' w' hp' (low.turn (c := ⟨s', _, o'⟩) hi ho' ha) hn' (adv_own (c := ⟨s', _, o'⟩) hi ha)

/-- Cells of the step's variable written. -/
theorem wp_storeL (hp : Hp w0 w H M) {s : Nat} {cs : List Value} {g : Gs} (low : Low M s cs g) {off : Nat} {vs : List Value} {k : VC} (hn : off + vs.length ≤ cs.length) (h1 : ∀ v ∈ vs, v.oneCell' = true)
    (hk : ∀ w' M', Hp w0 w' H M' → Low M' s (splice cs off vs) g → Adv M (g.own s) M' (g.own s) → k.wp P R env w') : (VC.store ⟨s, off, none⟩ vs k).wp P R env w :=
  wp_store hp low.var hn h1 fun w' hp' => hk w' _ hp' low.var_put adv_put

theorem St.of {s : Nat} {cs : List Value} {g : Gs} {r : Raft} {q : Out} {ss : Sl3} (low : Low M s cs g) (h : cs = cells20 r ss g) (sem : Sem H r q ss g) : St H M s (g.own s) r q := ⟨⟨ss, g, rfl, h ▸ low, sem⟩⟩
/-- An element asked for, its first cells. -/
theorem wp_idx {α : Type} {p : List Value → α → Prop} {k : Nat} (hk : ∀ c x, p c x → c.length = k) (h0k : 0 < k) {U : Mp} (hp : Hp w0 w H M) (hU : U.le (uni H M)) {a : Option Addr} {n c : Nat} {l : List α} (hs : Sl U p a n c l) {i : Int} (d : α) (m : Nat)
    (h0 : 0 ≤ i) (h1 : i < l.length) (hm : m ≤ k) {kk : List Value → VC} (hK : ∀ cs, p cs (l.getD i.toNat d) → (kk (cs.take m)).wp P R env w) :
    (VC.some a fun x => .need ((0 : Int) ≤ i ∧ i < (n : Int)) <| .load (x.add (i.toNat * k)) m kk).wp P R env w := by
  have hn := hs.1
  have hil : i.toNat < l.length := by omega
  obtain ⟨b, o, cs, ha, hcs, hat⟩ := Sl.elemU hk hs (List.getElem?_eq_getElem hil) h0k
  have hat1 := hat _ _ _ hp hU 0 m (by omega)
  rw [Nat.add_zero, List.drop_zero] at hat1
  refine ⟨_, ha, ⟨h0, by omega⟩, ?_⟩
  simp only [add_mk]
  refine ⟨_, hat1, hK _ ?_⟩
  rw [List.getD_eq_getElem?_getD, List.getElem?_eq_getElem hil]
  exact hcs
end
end Rf
end Go.Vc
