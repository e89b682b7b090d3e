/- Raft's data as plain Lean, and how it lies in cells. -/
import Derived.Test.YtnbfffmdplcajaaRules
namespace Go.Vc
namespace Rf

structure Ent where
  term : Int
  data : List UInt8
structure Snp where
  idx : Int
  term : Int
  state : List UInt8
structure Rd where
  id : Int
  idx : Int
  round : Int
structure Raft where
  term : Int
  vote : Int
  id : Int
  n : Int
  snap : Snp
  log : List Ent
  commit : Int
  role : Int
  lead : Int
  votes : List Bool
  next : List Int
  mat : List Int
  acks : List Int
  round : Int
  reads : List Rd
structure Rec where
  kind : Int
  term : Int
  vote : Int
  ent : Ent
  idx : Int
  snap : Snp
structure Msg where
  kind : Int
  frm : Int
  dest : Int
  term : Int
  index : Int
  logTerm : Int
  entries : List Ent
  commit : Int
  round : Int
  ok : Bool
  snap : Snp
  ck : Int
  cc : Int
  cs : Int
  cname : ByteArray
  curl : ByteArray
  cuntil : Int
  aerr : Int
  atext : ByteArray
structure Out where
  save : List Rec
  send : List Msg
  ready : List Rd
structure Kept where
  term : Int
  vote : Int
  snap : Snp
  entries : List Ent

def Ent.none : Ent := ⟨0, []⟩
def Snp.none : Snp := ⟨0, 0, []⟩
def Rec.none : Rec := ⟨0, 0, 0, .none, 0, .none⟩
def Msg.none : Msg := ⟨0, 0, 0, 0, 0, 0, [], 0, 0, false, .none, 0, 0, 0, .empty, .empty, 0, 0, .empty⟩
def Out.none : Out := ⟨[], [], []⟩
def Raft.none : Raft := ⟨0, 0, 0, 0, .none, [], 0, 0, 0, [], [], [], [], 0, []⟩

/-! ### in cells -/
/-- Bytes that no one writes. -/
def Bs (H : Mp) (a : Option Addr) (n c : Nat) (l : List UInt8) : Prop := n = l.length ∧ n ≤ c ∧ l.length ≤ 140737488351232 ∧ SlC H a (l.map fun b => .int .u8 b.toNat)
/-- A slice of whatever, that no one writes. -/
def Sl {α : Type} (H : Mp) (p : List Value → α → Prop) (a : Option Addr) (n c : Nat) (l : List α) : Prop := n = l.length ∧ n ≤ c ∧ ∃ cells, SlC H a cells ∧ LL p cells l

def En (H : Mp) (cs : List Value) (e : Ent) : Prop := ∃ a n c, cs = [.int .u64 e.term, .slice a n c] ∧ Bs H a n c e.data
def Re (cs : List Value) (x : Rd) : Prop := cs = [.int .u64 x.id, .int .u64 x.idx, .int .u64 x.round]
def Nu (cs : List Value) (x : Int) : Prop := cs = [.int .u64 x]
def Bo (cs : List Value) (x : Bool) : Prop := cs = [.bool x]
def It (cs : List Value) (x : Int) : Prop := cs = [.int .i64 x]
def Sn (H : Mp) (cs : List Value) (s : Snp) : Prop := ∃ a n c, cs = [.int .u64 s.idx, .int .u64 s.term, .slice a n c] ∧ Bs H a n c s.state
def Rc (H : Mp) (cs : List Value) (x : Rec) : Prop :=
  ∃ a n c a2 n2 c2, cs = [.int .i64 x.kind, .int .u64 x.term, .int .i64 x.vote, .int .u64 x.ent.term, .slice a n c, .int .u64 x.idx, .int .u64 x.snap.idx, .int .u64 x.snap.term, .slice a2 n2 c2] ∧ Bs H a n c x.ent.data ∧ Bs H a2 n2 c2 x.snap.state
def Ms (H : Mp) (cs : List Value) (x : Msg) : Prop :=
  ∃ a n c a2 n2 c2, cs = [.int .i64 x.kind, .int .i64 x.frm, .int .i64 x.dest, .int .u64 x.term, .int .u64 x.index, .int .u64 x.logTerm, .slice a n c, .int .u64 x.commit, .int .u64 x.round, .bool x.ok,
    .int .u64 x.snap.idx, .int .u64 x.snap.term, .slice a2 n2 c2, .int .i64 x.ck, .int .i64 x.cc, .int .u64 x.cs, .string x.cname, .string x.curl, .int .u64 x.cuntil, .int .i64 x.aerr, .string x.atext] ∧
    Sl H (En H) a n c x.entries ∧ Bs H a2 n2 c2 x.snap.state

theorem Bs.mono {H H' : Mp} (h : H.le H') {a : Option Addr} {n c : Nat} {l : List UInt8} (hb : Bs H a n c l) : Bs H' a n c l := ⟨hb.1, hb.2.1, hb.2.2.1, hb.2.2.2.mono h⟩
theorem Sl.mono {α : Type} {H H' : Mp} (h : H.le H') {p q : List Value → α → Prop} (hpq : ∀ c x, p c x → q c x) {a : Option Addr} {n c : Nat} {l : List α} (hs : Sl H p a n c l) : Sl H' q a n c l := by
  obtain ⟨h1, h2, cells, h3, h4⟩ := hs
  exact ⟨h1, h2, cells, h3.mono h, h4.mono hpq⟩
theorem En.mono {H H' : Mp} (h : H.le H') (cs : List Value) (e : Ent) (he : En H cs e) : En H' cs e := by
  obtain ⟨a, n, c, h1, h2⟩ := he; exact ⟨a, n, c, h1, h2.mono h⟩
theorem Sn.mono {H H' : Mp} (h : H.le H') (cs : List Value) (e : Snp) (he : Sn H cs e) : Sn H' cs e := by
  obtain ⟨a, n, c, h1, h2⟩ := he; exact ⟨a, n, c, h1, h2.mono h⟩
theorem Rc.mono {H H' : Mp} (h : H.le H') (cs : List Value) (e : Rec) (he : Rc H cs e) : Rc H' cs e := by
  obtain ⟨a, n, c, a2, n2, c2, h1, h2, h3⟩ := he; exact ⟨a, n, c, a2, n2, c2, h1, h2.mono h, h3.mono h⟩
theorem Ms.mono {H H' : Mp} (h : H.le H') (cs : List Value) (e : Msg) (he : Ms H cs e) : Ms H' cs e := by
  obtain ⟨a, n, c, a2, n2, c2, h1, h2, h3⟩ := he; exact ⟨a, n, c, a2, n2, c2, h1, h2.mono h (En.mono h), h3.mono h⟩
theorem Bs.nil (H : Mp) : Bs H none 0 0 [] := ⟨rfl, Nat.le_refl _, by simp, .inl rfl⟩
theorem Sl.nil {α : Type} (H : Mp) (p : List Value → α → Prop) : Sl H p none 0 0 [] := ⟨rfl, Nat.le_refl _, [], .inl rfl, rfl⟩

theorem En.len {H : Mp} (c : List Value) (x : Ent) (h : En H c x) : c.length = 2 := by obtain ⟨_, _, _, rfl, _⟩ := h; rfl
theorem Re.len (c : List Value) (x : Rd) (h : Re c x) : c.length = 3 := by cases h; rfl
theorem Nu.len (c : List Value) (x : Int) (h : Nu c x) : c.length = 1 := by cases h; rfl
theorem It.len (c : List Value) (x : Int) (h : It c x) : c.length = 1 := by cases h; rfl
theorem Bo.len (c : List Value) (x : Bool) (h : Bo c x) : c.length = 1 := by cases h; rfl
theorem Rc.len {H : Mp} (c : List Value) (x : Rec) (h : Rc H c x) : c.length = 9 := by obtain ⟨_, _, _, _, _, _, rfl, _⟩ := h; rfl
theorem Ms.len {H : Mp} (c : List Value) (x : Msg) (h : Ms H c x) : c.length = 21 := by obtain ⟨_, _, _, _, _, _, rfl, _⟩ := h; rfl

/-- Each cell is one that may be stored. -/
theorem one_of {α : Type} {p : List Value → α → Prop} (h : ∀ c x, p c x → ∀ v ∈ c, v.oneCell' = true) : ∀ {cs : List Value} {xs : List α}, LL p cs xs → ∀ v ∈ cs, v.oneCell' = true
  | cs, [], hl => by simp only [LL] at hl; subst hl; simp
  | cs, x :: xs, ⟨c, r, e, hp, hr⟩ => by
    subst e
    intro v hv
    rcases List.mem_append.1 hv with h1 | h1
    · exact h c x hp v h1
    · exact one_of h hr v h1
theorem En.one {H : Mp} (c : List Value) (x : Ent) (h : En H c x) : ∀ v ∈ c, v.oneCell' = true := by obtain ⟨_, _, _, rfl, _⟩ := h; simp [Value.oneCell']
theorem Re.one (c : List Value) (x : Rd) (h : Re c x) : ∀ v ∈ c, v.oneCell' = true := by cases h; simp [Value.oneCell']
theorem Nu.one (c : List Value) (x : Int) (h : Nu c x) : ∀ v ∈ c, v.oneCell' = true := by cases h; simp [Value.oneCell']
theorem It.one (c : List Value) (x : Int) (h : It c x) : ∀ v ∈ c, v.oneCell' = true := by cases h; simp [Value.oneCell']
theorem Bo.one (c : List Value) (x : Bool) (h : Bo c x) : ∀ v ∈ c, v.oneCell' = true := by cases h; simp [Value.oneCell']
theorem Rc.one {H : Mp} (c : List Value) (x : Rec) (h : Rc H c x) : ∀ v ∈ c, v.oneCell' = true := by obtain ⟨_, _, _, _, _, _, rfl, _⟩ := h; simp [Value.oneCell']
theorem Ms.one {H : Mp} (c : List Value) (x : Msg) (h : Ms H c x) : ∀ v ∈ c, v.oneCell' = true := by obtain ⟨_, _, _, _, _, _, rfl, _⟩ := h; simp [Value.oneCell']
theorem bytes_one (l : List UInt8) : ∀ v ∈ l.map (fun b : UInt8 => Value.int .u8 b.toNat), v.oneCell' = true := by
  intro v hv; obtain ⟨b, _, rfl⟩ := List.mem_map.1 hv; rfl

/-! ### the step's variable: twenty cells, nine slices of its own -/
structure Comp where
  sl : Sl3
  cells : List Value
  o : List Nat
/-- Which nine: 0 the log, 1 the votes, 2 next, 3 match, 4 acks, 5 the reads, 6 what is saved, 7 what is sent, 8 what is ready. -/
abbrev Gs := Nat → Comp
def wd : Nat → Nat
  | 0 => 2 | 1 => 1 | 2 => 1 | 3 => 1 | 4 => 1 | 5 => 3 | 6 => 9 | 7 => 21 | _ => 3
def Comp.v (c : Comp) : Value := .slice c.sl.a c.sl.n c.sl.c

def cells20 (r : Raft) (ss : Sl3) (g : Gs) : List Value :=
  [.int .u64 r.term, .int .i64 r.vote, .int .i64 r.id, .int .i64 r.n, .int .u64 r.snap.idx, .int .u64 r.snap.term, .slice ss.a ss.n ss.c, (g 0).v, .int .u64 r.commit, .int .i64 r.role, .int .i64 r.lead,
   (g 1).v, (g 2).v, (g 3).v, (g 4).v, .int .u64 r.round, (g 5).v, (g 6).v, (g 7).v, (g 8).v]

/-- The blocks of a step. -/
def Gs.own (g : Gs) (s : Nat) : List Nat := s :: (List.range 9).flatMap fun i => (g i).o
theorem Gs.mem_own {g : Gs} {s b : Nat} : b ∈ g.own s ↔ b = s ∨ ∃ i, i < 9 ∧ b ∈ (g i).o := by
  simp [Gs.own]

structure Low (M : Mp) (s : Nat) (cs : List Value) (g : Gs) : Prop where
  var : M s = some cs
  own : ∀ i, i < 9 → Own M (wd i) (g i).sl (g i).cells (g i).o
  apart : ∀ i j, i < 9 → j < 9 → i ≠ j → ∀ b ∈ (g i).o, b ∉ (g j).o
  notS : ∀ i, i < 9 → s ∉ (g i).o

/-- The data that a step's cells say. -/
structure Sem (H : Mp) (r : Raft) (q : Out) (ss : Sl3) (g : Gs) : Prop where
  state : Bs H ss.a ss.n ss.c r.snap.state
  log : LL (En H) (g 0).cells r.log
  votes : LL Bo (g 1).cells r.votes
  next : LL Nu (g 2).cells r.next
  mat : LL Nu (g 3).cells r.mat
  acks : LL Nu (g 4).cells r.acks
  reads : LL Re (g 5).cells r.reads
  save : LL (Rc H) (g 6).cells q.save
  send : LL (Ms H) (g 7).cells q.send
  ready : LL Re (g 8).cells q.ready

theorem Sem.mono {H H' : Mp} (h : H.le H') {r : Raft} {q : Out} {ss : Sl3} {g : Gs} (hs : Sem H r q ss g) : Sem H' r q ss g :=
  ⟨hs.state.mono h, hs.log.mono (En.mono h), hs.votes, hs.next, hs.mat, hs.acks, hs.reads, hs.save.mono (Rc.mono h), hs.send.mono (Ms.mono h), hs.ready⟩

def Gs.upd (g : Gs) (i : Nat) (c : Comp) : Gs := fun j => if j = i then c else g j
@[simp] theorem Gs.upd_same (g : Gs) (i : Nat) (c : Comp) : g.upd i c i = c := by simp [Gs.upd]
theorem Gs.upd_other {g : Gs} {i j : Nat} {c : Comp} (h : j ≠ i) : g.upd i c j = g j := by simp [Gs.upd, h]

/-- The step's variable written: whatever cells. -/
theorem Low.var_put {M : Mp} {s : Nat} {cs cs' : List Value} {g : Gs} (h : Low M s cs g) : Low (M.put s cs') s cs' g :=
  ⟨Mp.put_same _ _ _, fun i hi => (h.own i hi).frame fun _ hb => Mp.put_other fun e => h.notS i hi (e ▸ hb), h.apart, h.notS⟩

/-- One slice turned. -/
theorem Low.turn {M M' : Mp} {s : Nat} {cs : List Value} {g : Gs} (h : Low M s cs g) {i : Nat} (hi : i < 9) {c : Comp} (ho : Own M' (wd i) c.sl c.cells c.o) (ha : Adv M (g i).o M' c.o) : Low M' s cs (g.upd i c) := by
  have keep : ∀ j, j < 9 → j ≠ i → ∀ b ∈ (g j).o, M' b = M b := fun j hj hji b hb =>
    ha.keep b ((h.own j hj).ne b hb) (h.apart j i hj hi hji b hb)
  have fresh : ∀ j, j < 9 → j ≠ i → ∀ b ∈ (g j).o, b ∉ c.o := fun j hj hji b hb hc => by
    rcases ha.fresh b hc with e | e
    · exact h.apart j i hj hi hji b hb e
    · exact (h.own j hj).ne b hb e
  refine ⟨?_, fun j hj => ?_, fun j k hj hk hjk b hb => ?_, fun j hj => ?_⟩
  · rw [ha.keep s (by rw [h.var]; simp) (h.notS i hi)]; exact h.var
  · by_cases e : j = i
    · subst e; rw [Gs.upd_same]; exact ho
    · rw [Gs.upd_other e]; exact (h.own j hj).frame (keep j hj e)
  · by_cases e1 : j = i
    · subst e1
      rw [Gs.upd_same] at hb
      rw [Gs.upd_other (Ne.symm hjk)]
      exact fun hc => fresh k hk (Ne.symm hjk) b hc hb
    · rw [Gs.upd_other e1] at hb
      by_cases e2 : k = i
      · subst e2; rw [Gs.upd_same]; exact fresh j hj e1 b hb
      · rw [Gs.upd_other e2]; exact h.apart j k hj hk hjk b hb
  · by_cases e : j = i
    · subst e
      rw [Gs.upd_same]
      intro hs
      rcases ha.fresh s hs with e | e
      · exact h.notS j hj e
      · rw [h.var] at e; cases e
    · rw [Gs.upd_other e]; exact h.notS j hj

/-- Other blocks turned. -/
theorem Low.frame {M M' : Mp} {s : Nat} {cs : List Value} {g : Gs} (h : Low M s cs g) (hf : ∀ b ∈ g.own s, M' b = M b) : Low M' s cs g :=
  ⟨by rw [hf s (Gs.mem_own.2 (.inl rfl))]; exact h.var, fun i hi => (h.own i hi).frame fun b hb => hf b (Gs.mem_own.2 (.inr ⟨i, hi, hb⟩)), h.apart, h.notS⟩

/-- THE STEP: its memory and its data. -/
structure St (H M : Mp) (s : Nat) (o : List Nat) (r : Raft) (q : Out) : Prop where
  ex : ∃ ss g, o = Gs.own g s ∧ Low M s (cells20 r ss g) g ∧ Sem H r q ss g

theorem St.mono {H H' M : Mp} {s : Nat} {o : List Nat} {r : Raft} {q : Out} (h : H.le H') (st : St H M s o r q) : St H' M s o r q := by
  obtain ⟨ss, g, e, hl, hs⟩ := st.ex; exact ⟨ss, g, e, hl, hs.mono h⟩

theorem St.frame {H M M' : Mp} {s : Nat} {o : List Nat} {r : Raft} {q : Out} (st : St H M s o r q) (hf : ∀ b ∈ o, M' b = M b) : St H M' s o r q := by
  obtain ⟨ss, g, e, hl, hs⟩ := st.ex; subst e; exact ⟨ss, g, rfl, hl.frame hf, hs⟩

theorem St.ne {H M : Mp} {s : Nat} {o : List Nat} {r : Raft} {q : Out} (st : St H M s o r q) : ∀ b ∈ o, M b ≠ none := by
  obtain ⟨ss, g, e, hl, hs⟩ := st.ex
  subst e
  intro b hb
  rcases Gs.mem_own.1 hb with e | ⟨i, hi, h⟩
  · subst e; rw [hl.var]; simp
  · exact (hl.own i hi).ne b h

theorem adv_own {M M' : Mp} {g : Gs} {s i : Nat} {c : Comp} (hi : i < 9) (ha : Adv M (g i).o M' c.o) : Adv M (g.own s) M' ((g.upd i c).own s) := by
  refine ⟨fun b hb hbo => ha.keep b hb fun h => hbo (Gs.mem_own.2 (.inr ⟨i, hi, h⟩)), fun b hb => ?_⟩
  rcases Gs.mem_own.1 hb with e | ⟨j, hj, h⟩
  · exact .inl (Gs.mem_own.2 (.inl e))
  · by_cases e : j = i
    · subst e
      rw [Gs.upd_same] at h
      rcases ha.fresh b h with h | h
      · exact .inl (Gs.mem_own.2 (.inr ⟨j, hj, h⟩))
      · exact .inr h
    · rw [Gs.upd_other e] at h
      exact .inl (Gs.mem_own.2 (.inr ⟨j, hj, h⟩))

theorem adv_put {M : Mp} {g : Gs} {s : Nat} {cs : List Value} : Adv M (g.own s) (M.put s cs) (g.own s) :=
  ⟨fun _ _ hbo => Mp.put_other fun e => hbo (Gs.mem_own.2 (.inl e)), fun _ h => .inl h⟩

/-- What a method comes to. -/
def Did (w0 : World) (H M : Mp) (s : Nat) (o : List Nat) (r : Raft) (q : Out) (w' : World) : Prop :=
  ∃ H' M' o', Hp w0 w' H' M' ∧ H.le H' ∧ Adv M o M' o' ∧ St H' M' s o' r q
end Rf
end Go.Vc
