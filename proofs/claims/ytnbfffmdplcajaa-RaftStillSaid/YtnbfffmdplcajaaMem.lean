/- Memory as a proof sees it: blocks that no one writes any more (H), blocks that are written (M), all else as it was (w0); the trees' rules over it. -/
import Derived.Test.YtnbfffmdplcajaaVcGen
namespace Go.Vc
open Go.RowKit (Below)

abbrev Mp := Nat → Option (List Value)
def Mp.put (M : Mp) (b : Nat) (cs : List Value) : Mp := fun x => if x = b then some cs else M x
def Mp.le (H H' : Mp) : Prop := ∀ b cs, H b = some cs → H' b = some cs
theorem Mp.le.refl (H : Mp) : H.le H := fun _ _ h => h
theorem Mp.le.trans {A B C : Mp} (h : A.le B) (k : B.le C) : A.le C := fun b cs hb => k b cs (h b cs hb)
@[simp] theorem Mp.put_same (M : Mp) (b : Nat) (cs : List Value) : M.put b cs b = some cs := by simp [Mp.put]
theorem Mp.put_other {M : Mp} {b x : Nat} {cs : List Value} (h : x ≠ b) : M.put b cs x = M x := by simp [Mp.put, h]
theorem Mp.le_put {H : Mp} {b : Nat} {cs : List Value} (h : H b = none) : H.le (H.put b cs) := fun x cs' hx => by
  by_cases e : x = b
  · subst e; rw [h] at hx; cases hx
  · rw [Mp.put_other e]; exact hx

structure Hp (w0 w : World) (H M : Mp) : Prop where
  below : Below w0.heap.size w0 w
  imm : ∀ b cs, H b = some cs → ∃ e fr, w.heap[b]? = some (.cells cs.toArray e fr)
  mem : ∀ b cs, M b = some cs → ∃ e, w.heap[b]? = some (.cells cs.toArray e (0, 0))
  sep : ∀ b cs, M b = some cs → H b = none
  new : ∀ b cs, M b = some cs → w0.heap.size ≤ b

section
variable {w0 w : World} {H M : Mp}

theorem Hp.fresh (hp : Hp w0 w H M) : H w.heap.size = none ∧ M w.heap.size = none := by
  constructor
  · cases h : H w.heap.size with
    | none => rfl
    | some cs =>
      obtain ⟨e, fr, hh⟩ := hp.imm _ _ h
      have := (Array.getElem?_eq_some_iff.1 hh).1
      omega
  · cases h : M w.heap.size with
    | none => rfl
    | some cs =>
      obtain ⟨e, hh⟩ := hp.mem _ _ h
      have := (Array.getElem?_eq_some_iff.1 hh).1
      omega

theorem Hp.lt_mut (hp : Hp w0 w H M) {b : Nat} {cs : List Value} (h : M b = some cs) : b < w.heap.size := by
  obtain ⟨e, hh⟩ := hp.mem _ _ h
  exact (Array.getElem?_eq_some_iff.1 hh).1

@[simp] theorem add_mk (b o n : Nat) : (⟨b, o, none⟩ : Addr).add n = ⟨b, o + n, none⟩ := by
  unfold Addr.add
  split
  · rename_i h; subst h; rfl
  · rfl

theorem cellsAt_block {b : Nat} {cs : List Value} {e : TypeId} {fr : Nat × Nat} (h : w.heap[b]? = some (.cells cs.toArray e fr)) (off : Nat) : ∀ (n i : Nat), off + i + n ≤ cs.length →
    cellsAt w ⟨b, off, none⟩ i n = some ((cs.drop (off + i)).take n)
  | 0, i, _ => by simp [cellsAt]
  | n + 1, i, hl => by
    have hc : w.cell? ((⟨b, off, none⟩ : Addr).add i) = some (cs[off + i]'(by omega)) := by
      rw [add_mk]
      simp only [World.cell?, h, Option.isSome_none, Bool.false_eq_true, if_false]
      simp [List.getElem?_eq_getElem (show off + i < cs.length by omega)]
    simp only [cellsAt, hc, cellsAt_block h off n (i + 1) (by omega), Option.map_some, Option.some.injEq]
    rw [List.drop_eq_getElem_cons (show off + i < cs.length by omega), List.take_succ_cons]
    rfl

theorem Hp.loadM (hp : Hp w0 w H M) {b : Nat} {cs : List Value} (hb : M b = some cs) {off n : Nat} (hn : off + n ≤ cs.length) : cellsAt w ⟨b, off, none⟩ 0 n = some ((cs.drop off).take n) := by
  obtain ⟨e, h⟩ := hp.mem _ _ hb
  exact cellsAt_block h off n 0 hn

theorem Hp.loadH (hp : Hp w0 w H M) {b : Nat} {cs : List Value} (hb : H b = some cs) {off n : Nat} (hn : off + n ≤ cs.length) : cellsAt w ⟨b, off, none⟩ 0 n = some ((cs.drop off).take n) := by
  obtain ⟨e, fr, h⟩ := hp.imm _ _ hb
  exact cellsAt_block h off n 0 hn

theorem Hp.drew (hp : Hp w0 w H M) : Hp w0 w.drew H M := ⟨hp.below.drew, hp.imm, hp.mem, hp.sep, hp.new⟩

theorem heap_alloc_old {o : Obj} {b : Nat} (h : b < w.heap.size) : (w.alloc o).heap[b]? = w.heap[b]? := Go.RowKit.Below.heap_alloc w o b h
theorem heap_alloc_new (o : Obj) : (w.alloc o).heap[w.heap.size]? = some o := by
  show (w.heap.push o)[w.heap.size]? = _
  simp

theorem Hp.alloc (hp : Hp w0 w H M) (cs : List Value) (e : TypeId) : Hp w0 (w.alloc (.cells cs.toArray e)) H (M.put w.heap.size cs) := by
  refine ⟨hp.below.alloc hp.below.size _, fun b c hb => ?_, fun b c hb => ?_, fun b c hb => ?_, fun b c hb => ?_⟩
  · obtain ⟨e', fr, h⟩ := hp.imm _ _ hb
    exact ⟨e', fr, by rw [heap_alloc_old (Array.getElem?_eq_some_iff.1 h).1]; exact h⟩
  · by_cases hbe : b = w.heap.size
    · subst hbe
      rw [Mp.put_same] at hb; cases hb
      exact ⟨e, heap_alloc_new _⟩
    · rw [Mp.put_other hbe] at hb
      obtain ⟨e', h⟩ := hp.mem _ _ hb
      exact ⟨e', by rw [heap_alloc_old (Array.getElem?_eq_some_iff.1 h).1]; exact h⟩
  · by_cases hbe : b = w.heap.size
    · subst hbe; exact hp.fresh.1
    · rw [Mp.put_other hbe] at hb; exact hp.sep _ _ hb
  · by_cases hbe : b = w.heap.size
    · subst hbe; exact hp.below.size
    · rw [Mp.put_other hbe] at hb; exact hp.new _ _ hb

/-- What is written no more is read by all. -/
def Mp.froz (H M : Mp) (o : List Nat) : Mp := fun x => if x ∈ o then (match M x with | some cs => some cs | none => H x) else H x
def Mp.thaw (M : Mp) (o : List Nat) : Mp := fun x => if x ∈ o then none else M x

theorem Hp.freeze (hp : Hp w0 w H M) (o : List Nat) : Hp w0 w (H.froz M o) (M.thaw o) := by
  refine ⟨hp.below, fun b c hb => ?_, fun b c hb => ?_, fun b c hb => ?_, fun b c hb => ?_⟩
  · unfold Mp.froz at hb
    split at hb
    · split at hb
      · rename_i cs hcs
        cases hb
        obtain ⟨e, h⟩ := hp.mem _ _ hcs
        exact ⟨e, _, h⟩
      · exact hp.imm _ _ hb
    · exact hp.imm _ _ hb
  · unfold Mp.thaw at hb
    split at hb
    · cases hb
    · exact hp.mem _ _ hb
  · unfold Mp.thaw at hb
    split at hb
    · cases hb
    · rename_i h
      simp only [Mp.froz, if_neg h]
      exact hp.sep _ _ hb
  · unfold Mp.thaw at hb
    split at hb
    · cases hb
    · exact hp.new _ _ hb

theorem Hp.froz_le (hp : Hp w0 w H M) (o : List Nat) : H.le (H.froz M o) := fun b cs hb => by
  unfold Mp.froz
  split
  · cases hm : M b with
    | none => exact hb
    | some c => rw [hp.sep _ _ hm] at hb; cases hb
  · exact hb

/-- Fewer blocks that are written. -/
theorem Hp.less (hp : Hp w0 w H M) {M' : Mp} (h : M'.le M) : Hp w0 w H M' :=
  ⟨hp.below, hp.imm, fun b c hb => hp.mem _ _ (h b c hb), fun b c hb => hp.sep _ _ (h b c hb), fun b c hb => hp.new _ _ (h b c hb)⟩

/-- New cells in the place of some. -/
def splice (cs : List Value) (off : Nat) (vs : List Value) : List Value := cs.take off ++ vs ++ cs.drop (off + vs.length)

theorem splice_cons {cs : List Value} {j : Nat} {v : Value} {vs : List Value} (hj : j < cs.length) : splice cs j (v :: vs) = splice (cs.set j v) (j + 1) vs := by
  unfold splice
  have e1 : (cs.set j v).take (j + 1) = cs.take j ++ [v] := by
    rw [List.take_succ_eq_append_getElem (by simpa using hj)]
    simp [List.take_set_of_le]
  have e2 : (cs.set j v).drop (j + 1 + vs.length) = cs.drop (j + (vs.length + 1)) := by
    rw [List.drop_set_of_lt (by omega)]
    congr 1; omega
  rw [e1, e2]
  simp

theorem storeW_setRow {b : Nat} {off : Nat} : ∀ (vs : List Value) (i : Nat) (w : World) (cs : List Value) (e : TypeId), w.heap[b]? = some (.cells cs.toArray e (0, 0)) → off + i + vs.length ≤ cs.length → (∀ v ∈ vs, v.oneCell' = true) →
    storeW w ⟨b, off, none⟩ i vs = some (w.setRow b (splice cs (off + i) vs).toArray)
  | [], i, w, cs, e, h, hl, h1 => by
    simp only [storeW, Option.some.injEq]
    have : splice cs (off + i) [] = cs := by simp [splice]
    rw [this]
    have hlt := (Array.getElem?_eq_some_iff.1 h).1
    have hv := (Array.getElem?_eq_some_iff.1 h).2
    unfold World.setRow
    cases w with
    | mk heap tape drawn os output =>
      congr 1
      apply Array.ext
      · simp
      · intro k h1 h2
        simp only [Array.getElem_modify]
        split
        · rename_i hk; subst hk; simp at hv; simp [hv]
        · rfl
  | v :: vs, i, w, cs, e, h, hl, h1 => by
    simp only [List.length_cons] at hl
    have hc : w.cell? ⟨b, off + i, none⟩ = some (cs[off + i]'(by omega)) := by
      simp only [World.cell?, h, Option.isSome_none, Bool.false_eq_true, if_false]
      simp [List.getElem?_eq_getElem (show off + i < cs.length by omega)]
    have hf : w.frozen? ⟨b, off + i, none⟩ = false := by simp [World.frozen?, h]
    simp only [storeW, add_mk, hc, hf, h1 v (by simp), Option.isSome_some, and_self, if_true]
    rw [setCell_eq_setRow w b (off + i) cs.toArray e (0, 0) v h]
    have hset : cs.toArray.setIfInBounds (off + i) v = (cs.set (off + i) v).toArray := by
      apply Array.ext'; simp
    rw [hset]
    have hrow := setRow_heap w b cs.toArray (cs.set (off + i) v).toArray e (0, 0) h
    rw [storeW_setRow vs (i + 1) _ (cs.set (off + i) v) e hrow (by simp; omega) (fun u hu => h1 u (by simp [hu])), setRow_setRow]
    rw [splice_cons (by omega : off + i < cs.length)]
    rfl

theorem Hp.store (hp : Hp w0 w H M) {b : Nat} {cs : List Value} (hb : M b = some cs) {off : Nat} {vs : List Value} (hn : off + vs.length ≤ cs.length) (h1 : ∀ v ∈ vs, v.oneCell' = true) :
    ∃ w', storeW w ⟨b, off, none⟩ 0 vs = some w' ∧ Hp w0 w' H (M.put b (splice cs off vs)) := by
  obtain ⟨e, h⟩ := hp.mem _ _ hb
  refine ⟨_, storeW_setRow vs 0 w cs e h hn h1, ?_⟩
  have hnew := hp.new _ _ hb
  refine ⟨⟨by rw [setRow_os]; exact hp.below.os, by rw [setRow_tape]; exact hp.below.tape, by rw [setRow_output]; exact hp.below.output, by rw [setRow_size]; exact hp.below.size, fun k hk => ?_⟩, fun x c hx => ?_, fun x c hx => ?_, fun x c hx => ?_, fun x c hx => ?_⟩
  · rw [setRow_other _ _ _ _ (by omega)]; exact hp.below.block k hk
  · have : x ≠ b := fun e => by subst e; rw [hp.sep _ _ hb] at hx; cases hx
    rw [setRow_other _ _ _ _ this]; exact hp.imm _ _ hx
  · by_cases e2 : x = b
    · subst e2
      rw [Mp.put_same] at hx; cases hx
      exact ⟨e, setRow_heap w x _ _ e _ h⟩
    · rw [Mp.put_other e2] at hx
      rw [setRow_other _ _ _ _ e2]; exact hp.mem _ _ hx
  · by_cases e2 : x = b
    · subst e2; exact hp.sep _ _ hb
    · rw [Mp.put_other e2] at hx; exact hp.sep _ _ hx
  · by_cases e2 : x = b
    · subst e2; exact hnew
    · rw [Mp.put_other e2] at hx; exact hp.new _ _ hx
end

/-! ### slices -/
structure Sl3 where
  a : Option Addr
  n : Nat
  c : Nat

/-- A slice whose cells no one writes. -/
def SlC (H : Mp) (a : Option Addr) (cells : List Value) : Prop := cells = [] ∨ ∃ b o cs, a = some ⟨b, o, none⟩ ∧ H b = some cs ∧ (cs.drop o).take cells.length = cells

theorem SlC.mono {H H' : Mp} (h : H.le H') {a : Option Addr} {cells : List Value} (hs : SlC H a cells) : SlC H' a cells := by
  rcases hs with e | ⟨b, o, cs, h1, h2, h3⟩
  · exact .inl e
  · exact .inr ⟨b, o, cs, h1, h _ _ h2, h3⟩

theorem SlC.nil (H : Mp) (a : Option Addr) : SlC H a [] := .inl rfl

section
variable {w0 w : World} {H M : Mp}

theorem SlC.len {cs cells : List Value} {o : Nat} (h3 : (cs.drop o).take cells.length = cells) : o + cells.length ≤ cs.length ∨ cells = [] := by
  have := congrArg List.length h3
  simp only [List.length_take, List.length_drop] at this
  rcases Nat.eq_zero_or_pos cells.length with e | e
  · exact .inr (List.eq_nil_of_length_eq_zero e)
  · left; omega

theorem SlC.at_ {a : Option Addr} {cells : List Value} (hs : SlC H a cells) (hp : Hp w0 w H M) {i n : Nat} (hn : 0 < n) (hi : i + n ≤ cells.length) :
    ∃ x, a = some x ∧ cellsAt w (x.add i) 0 n = some ((cells.drop i).take n) ∧ ∃ b o, x = ⟨b, o, none⟩ := by
  rcases hs with e | ⟨b, o, cs, h1, h2, h3⟩
  · subst e; simp at hi; omega
  · refine ⟨_, h1, ?_, b, o, rfl⟩
    have hl : o + cells.length ≤ cs.length := (SlC.len h3).resolve_right (by intro e; subst e; simp at hi; omega)
    rw [add_mk, hp.loadH h2 (by omega)]
    congr 1
    rw [← h3, List.drop_take, List.drop_drop, List.take_take, Nat.min_eq_left (by omega)]

theorem SlC.read {a : Option Addr} {cells : List Value} (hs : SlC H a cells) (hp : Hp w0 w H M) {n : Nat} (hn : n = cells.length) : readN w a n = some cells := by
  subst hn
  rcases hs with e | ⟨b, o, cs, h1, h2, h3⟩
  · subst e; cases a <;> simp [readN, cellsAt]
  · subst h1
    rcases SlC.len h3 with hl | e
    · simp only [readN]
      rw [hp.loadH h2 hl, h3]
    · subst e; simp [readN, cellsAt]

theorem SlC.take {a : Option Addr} {cells : List Value} (hs : SlC H a cells) (j : Nat) : SlC H a (cells.take j) := by
  rcases hs with e | ⟨b, o, cs, h1, h2, h3⟩
  · subst e; left; simp
  · refine .inr ⟨b, o, cs, h1, h2, ?_⟩
    have e : cells.take j = (cs.drop o).take (min j cells.length) := by
      conv => lhs; rw [← h3]
      rw [List.take_take]
    rw [e, List.length_take]
    exact List.take_eq_take_iff.2 (by omega)

theorem SlC.drop {a : Option Addr} {cells : List Value} (hs : SlC H a cells) {l k n c : Nat} (hn : cells.length = n * k) (hnc : n ≤ c) : SlC H (if c = l then a else a.map (·.add (l * k))) (cells.drop (l * k)) := by
  by_cases hcl : c = l
  · left
    have : n * k ≤ l * k := Nat.mul_le_mul_right k (by omega)
    exact List.drop_eq_nil_of_le (by omega)
  · rw [if_neg hcl]
    rcases hs with e | ⟨b, o, cs, h1, h2, h3⟩
    · subst e; left; simp
    · refine .inr ⟨b, o + l * k, cs, by rw [h1]; simp, h2, ?_⟩
      rw [List.length_drop, ← List.drop_drop]
      have h4 := congrArg (List.drop (l * k)) h3
      rwa [List.drop_take] at h4

/-- A slice whose cells a function writes itself: 'o': its block. -/
def Own (M : Mp) (k : Nat) (s : Sl3) (cells : List Value) (o : List Nat) : Prop :=
  cells.length = s.n * k ∧ ((s.a = none ∧ s.n = 0 ∧ s.c = 0 ∧ o = []) ∨ ∃ b cs, s.a = some ⟨b, 0, none⟩ ∧ o = [b] ∧ M b = some cs ∧ cs.length = s.c * k ∧ s.n ≤ s.c ∧ cs.take (s.n * k) = cells)

theorem Own.nil (M : Mp) (k : Nat) : Own M k ⟨none, 0, 0⟩ [] [] := ⟨by simp, .inl ⟨rfl, rfl, rfl, rfl⟩⟩

theorem Own.frame {M M' : Mp} {k : Nat} {s : Sl3} {cells : List Value} {o : List Nat} (h : Own M k s cells o) (hf : ∀ b ∈ o, M' b = M b) : Own M' k s cells o := by
  obtain ⟨h1, h2⟩ := h
  refine ⟨h1, ?_⟩
  rcases h2 with h2 | ⟨b, cs, h3, h4, h5, h6⟩
  · exact .inl h2
  · exact .inr ⟨b, cs, h3, h4, by rw [hf b (by simp [h4])]; exact h5, h6⟩

theorem Own.le {M : Mp} {k : Nat} {s : Sl3} {cells : List Value} {o : List Nat} (h : Own M k s cells o) : s.n ≤ s.c := by
  rcases h.2 with ⟨_, e1, e2, _⟩ | ⟨b, cs, _, _, _, _, h, _⟩
  · omega
  · exact h

theorem Own.ne {M : Mp} {k : Nat} {s : Sl3} {cells : List Value} {o : List Nat} (h : Own M k s cells o) : ∀ b ∈ o, M b ≠ none := by
  rcases h.2 with ⟨_, _, _, e⟩ | ⟨b, cs, _, e, hb, _⟩
  · subst e; simp
  · subst e; intro x hx; rw [List.mem_singleton] at hx; subst hx; rw [hb]; simp

theorem Own.froz {k : Nat} {s : Sl3} {cells : List Value} {o o' : List Nat} (h : Own M k s cells o) (hsub : ∀ b ∈ o, b ∈ o') : SlC (H.froz M o') s.a cells := by
  obtain ⟨hl, h2⟩ := h
  rcases h2 with ⟨h3, h4, _, _⟩ | ⟨b, cs, h3, h4, h5, h6, h7, h8⟩
  · left; exact List.eq_nil_of_length_eq_zero (by rw [hl, h4]; simp)
  · refine .inr ⟨b, 0, cs, h3, ?_, ?_⟩
    · unfold Mp.froz
      rw [if_pos (hsub b (by simp [h4]))]
      simp [h5]
    · rw [List.drop_zero, hl]; exact h8

/-- A part of an owned slice read. -/
theorem Own.at_ {k : Nat} {s : Sl3} {cells : List Value} {o : List Nat} (ho : Own M k s cells o) (hp : Hp w0 w H M) {i n : Nat} (hn : 0 < n) (hi : i + n ≤ cells.length) :
    ∃ b, s.a = some ⟨b, 0, none⟩ ∧ o = [b] ∧ cellsAt w ⟨b, i, none⟩ 0 n = some ((cells.drop i).take n) := by
  obtain ⟨hl, h2⟩ := ho
  rcases h2 with ⟨h3, h4, _, _⟩ | ⟨b, cs, h3, h4, h5, h6, h7, h8⟩
  · rw [h4] at hl; rw [hl] at hi; simp at hi; omega
  · refine ⟨b, h3, h4, ?_⟩
    have : s.n * k ≤ s.c * k := Nat.mul_le_mul_right k h7
    rw [hp.loadM h5 (by omega)]
    congr 1
    rw [← h8, List.drop_take, List.take_take, Nat.min_eq_left (by omega)]

theorem Own.read {k : Nat} {s : Sl3} {cells : List Value} {o : List Nat} (ho : Own M k s cells o) (hp : Hp w0 w H M) : readN w s.a (s.n * k) = some cells := by
  obtain ⟨hl, h2⟩ := ho
  rcases h2 with ⟨h3, h4, _, _⟩ | ⟨b, cs, h3, h4, h5, h6, h7, h8⟩
  · rw [h3]; simp only [readN]; rw [h4] at hl; simp at hl; rw [hl]
  · have : s.n * k ≤ s.c * k := Nat.mul_le_mul_right k h7
    rw [h3]; simp only [readN]
    rw [hp.loadM h5 (by omega), List.drop_zero, h8]

/-- What may have turned: the blocks of 'o' alone; those of 'o'' are of 'o' or new. -/
structure Adv (M : Mp) (o : List Nat) (M' : Mp) (o' : List Nat) : Prop where
  keep : ∀ b, M b ≠ none → b ∉ o → M' b = M b
  fresh : ∀ b ∈ o', b ∈ o ∨ M b = none

theorem Adv.refl (M : Mp) (o : List Nat) : Adv M o M o := ⟨fun _ _ _ => rfl, fun _ h => .inl h⟩
theorem Adv.trans {M M' M'' : Mp} {o o' o'' : List Nat} (h : Adv M o M' o') (k : Adv M' o' M'' o'') : Adv M o M'' o'' := by
  refine ⟨fun b hb hbo => ?_, fun b hb => ?_⟩
  · have h1 := h.keep b hb hbo
    rw [← h1]
    refine k.keep b (by rw [h1]; exact hb) fun hb' => ?_
    rcases h.fresh b hb' with e | e
    · exact hbo e
    · exact hb e
  · rcases k.fresh b hb with e | e
    · exact h.fresh b e
    · by_cases hbo : b ∈ o
      · exact .inl hbo
      · right
        cases hm : M b with
        | none => rfl
        | some c =>
          have := h.keep b (by rw [hm]; simp) hbo
          rw [e, hm] at this; cases this
end
end Go.Vc
