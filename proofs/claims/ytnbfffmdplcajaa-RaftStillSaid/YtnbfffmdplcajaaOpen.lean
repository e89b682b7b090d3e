/- From the row's reading of what came in to lists in cells. -/
import Derived.Test.YtnbfffmdplcajaaCopy
import GoSem.ClaimJoined
import GoSem.ClaimChange
import Derived.ChangeArms
namespace Go.Vc
open Go.RowKit (Below)

/-- The blocks that are there. -/
def heapH (W : World) : Mp := fun b => match W.heap[b]? with | some (.cells cs _ _) => some cs.toList | _ => none

theorem hp0 (W : World) : Hp W W (heapH W) fun _ => none := by
  refine ⟨Below.refl _ _, fun b cs hb => ?_, fun b cs hb => (by cases hb), fun b cs hb => (by cases hb), fun b cs hb => (by cases hb)⟩
  unfold heapH at hb
  split at hb
  · rename_i cs' e fr h
    cases hb
    exact ⟨e, fr, h⟩
  · cases hb

def All2 {α β : Type} (f : α → Option β) : List α → List β → Prop
  | [], [] => True
  | x :: xs, y :: ys => f x = some y ∧ All2 f xs ys
  | _, _ => False

theorem all2_of {α β : Type} {f : α → Option β} : ∀ {l : List α} {ys : List β}, l.mapM f = some ys → All2 f l ys
  | [], ys, h => by simp at h; subst h; trivial
  | x :: xs, ys, h => by
    rw [List.mapM_cons] at h
    simp only [bind, Option.bind_eq_some_iff, pure, Option.some.injEq] at h
    obtain ⟨y, hy, ys', hys, rfl⟩ := h
    exact ⟨hy, all2_of hys⟩

theorem all2_length {α β : Type} {f : α → Option β} : ∀ {l : List α} {ys : List β}, All2 f l ys → ys.length = l.length
  | [], [], _ => rfl
  | _ :: _, _ :: _, h => by simp [all2_length h.2]
  | [], _ :: _, h => h.elim
  | _ :: _, [], h => h.elim

theorem all2_get {α β : Type} {f : α → Option β} : ∀ {l : List α} {ys : List β} (_ : All2 f l ys) (i : Nat) (hi : i < l.length) (hi' : i < ys.length), f l[i] = some ys[i]
  | _ :: _, _ :: _, h, 0, _, _ => h.1
  | _ :: _, _ :: _, h, i + 1, hi, hi' => all2_get h.2 i (by simpa using hi) (by simpa using hi')

section
variable {W : World}

theorem cells_at {a : Addr} {n : Nat} {cs : List Value} (h : W.cells? 0 a n = some cs) (hn : 0 < n) : cs.length = n ∧ ∃ b o bl, a = ⟨b, o, none⟩ ∧ heapH W b = some bl ∧ (bl.drop o).take n = cs := by
  unfold World.cells? at h
  rw [if_pos (Nat.zero_le _)] at h
  have h2 := all2_of h
  have hl := all2_length h2
  rw [List.length_range] at hl
  refine ⟨hl, ?_⟩
  have key : ∀ i (hi : i < n), W.cell? (a.add i) = some (cs[i]'(by omega)) := fun i hi => by
    have := all2_get h2 i (by simpa using hi) (by omega)
    simpa using this
  obtain ⟨b, o, sp⟩ := a
  have k0 := key 0 hn
  have hsp : sp = none := by
    unfold Addr.add at k0
    simp only [if_true] at k0
    unfold World.cell? at k0
    split at k0
    · split at k0
      · cases k0
      · rename_i hh
        cases sp
        · rfl
        · simp at hh
    · cases k0
  subst hsp
  have hblk : ∃ c e fr, W.heap[b]? = some (.cells c e fr) := by
    simp only [add_mk] at k0
    unfold World.cell? at k0
    split at k0
    · rename_i c e fr hc
      exact ⟨c, e, fr, hc⟩
    · cases k0
  obtain ⟨c, e, fr, hc⟩ := hblk
  refine ⟨b, o, c.toList, rfl, by simp [heapH, hc], ?_⟩
  have hcell : ∀ i (hi : i < n), c[o + i]? = some (cs[i]'(by omega)) := fun i hi => by
    have := key i hi
    simp only [add_mk, World.cell?, hc, Option.isSome_none, Bool.false_eq_true, if_false] at this
    exact this
  apply List.ext_getElem?
  intro i
  by_cases hi : i < n
  · rw [List.getElem?_take_of_lt hi, List.getElem?_drop, Array.getElem?_toList, hcell i hi, List.getElem?_eq_getElem (by omega)]
  · rw [List.getElem?_eq_none (by rw [List.length_take]; omega), List.getElem?_eq_none (by omega)]

variable {H : Type} {enc : TypeId × Value → H} {P : Program}

/-- A reading. -/
def Rd (enc : TypeId × Value → H) (P : Program) (W : World) (t : TypeId) (cs : List Value) (d : DataW H) : Prop :=
  ∃ fuel ps, DataW.trod enc P W 0 (fun _ => true) true fuel t cs = some (d, ps)
/-- Within reach. -/
def Wt (P : Program) (t : TypeId) (d : DataW H) : Prop := ∀ x ∈ d.weights P t, x ≤ reachBytes

theorem rd_int {t : TypeId} {k : IntKind} {cs : List Value} {d : DataW H} (ht : P.underlying t = some (.int k)) (h : Rd enc P W t cs d) : ∃ n, cs = [.int k n] ∧ k.min ≤ n ∧ n ≤ k.max := by
  obtain ⟨fuel, ps, hf⟩ := h
  obtain ⟨n, h1, _, hw⟩ := DataW.trod_int ht hf
  simp [Lit.wf] at hw
  exact ⟨n, h1, hw⟩
theorem rd_bool {t : TypeId} {cs : List Value} {d : DataW H} (ht : P.underlying t = some .bool) (h : Rd enc P W t cs d) : ∃ b, cs = [.bool b] := by
  obtain ⟨fuel, ps, hf⟩ := h
  obtain ⟨n, h1, _⟩ := DataW.trod_bool ht hf
  exact ⟨n, h1⟩
theorem rd_str {t : TypeId} {cs : List Value} {d : DataW H} (ht : P.underlying t = some .string) (h : Rd enc P W t cs d) : ∃ s : ByteArray, cs = [.string s] := by
  obtain ⟨fuel, ps, hf⟩ := h
  obtain ⟨n, h1, _⟩ := DataW.trod_string ht hf
  exact ⟨n, h1⟩

/-- Fields, one behind the other. -/
def FldC (enc : TypeId × Value → H) (P : Program) (W : World) : List Field → List Value → List (DataW H) → Prop
  | [], cs, [] => cs = []
  | f :: fs, cs, d :: ds => ∃ c r, cs = c ++ r ∧ c.length = P.cellsOf f.type ∧ Rd enc P W f.type c d ∧ Wt P f.type d ∧ FldC enc P W fs r ds
  | _, _, _ => False
def contig (P : Program) : Nat → List Field → Nat → Bool
  | a, [], n => a == n
  | a, f :: fs, n => f.offset == a && contig P (a + P.cellsOf f.type) fs n
theorem contig_le : ∀ {fs : List Field} {a n : Nat}, contig P a fs n = true → a ≤ n
  | [], a, n, h => by simp [contig] at h; omega
  | f :: fs, a, n, h => by
    simp only [contig, Bool.and_eq_true] at h
    have := contig_le h.2
    omega

theorem fldC_of {cs : List Value} {n : Nat} : ∀ {fs : List Field} {a : Nat} {xs : List (DataW H × List MemPlace)}, contig P a fs cs.length = true → xs.length = fs.length →
    (∀ (i : Nat) (f : Field), fs[i]? = some f → DataW.trod enc P W 0 (fun _ => true) true n f.type ((cs.drop f.offset).take (P.cellsOf f.type)) = xs[i]?) →
    (∀ x ∈ DataW.weightsEach P (fs.map (·.type)) (xs.map (·.1)), x ≤ reachBytes) → FldC enc P W fs (cs.drop a) (xs.map (·.1))
  | [], a, [], hc, _, _, _ => by
    simp [contig] at hc
    simp only [List.map_nil, FldC]
    exact List.drop_eq_nil_of_le (by omega)
  | f :: fs, a, x :: xs, hc, hl, hg, hw => by
    simp only [contig, Bool.and_eq_true, beq_iff_eq] at hc
    obtain ⟨hc1, hc2⟩ := hc
    have hle := contig_le hc2
    have h0 := hg 0 f rfl
    rw [hc1] at h0
    simp only [List.getElem?_cons_zero] at h0
    simp only [List.map_cons, DataW.weightsEach, List.mem_append] at hw
    refine ⟨(cs.drop a).take (P.cellsOf f.type), cs.drop (a + P.cellsOf f.type), ?_, ?_, ⟨n, x.2, h0⟩, fun y hy => hw y (.inl hy), ?_⟩
    · rw [← List.drop_drop, List.take_append_drop]
    · rw [List.length_take, List.length_drop]; omega
    · exact fldC_of hc2 (by simpa using hl) (fun i f' hf => by simpa using hg (i + 1) f' (by simpa using hf)) fun y hy => hw y (.inr hy)
  | [], _, _ :: _, _, hl, _, _ => by simp at hl
  | _ :: _, _, [], _, hl, _, _ => by simp at hl

/-- Fields, without their data. -/
def FldX (enc : TypeId × Value → H) (P : Program) (W : World) : List Field → List Value → Prop
  | [], cs => cs = []
  | f :: fs, cs => ∃ c r d, cs = c ++ r ∧ Rd enc P W f.type c d ∧ Wt P f.type d ∧ FldX enc P W fs r
theorem fldX_of : ∀ {fs : List Field} {cs : List Value} {ds : List (DataW H)}, FldC enc P W fs cs ds → FldX enc P W fs cs
  | [], _, [], h => h
  | _ :: _, _, d :: _, ⟨c, r, e, _, h, w, hr⟩ => ⟨c, r, d, e, h, w, fldX_of hr⟩
  | [], _, _ :: _, h => h.elim
  | _ :: _, _, [], h => h.elim

theorem rd_struct {t : TypeId} {fs : Array Field} {cs : List Value} {d : DataW H} (ht : P.underlying t = some (.struct fs)) (hc : contig P 0 fs.toList (P.cellsOf t) = true) (h : Rd enc P W t cs d) (hw : Wt P t d) :
    FldX enc P W fs.toList cs := by
  obtain ⟨fuel, ps, hf⟩ := h
  obtain ⟨xs, n, _, hx, hl, hxl, hg⟩ := DataW.trod_struct ht hf
  simp only [Prod.mk.injEq] at hx
  obtain ⟨rfl, _⟩ := hx
  have := fldC_of (enc := enc) (W := W) (n := n) (cs := cs) (fs := fs.toList) (a := 0) (xs := xs) (by rw [hl]; exact hc) (by simpa using hxl) (fun i f hi => hg i f (by simpa using hi)) (by
    unfold Wt at hw
    simp only [DataW.weights, ht] at hw
    exact hw)
  rw [List.drop_zero] at this
  exact fldX_of this

theorem wts_all {e : TypeId} : ∀ {ds : List (DataW H)} {d : DataW H}, d ∈ ds → (∀ x ∈ DataW.weightsAll P e ds, x ≤ reachBytes) → Wt P e d
  | y :: ys, d, hd, hw => by
    simp only [DataW.weightsAll, List.mem_append] at hw
    rcases List.mem_cons.1 hd with rfl | hd
    · exact fun x hx => hw x (.inl hx)
    · exact wts_all hd fun x hx => hw x (.inr hx)

/-- Elements, one behind the other. -/
theorem ll_build {α : Type} {p : List Value → α → Prop} {k : Nat} {bl : List Value} {o : Nat} : ∀ {m i : Nat}, (∀ j, i ≤ j → j < i + m → ∃ x, p ((bl.drop (o + j * k)).take k) x) → o + (i + m) * k ≤ bl.length →
    ∃ l, l.length = m ∧ LL p ((bl.drop (o + i * k)).take (m * k)) l
  | 0, i, _, _ => ⟨[], rfl, by simp [LL]⟩
  | m + 1, i, h, hl => by
    obtain ⟨x, hx⟩ := h i (Nat.le_refl _) (by omega)
    obtain ⟨l, h1, h2⟩ := ll_build (m := m) (i := i + 1) (fun j hj hj2 => h j (by omega) (by omega)) (by rw [show i + 1 + m = i + (m + 1) by omega]; exact hl)
    refine ⟨x :: l, by simp [h1], _, _, ?_, hx, h2⟩
    rw [show (m + 1) * k = k + m * k by rw [Nat.add_mul]; omega, List.take_add, List.drop_drop, show o + i * k + k = o + (i + 1) * k by rw [Nat.add_mul]; omega]

theorem rd_slice {α : Type} {p : List Value → α → Prop} {t e : TypeId} {cs : List Value} {d : DataW H} (ht : P.underlying t = some (.slice e)) {k : Nat} (hk : P.cellsOf e = k) (hk0 : 0 < k)
    (elem : ∀ c d, c.length = k → Rd enc P W e c d → Wt P e d → ∃ x, p c x) (h : Rd enc P W t cs d) (hw : Wt P t d) :
    ∃ a n c l, cs = [.slice a n c] ∧ Rf.Sl (heapH W) p a n c l ∧ c * P.bytesOf e ≤ reachBytes := by
  obtain ⟨fuel, ps, hf⟩ := h
  rcases DataW.trod_slice ht hf with ⟨h1, _⟩ | ⟨a, len, cap, elems, rest, n, _, h1, hx, _, hlc, _, hel, hat, hsp, _⟩
  · exact ⟨none, 0, 0, [], h1, Rf.Sl.nil _ _, by omega⟩
  · simp only [Prod.mk.injEq] at hx
    obtain ⟨rfl, _⟩ := hx
    unfold Wt at hw
    simp only [DataW.weights, ht, List.mem_cons, List.mem_append, List.length_map] at hw
    have hrest := (hsp rfl).1
    refine ⟨some a, len, cap, ?_⟩
    have hcap : cap * P.bytesOf e ≤ reachBytes := by
      have := hw _ (.inl rfl)
      rwa [hel, hrest, show len + (cap - len) = cap by omega] at this
    have hread : ∀ i, i < len → ∃ c y, W.cells? 0 (a.add (i * k)) k = some c ∧ Rd enc P W e c y ∧ Wt P e y := fun i hi => by
      have h2 := hat i hi
      rw [hk, List.getElem?_eq_getElem (by omega)] at h2
      obtain ⟨c, hc, hd⟩ := Option.bind_eq_some_iff.1 h2
      refine ⟨c, (elems[i]'(by omega)).1, hc, ⟨n, _, hd⟩, ?_⟩
      exact wts_all (List.mem_map_of_mem (List.getElem_mem _)) fun x hx => hw x (.inr (.inl hx))
    by_cases hz : len = 0
    · subst hz
      exact ⟨[], h1, ⟨rfl, hlc, [], .inl rfl, rfl⟩, hcap⟩
    · obtain ⟨c0, y0, hc0, _, _⟩ := hread 0 (by omega)
      obtain ⟨_, b, o, bl, ha0, hbl, _⟩ := cells_at hc0 hk0
      have ha : a = ⟨b, o, none⟩ := by simpa [Addr.add] using ha0
      subst ha
      have hall : ∀ j, j < len → ∃ x, p ((bl.drop (o + j * k)).take k) x ∧ o + j * k + k ≤ bl.length := fun j hj => by
        obtain ⟨c, y, hc, hrd, hwt⟩ := hread j hj
        obtain ⟨hcl, b', o', bl', ha', hbl', htk⟩ := cells_at hc hk0
        simp only [add_mk, Addr.mk.injEq] at ha'
        obtain ⟨rfl, rfl, _⟩ := ha'
        rw [hbl] at hbl'
        cases hbl'
        obtain ⟨x, hx⟩ := elem c y hcl hrd hwt
        rw [htk]
        refine ⟨x, hx, ?_⟩
        rw [← htk, List.length_take, List.length_drop] at hcl
        omega
      obtain ⟨_, _, hlast⟩ := hall (len - 1) (by omega)
      have hend : o + len * k ≤ bl.length := by
        have e : len * k = (len - 1) * k + k := by
          conv => lhs; rw [show len = (len - 1) + 1 by omega]
          rw [Nat.add_mul]; omega
        omega
      obtain ⟨l, hl1, hl2⟩ := ll_build (p := p) (k := k) (bl := bl) (o := o) (m := len) (i := 0) (fun j _ hj => (hall j (by omega)).imp fun _ h => h.1) (by simpa using hend)
      simp only [Nat.zero_mul, Nat.add_zero] at hl2
      refine ⟨l, h1, ⟨hl1.symm, hlc, _, .inr ⟨b, o, bl, rfl, hbl, ?_⟩, hl2⟩, hcap⟩
      rw [List.length_take, List.length_drop, Nat.min_eq_left (by omega)]
end

/-- A property of each. -/
theorem LL.all {α : Type} {p : List Value → α → Prop} {q : α → Prop} (h : ∀ c x, p c x → q x) : ∀ {cs : List Value} {xs : List α}, LL p cs xs → ∀ x ∈ xs, q x
  | _, [], _, x, hx => by cases hx
  | _, y :: ys, ⟨c, r, _, hp, hr⟩, x, hx => by
    rcases List.mem_cons.1 hx with rfl | hx
    · exact h c _ hp
    · exact LL.all h hr x hx

theorem Rf.Sl.all {α : Type} {H : Mp} {p : List Value → α → Prop} {q : α → Prop} (h : ∀ c x, p c x → q x) {a : Option Addr} {n c : Nat} {l : List α} (hs : Rf.Sl H p a n c l) : ∀ x ∈ l, q x := by
  obtain ⟨_, _, cells, _, hl⟩ := hs
  exact LL.all h hl

namespace Rf
theorem LL.u8 : ∀ {cs : List Value} {l : List UInt8}, LL (fun c (x : UInt8) => c = [.int .u8 x.toNat]) cs l → cs = l.map fun b => .int .u8 b.toNat
  | cs, [], h => by simp only [LL] at h; subst h; rfl
  | cs, x :: xs, ⟨c, r, e, hp, hr⟩ => by subst e; rw [hp, LL.u8 hr]; rfl

/-- The ranges of what came in. -/
def U64 (x : Int) : Prop := 0 ≤ x ∧ x ≤ 18446744073709551615
def I64 (x : Int) : Prop := -9223372036854775808 ≤ x ∧ x ≤ 9223372036854775807
def Ent.Ok (e : Ent) : Prop := U64 e.term
def Snp.Ok (s : Snp) : Prop := U64 s.idx ∧ U64 s.term
def Rd.Ok (r : Rd) : Prop := U64 r.id ∧ U64 r.idx ∧ U64 r.round
def Rec.Ok (r : Rec) : Prop := I64 r.kind ∧ U64 r.term ∧ I64 r.vote ∧ r.ent.Ok ∧ U64 r.idx ∧ r.snap.Ok
structure Msg.Ok (m : Msg) : Prop where
  kind : I64 m.kind
  frm : I64 m.frm
  dest : I64 m.dest
  term : U64 m.term
  index : U64 m.index
  logTerm : U64 m.logTerm
  size : m.entries.length ≤ 4398046511104
  entries : ∀ e ∈ m.entries, e.Ok
  commit : U64 m.commit
  round : U64 m.round
  snap : m.snap.Ok
end Rf
end Go.Vc
