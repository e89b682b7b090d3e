/- The trees' rules over memory: new blocks, stores, appends, calls; lists that lie in cells. -/
import Derived.Test.YtnbfffmdplcajaaMem
namespace Go.Vc
open Go.RowKit (Below)

section
variable {P : Program} {R : Value → World → Prop} {env : Nat → List Value → World → Prop} {w0 w : World} {H M : Mp}

theorem Runs.mono {f : FuncId} {args : List Value} {R R' : Value → World → Prop} (h : Runs P f args w R) (hr : ∀ v w', R v w' → R' v w') : Runs P f args w R' :=
  ⟨h.1, h.2.mono fun _ _ ⟨v, he, hv⟩ => ⟨v, he, hr _ _ hv⟩⟩

theorem wp_load {a : Addr} {n : Nat} {k : List Value → VC} {vs : List Value} (h : cellsAt w a 0 n = some vs) (hk : (k vs).wp P R env w) : (VC.load a n k).wp P R env w := ⟨vs, h, hk⟩

theorem wp_new (hp : Hp w0 w H M) {e : TypeId} {cs : List Value} {k : Nat → VC} (hk : ∀ b w', Hp w0 w' H (M.put b cs) → M b = none → H b = none → (k b).wp P R env w') : (VC.new e cs k).wp P R env w :=
  hk _ _ (hp.alloc cs e) hp.fresh.2 hp.fresh.1

theorem wp_newH (hp : Hp w0 w H M) {e : TypeId} {cs : List Value} {k : Nat → VC} (hk : ∀ b w' H', Hp w0 w' H' M → H.le H' → H' b = some cs → (k b).wp P R env w') : (VC.new e cs k).wp P R env w := by
  have h1 := (hp.alloc cs e).freeze [w.heap.size]
  refine hk _ _ _ ?_ (Mp.le_put hp.fresh.1) (Mp.put_same _ _ _)
  have e1 : H.froz (M.put w.heap.size cs) [w.heap.size] = H.put w.heap.size cs := by
    funext x
    by_cases hx : x = w.heap.size
    · subst hx; simp [Mp.froz, Mp.put]
    · simp [Mp.froz, Mp.put, hx]
  have e2 : (M.put w.heap.size cs).thaw [w.heap.size] = M := by
    funext x
    by_cases hx : x = w.heap.size
    · subst hx; simp [Mp.thaw, hp.fresh.2]
    · simp [Mp.thaw, Mp.put, hx]
  rw [e1, e2] at h1
  exact h1

theorem wp_store (hp : Hp w0 w H M) {b off : Nat} {vs cs : List Value} (hb : M b = some cs) {k : VC} (hn : off + vs.length ≤ cs.length) (h1 : ∀ v ∈ vs, v.oneCell' = true)
    (hk : ∀ w', Hp w0 w' H (M.put b (splice cs off vs)) → k.wp P R env w') : (VC.store ⟨b, off, none⟩ vs k).wp P R env w := by
  obtain ⟨w', h, hp'⟩ := hp.store hb hn h1
  exact ⟨w', h, hk w' hp'⟩

theorem wp_call {f : FuncId} {args : List Value} {k : Value → VC} {R' : Value → World → Prop} (h : Runs P f args w R') (hk : ∀ v w', R' v w' → (k v).wp P R env w') : (VC.call f args k).wp P R env w := h.mono hk

theorem wp_bif {c : Bool} {x y : VC} (ht : c = true → x.wp P R env w) (hf : c = false → y.wp P R env w) : (bif c then x else y : VC).wp P R env w := by
  cases c
  · exact hf rfl
  · exact ht rfl

theorem length_zeros {z : List Value} {n : Nat} : (zeros z n).size = n * z.length := by simp [zeros, size_zeroCells]

theorem wp_append (hp : Hp w0 w H M) {kk : Nat} {s : Sl3} {cells : List Value} {o : List Nat} (ho : Own M kk s cells o) {e : TypeId} {bts : Nat} {z : List Value} (hz : z.length = kk)
    {b : Option Addr} {m : Nat} {news : List Value} (hn : readN w b (m * kk) = some news) (hl : news.length = m * kk) (h1 : ∀ v ∈ news, v.oneCell' = true) (hb : 0 < bts) (hsz : (s.n + m) * bts ≤ 140737488355328)
    {k : Option Addr → Nat → Nat → VC}
    (hK : ∀ (s' : Sl3) (M' : Mp) (o' : List Nat) (w' : World), Hp w0 w' H M' → Own M' kk s' (cells ++ news) o' → s'.n = s.n + m → Adv M o M' o' → (k s'.a s'.n s'.c).wp P R env w') :
    (VC.append e kk bts z s.a s.n s.c b m k).wp P R env w := by
  refine ⟨news, hn, fun hc => ?_, fun hc => ?_⟩
  · have ho' := ho
    obtain ⟨hlc, h2⟩ := ho
    rcases h2 with ⟨h3, h4, h5, h6⟩ | ⟨g, cs, h3, h4, h5, h6, h7, h8⟩
    · have hm : m = 0 := by omega
      subst hm
      simp only [Nat.zero_mul] at hl
      have hnil : news = [] := List.eq_nil_of_length_eq_zero hl
      subst hnil
      refine ⟨w, by rw [h3], ?_⟩
      have := hK s M o w hp (by rw [List.append_nil]; exact ho') (by omega) (Adv.refl _ _)
      simpa using this
    · rw [h3]
      have hsub : (s.n + m) * kk ≤ s.c * kk := Nat.mul_le_mul_right kk hc
      rw [Nat.add_mul] at hsub
      obtain ⟨w', hst, hp'⟩ := hp.store (off := s.n * kk) (vs := news) h5 (by omega) h1
      simp only [add_mk, Nat.zero_add]
      refine ⟨w', hst, ?_⟩
      have key := hK ⟨s.a, s.n + m, s.c⟩ _ o w' hp' ?_ rfl ?_
      · simpa [h3] using key
      · refine ⟨by simp [hlc, hl, Nat.add_mul], .inr ⟨g, splice cs (s.n * kk) news, h3, h4, Mp.put_same _ _ _, ?_, hc, ?_⟩⟩
        · simp [splice]; omega
        · simp only [splice, Nat.add_mul, h8]
          rw [List.take_append_of_le_length (by simp [hlc, hl])]
          exact List.take_of_length_le (by simp [hlc, hl])
      · refine ⟨fun x hx hxo => ?_, fun x hx => .inl hx⟩
        refine Mp.put_other fun e => hxo ?_
        rw [h4, e]; simp
  · have hold := ho.read hp
    refine ⟨cells, hold, hb, ?_, fun cap hcap => ?_⟩
    · have := growslice_fits (need := s.n + m) (old := s.c) (bytes := bts) (by omega) hsz
      have e48 : (2 : Nat) ^ 48 = 281474976710656 := by decide
      omega
    · have hp' := hp.drew.alloc (cells ++ news ++ (zeros z (cap - (s.n + m))).toList) e
      have hfr := hp.fresh
      have key := hK ⟨some ⟨w.heap.size, 0, none⟩, s.n + m, cap⟩ _ [w.heap.size] _ hp' ?_ rfl ?_
      · have earr : (cells.toArray ++ news.toArray ++ zeros z (cap - (s.n + m))) = (cells ++ news ++ (zeros z (cap - (s.n + m))).toList).toArray := by
          apply Array.ext'; simp
        rw [earr]
        exact key
      · refine ⟨by simp [ho.1, hl, Nat.add_mul], .inr ⟨w.heap.size, _, rfl, rfl, Mp.put_same _ _ _, ?_, hcap, ?_⟩⟩
        · simp only [List.length_append, ho.1, hl, Array.length_toList, length_zeros, hz]
          rw [← Nat.add_mul, ← Nat.add_mul]
          congr 1
          show s.n + m + (cap - (s.n + m)) = cap
          omega
        · show List.take ((s.n + m) * kk) _ = _
          rw [List.take_append_of_le_length (by simp [ho.1, hl, Nat.add_mul])]
          exact List.take_of_length_le (by simp [ho.1, hl, Nat.add_mul])
      · refine ⟨fun x hx _ => ?_, fun x hx => ?_⟩
        · refine Mp.put_other fun e => hx ?_
          rw [e]; exact hfr.2
        · rw [List.mem_singleton] at hx
          subst hx
          exact .inr hfr.2
end

/-- Fewer blocks that no one writes. -/
theorem Hp.lessH {w0 w : World} {H H' M : Mp} (hp : Hp w0 w H' M) (h : H.le H') : Hp w0 w H M :=
  ⟨hp.below, fun b cs hb => hp.imm b cs (h b cs hb), hp.mem, fun b cs hb => (by
    have := hp.sep b cs hb
    cases hh : H b with
    | none => rfl
    | some c => rw [h b c hh] at this; cases this), hp.new⟩

/-! ### lists that lie in cells -/
def LL {α : Type} (p : List Value → α → Prop) : List Value → List α → Prop
  | cs, [] => cs = []
  | cs, x :: xs => ∃ c r, cs = c ++ r ∧ p c x ∧ LL p r xs

section
variable {α : Type} {p : List Value → α → Prop} {k : Nat}

theorem LL.length (hk : ∀ c x, p c x → c.length = k) : ∀ {cs : List Value} {xs : List α}, LL p cs xs → cs.length = xs.length * k
  | cs, [], h => by simp only [LL] at h; subst h; simp
  | cs, x :: xs, h => by
    obtain ⟨c, r, rfl, hp, hr⟩ := h
    rw [List.length_append, hk c x hp, LL.length hk hr, List.length_cons, Nat.add_mul]; omega

theorem LL.append : ∀ {cs ds : List Value} {xs ys : List α}, LL p cs xs → LL p ds ys → LL p (cs ++ ds) (xs ++ ys)
  | cs, ds, [], ys, h, h2 => by simp only [LL] at h; subst h; simpa using h2
  | cs, ds, x :: xs, ys, h, h2 => by
    obtain ⟨c, r, rfl, hp, hr⟩ := h
    exact ⟨c, r ++ ds, by simp, hp, LL.append hr h2⟩

theorem LL.one {c : List Value} {x : α} (h : p c x) : LL p c [x] := ⟨c, [], by simp, h, rfl⟩

theorem LL.mono {q : List Value → α → Prop} (h : ∀ c x, p c x → q c x) : ∀ {cs : List Value} {xs : List α}, LL p cs xs → LL q cs xs
  | _, [], h2 => h2
  | _, _ :: _, ⟨c, r, e, hp, hr⟩ => ⟨c, r, e, h _ _ hp, LL.mono h hr⟩

theorem LL.drop (hk : ∀ c x, p c x → c.length = k) : ∀ {cs : List Value} {xs : List α} (i : Nat), LL p cs xs → LL p (cs.drop (i * k)) (xs.drop i)
  | cs, xs, 0, h => by simpa using h
  | cs, [], i + 1, h => by simp only [LL] at h; subst h; simp [LL]
  | cs, x :: xs, i + 1, h => by
    obtain ⟨c, r, rfl, hp, hr⟩ := h
    have := LL.drop hk i hr
    rw [List.drop_append, hk c x hp, show (i + 1) * k - k = i * k by rw [Nat.add_mul]; omega, List.drop_eq_nil_of_le (by rw [hk c x hp, Nat.add_mul]; omega)]
    simpa using this

theorem LL.take (hk : ∀ c x, p c x → c.length = k) : ∀ {cs : List Value} {xs : List α} (i : Nat), LL p cs xs → LL p (cs.take (i * k)) (xs.take i)
  | cs, xs, 0, h => by simp [LL]
  | cs, [], i + 1, h => by simp only [LL] at h; subst h; simp [LL]
  | cs, x :: xs, i + 1, h => by
    obtain ⟨c, r, rfl, hp, hr⟩ := h
    have := LL.take hk i hr
    refine ⟨c, r.take (i * k), ?_, hp, this⟩
    rw [List.take_append, hk c x hp, show (i + 1) * k - k = i * k by rw [Nat.add_mul]; omega, List.take_of_length_le (by rw [hk c x hp, Nat.add_mul]; omega)]

theorem LL.get (hk : ∀ c x, p c x → c.length = k) : ∀ {cs : List Value} {xs : List α} (i : Nat) {x : α}, LL p cs xs → xs[i]? = some x → p ((cs.drop (i * k)).take k) x
  | cs, [], i, x, h, hx => by simp at hx
  | cs, y :: ys, 0, x, h, hx => by
    obtain ⟨c, r, rfl, hp, hr⟩ := h
    simp only [List.getElem?_cons_zero, Option.some.injEq] at hx
    subst hx
    have hl := hk c y hp
    rw [Nat.zero_mul, List.drop_zero, List.take_append_of_le_length (by omega), List.take_of_length_le (by omega)]
    exact hp
  | cs, y :: ys, i + 1, x, h, hx => by
    obtain ⟨c, r, rfl, hp, hr⟩ := h
    have := LL.get hk i hr (by simpa using hx)
    rw [List.drop_append, hk c y hp, show (i + 1) * k - k = i * k by rw [Nat.add_mul]; omega, List.drop_eq_nil_of_le (by rw [hk c y hp, Nat.add_mul]; omega)]
    simpa using this

/-- One element turned. -/
theorem LL.set (hk : ∀ c x, p c x → c.length = k) : ∀ {cs : List Value} {xs : List α} (i : Nat) {x : α} {c' : List Value}, LL p cs xs → i < xs.length → p c' x → LL p (splice cs (i * k) c') (xs.set i x)
  | cs, [], i, x, c', h, hi, hp => by simp at hi
  | cs, y :: ys, 0, x, c', h, hi, hp => by
    obtain ⟨c, r, rfl, hpy, hr⟩ := h
    have hl := hk c y hpy
    have hl' := hk c' x hp
    refine ⟨c', r, ?_, hp, hr⟩
    simp only [splice, Nat.zero_mul, List.take_zero, List.nil_append, Nat.zero_add]
    rw [hl', ← hl, List.drop_left]
  | cs, y :: ys, i + 1, x, c', h, hi, hp => by
    obtain ⟨c, r, rfl, hpy, hr⟩ := h
    have hl := hk c y hpy
    have := LL.set hk i hr (by simpa using hi) hp
    refine ⟨c, splice r (i * k) c', ?_, hpy, this⟩
    simp only [splice, Nat.add_mul, Nat.one_mul]
    rw [List.take_append, List.drop_append, hl, List.take_of_length_le (by omega), List.drop_eq_nil_of_le (by omega), show i * k + k - k = i * k by omega, show i * k + k + c'.length - k = i * k + c'.length by omega]
    simp

theorem splice_mid {A C B vs : List Value} {a j : Nat} (ha : A.length = a) (hj : j + vs.length ≤ C.length) : splice (A ++ C ++ B) (a + j) vs = A ++ splice C j vs ++ B := by
  subst ha
  have e : A ++ C ++ B = A ++ (C ++ B) := List.append_assoc ..
  unfold splice
  rw [e, List.take_append, List.take_of_length_le (by omega : A.length ≤ A.length + j), Nat.add_sub_cancel_left, List.take_append_of_le_length (by omega),
    List.drop_append, List.drop_eq_nil_of_le (by omega : A.length ≤ A.length + j + vs.length), show A.length + j + vs.length - A.length = j + vs.length by omega, List.drop_append_of_le_length (by omega)]
  simp

theorem splice_all {C vs : List Value} (h : vs.length = C.length) : splice C 0 vs = vs := by
  unfold splice
  rw [List.take_zero, List.nil_append, Nat.zero_add, List.drop_eq_nil_of_le (by omega), List.append_nil]

theorem splice_length {C vs : List Value} {j : Nat} (hj : j + vs.length ≤ C.length) : (splice C j vs).length = C.length := by
  simp [splice]; omega

theorem splice_part {cells vs : List Value} {a j k : Nat} (h : a + k ≤ cells.length) (hj : j + vs.length ≤ k) : splice cells (a + j) vs = splice cells a (splice ((cells.drop a).take k) j vs) := by
  have e : cells = cells.take a ++ (cells.drop a).take k ++ cells.drop (a + k) := by
    rw [List.append_assoc, ← List.drop_drop, List.take_append_drop, List.take_append_drop]
  have hA : (cells.take a).length = a := by rw [List.length_take]; omega
  have hC : ((cells.drop a).take k).length = k := by rw [List.length_take, List.length_drop]; omega
  have h1 := splice_mid (A := cells.take a) (C := (cells.drop a).take k) (B := cells.drop (a + k)) (vs := vs) (j := j) hA (by omega)
  have hS : (splice ((cells.drop a).take k) j vs).length = ((cells.drop a).take k).length := splice_length (by omega)
  have h2 := splice_mid (A := cells.take a) (C := (cells.drop a).take k) (B := cells.drop (a + k)) (vs := splice ((cells.drop a).take k) j vs) (j := 0) hA (by omega)
  rw [← e] at h1 h2
  rw [splice_all hS] at h2
  rw [Nat.add_zero] at h2
  rw [h1, h2]

/-- A part of one element turned. -/
theorem LL.upd (hk : ∀ c x, p c x → c.length = k) {cs : List Value} {xs : List α} (i : Nat) {x x' : α} {vs : List Value} {j : Nat} (h : LL p cs xs) (hx : xs[i]? = some x) (hj : j + vs.length ≤ k)
    (hp : ∀ c, p c x → p (splice c j vs) x') : LL p (splice cs (i * k + j) vs) (xs.set i x') := by
  have hil : i < xs.length := (List.getElem?_eq_some_iff.1 hx).1
  have hlen := LL.length hk h
  have hik : i * k + k ≤ cs.length := by
    rw [hlen, show i * k + k = (i + 1) * k by rw [Nat.add_mul]; omega]
    exact Nat.mul_le_mul_right k hil
  rw [splice_part hik hj]
  exact LL.set hk i h hil (hp _ (LL.get hk i h hx))

section
variable {P : Program} {R : Value → World → Prop} {env : Nat → List Value → World → Prop} {w0 w : World} {H M : Mp}

/-- A part of an owned slice written. -/
theorem Own.store {k : Nat} {s : Sl3} {cells : List Value} {o : List Nat} (ho : Own M k s cells o) (hp : Hp w0 w H M) {off : Nat} {vs : List Value} (hv : 0 < vs.length) (hoff : off + vs.length ≤ cells.length) (h1 : ∀ v ∈ vs, v.oneCell' = true) :
    ∃ b, s.a = some ⟨b, 0, none⟩ ∧ ∃ w', storeW w ⟨b, off, none⟩ 0 vs = some w' ∧ ∃ M', Hp w0 w' H M' ∧ Own M' k s (splice cells off vs) o ∧ Adv M o M' o := by
  obtain ⟨hl, h2⟩ := ho
  rcases h2 with ⟨h3, h4, _, _⟩ | ⟨b, cs, h3, h4, h5, h6, h7, h8⟩
  · rw [h4, Nat.zero_mul] at hl; rw [hl] at hoff; omega
  · have hsub : s.n * k ≤ s.c * k := Nat.mul_le_mul_right k h7
    obtain ⟨w', hst, hp'⟩ := hp.store (off := off) (vs := vs) h5 (by omega) h1
    refine ⟨b, h3, w', hst, _, hp', ⟨by rw [splice_length hoff]; exact hl, .inr ⟨b, _, h3, h4, Mp.put_same _ _ _, ?_, h7, ?_⟩⟩, ⟨fun x _ hxo => Mp.put_other fun e => hxo (by rw [h4, e]; simp), fun x hx => .inl hx⟩⟩
    · rw [splice_length (by omega)]; exact h6
    · have e : cs = cells ++ cs.drop (s.n * k) := by rw [← h8, List.take_append_drop]
      have h9 := splice_mid (A := []) (C := cells) (B := cs.drop (s.n * k)) (vs := vs) (a := 0) (j := off) rfl (by omega)
      rw [List.nil_append, ← e, Nat.zero_add, List.nil_append] at h9
      rw [h9, List.take_append_of_le_length (by rw [splice_length hoff]; omega), List.take_of_length_le (by rw [splice_length hoff]; omega)]

theorem wp_ownstore (hp : Hp w0 w H M) {k : Nat} {s : Sl3} {cells : List Value} {o : List Nat} (ho : Own M k s cells o) {b off : Nat} {vs : List Value} (hb : s.a = some ⟨b, 0, none⟩) (hv : 0 < vs.length) (hoff : off + vs.length ≤ cells.length) (h1 : ∀ v ∈ vs, v.oneCell' = true) {k' : VC}
    (hk : ∀ w' M', Hp w0 w' H M' → Own M' k s (splice cells off vs) o → Adv M o M' o → k'.wp P R env w') : (VC.store ⟨b, off, none⟩ vs k').wp P R env w := by
  obtain ⟨b', hb', w', h, M', hp', ho', ha⟩ := ho.store hp hv hoff h1
  rw [hb] at hb'
  cases hb'
  exact ⟨w', h, hk w' M' hp' ho' ha⟩

/-- A variable made, and written once. -/
theorem wp_keep (hp : Hp w0 w H M) {e : TypeId} {z vs : List Value} (hz : z.length = vs.length) (h1 : ∀ v ∈ vs, v.oneCell' = true) {k : Nat → VC}
    (hk : ∀ b w' H', Hp w0 w' H' M → H.le H' → H' b = some vs → (k b).wp P R env w') : (VC.new e z fun b => .store ⟨b, 0, none⟩ vs (k b)).wp P R env w := by
  refine wp_new hp fun b w1 hp1 hM hH => wp_store hp1 (Mp.put_same _ _ _) (by omega) h1 fun w2 hp2 => ?_
  rw [splice_all hz.symm] at hp2
  have h3 := hp2.freeze [b]
  refine hk b w2 (H.put b vs) ?_ (Mp.le_put hH) (Mp.put_same _ _ _)
  have e1 : H.froz ((M.put b z).put b vs) [b] = H.put b vs := by
    funext x
    by_cases hx : x = b
    · subst hx; simp [Mp.froz, Mp.put]
    · simp [Mp.froz, Mp.put, hx]
  have e2 : ((M.put b z).put b vs).thaw [b] = M := by
    funext x
    by_cases hx : x = b
    · subst hx; simp [Mp.thaw, hM]
    · simp [Mp.thaw, Mp.put, hx]
  rw [e1, e2] at h3
  exact h3

/-- Blocks of one's own, given up. -/
theorem Hp.give (hp : Hp w0 w H M) {M0 : Mp} {o : List Nat} (ha : Adv M0 [] M o) : Hp w0 w (H.froz M o) M0 := by
  refine (hp.freeze o).less fun b cs hb => ?_
  have hne : b ∉ o := fun h => by
    rcases ha.fresh b h with e | e
    · cases e
    · rw [hb] at e; cases e
  unfold Mp.thaw
  rw [if_neg hne, ha.keep b (by rw [hb]; simp) (by simp)]
  exact hb
end
end
end Go.Vc
