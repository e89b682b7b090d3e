/- The tree of verification conditions is sound. Part 3: a region that draws its order may be shown in one order of those operations that only look. -/
import Derived.Test.YtnbfffmdplcajaaVcOps
import Derived.OrdersHeld
namespace Go.Vc
open Go.Region (wanted)

section
variable {P : Program} {ops : Array Oper} {Q : Exit → Act → World → Prop}

/-- An operation that only looks leaves v here. -/
def Y (P : Program) (ops : Array Oper) (o : Oper) (v : Value) (a : Act) (w : World) : Prop :=
  (wanted o (yielded ops a.tmps) = true ∧ (execOp a.eval o).run P w = .ok (.value v) w) ∨ (wanted o (yielded ops a.tmps) = false ∧ v = undef)

abbrev Hs := List (Nat × (World → Prop))

def wpT (P : Program) (ops : Array Oper) (Q : Exit → Act → World → Prop) (pre : List Nat) : Nat → Nat → Hs → Act → World → Prop
  | 0, done, _, a, w => (∀ i, i < ops.size → done.testBit i = true) ∧ Q .normal a w
  | f + 1, done, hs, a, w =>
    match pickFirst done true 0 ops.toList with
    | some i => ∃ o v, ops[i]? = some o ∧ Y P ops o v a w ∧ wpT P ops Q pre f (done ||| 2 ^ i) ((i, fun w' => Y P ops o v a w') :: hs) (a.put o.dst v) w
    | none => (∃ i, i ∈ readies done 0 ops.toList) ∧
      ∀ i ∈ readies done 0 ops.toList, wpOp P ops Q i (fun a' w' => (∀ h ∈ hs, waits pre i h.1 = false → h.2 w') ∧ wpT P ops Q pre f (done ||| 2 ^ i) (hs.filter fun h => !waits pre i h.1) a' w') a w

theorem pickFirst_some {done : Nat} {fl : Bool} {i : Nat} : ∀ {l : List Oper} {k : Nat}, pickFirst done fl k l = some i →
    ∃ j o, i = k + j ∧ l[j]? = some o ∧ done.testBit i = false ∧ floats o.op = fl ∧ readyB o done = true
  | [], k, h => by simp [pickFirst] at h
  | o :: r, k, h => by
    simp only [pickFirst] at h
    split at h
    · rename_i hc
      cases h
      simp only [Bool.and_eq_true, Bool.not_eq_true', beq_iff_eq] at hc
      exact ⟨0, o, rfl, rfl, hc.1.1, hc.1.2, hc.2⟩
    · obtain ⟨j, o', hi, hl, rest⟩ := pickFirst_some h
      exact ⟨j + 1, o', by omega, by simpa using hl, rest⟩

theorem pickFirst_none {done : Nat} {fl : Bool} : ∀ {l : List Oper} {k : Nat}, pickFirst done fl k l = none →
    ∀ j o, l[j]? = some o → done.testBit (k + j) = false → floats o.op = fl → readyB o done = false
  | [], k, _, j, o, hj, _, _ => by simp at hj
  | x :: r, k, h, j, o, hj, hd, hf => by
    simp only [pickFirst] at h
    split at h
    · cases h
    · rename_i hc
      cases j with
      | zero =>
        simp only [List.getElem?_cons_zero, Option.some.injEq] at hj
        subst hj
        simp only [Nat.add_zero] at hd
        cases hr : readyB x done with
        | false => rfl
        | true => exact absurd (by simp [hd, hf, hr]) hc
      | succ j => exact pickFirst_none h j o (by simpa using hj) (by rw [← hd]; congr 1; omega) hf

theorem mem_readies {done : Nat} {i : Nat} : ∀ {l : List Oper} {k : Nat}, i ∈ readies done k l ↔
    ∃ j o, i = k + j ∧ l[j]? = some o ∧ done.testBit i = false ∧ floats o.op = false ∧ readyB o done = true
  | [], k => by simp [readies]
  | x :: r, k => by
    have ih := @mem_readies done i r (k + 1)
    have key : (∃ j o, i = k + j ∧ (x :: r)[j]? = some o ∧ done.testBit i = false ∧ floats o.op = false ∧ readyB o done = true) ↔
        ((i = k ∧ done.testBit k = false ∧ floats x.op = false ∧ readyB x done = true) ∨ ∃ j o, i = k + 1 + j ∧ r[j]? = some o ∧ done.testBit i = false ∧ floats o.op = false ∧ readyB o done = true) := by
      constructor
      · rintro ⟨j, o, hi, hl, h⟩
        cases j with
        | zero =>
          simp only [List.getElem?_cons_zero, Option.some.injEq] at hl
          subst hl
          simp only [Nat.add_zero] at hi
          subst hi
          exact .inl ⟨rfl, h⟩
        | succ j => exact .inr ⟨j, o, by omega, by simpa using hl, h⟩
      · rintro (⟨hi, h⟩ | ⟨j, o, hi, hl, h⟩)
        · subst hi; exact ⟨0, x, rfl, rfl, h⟩
        · exact ⟨j + 1, o, by omega, by simpa using hl, h⟩
    rw [key, ← ih]
    simp only [readies]
    split
    · rename_i hc
      simp only [Bool.and_eq_true, Bool.not_eq_true'] at hc
      rw [List.mem_cons]
      constructor
      · rintro (e | e)
        · exact .inl ⟨e, hc.1.1, hc.1.2, hc.2⟩
        · exact .inr e
      · rintro (e | e)
        · exact .inl e.1
        · exact .inr e
    · rename_i hc
      constructor
      · exact .inr
      · rintro (⟨e, h1, h2, h3⟩ | e)
        · exact absurd (by simp [h1, h2, h3]) hc
        · exact e

/-! ### what an operation waits for -/
theorem masks_append : ∀ (l : List Oper) (acc : List Nat), ∃ m, masks l acc = acc ++ m ∧ m.length = l.length
  | [], acc => ⟨[], by simp [masks]⟩
  | o :: r, acc => by
    obtain ⟨m, h, hl⟩ := masks_append r (acc ++ [o.after.foldl (fun s e => if Region.binds .any e then s ||| 2 ^ e.on ||| acc.getD e.on 0 else s) 0])
    exact ⟨[_] ++ m, by rw [masks, h, List.append_assoc], by simp [hl]⟩

theorem masks_get : ∀ (l : List Oper) (acc : List Nat) (j : Nat) (o : Oper), l[j]? = some o →
    (masks l acc).getD (acc.length + j) 0 = o.after.foldl (fun s e => if Region.binds .any e then s ||| 2 ^ e.on ||| ((masks l acc).take (acc.length + j)).getD e.on 0 else s) 0
  | [], _, j, o, h => by simp at h
  | x :: r, acc, 0, o, h => by
    simp only [List.getElem?_cons_zero, Option.some.injEq] at h
    subst h
    obtain ⟨m, hm, _⟩ := masks_append r (acc ++ [x.after.foldl (fun s e => if Region.binds .any e then s ||| 2 ^ e.on ||| acc.getD e.on 0 else s) 0])
    rw [masks, hm]
    simp
  | x :: r, acc, j + 1, o, h => by
    have ih := masks_get r (acc ++ [x.after.foldl (fun s e => if Region.binds .any e then s ||| 2 ^ e.on ||| acc.getD e.on 0 else s) 0]) j o (by simpa using h)
    rw [masks]
    simp only [List.length_append, List.length_singleton] at ih
    rw [show acc.length + (j + 1) = acc.length + 1 + j by omega]
    exact ih

theorem fold_bit (after : List Edge) (f : Edge → Nat) (y : Nat) : ∀ s : Nat,
    (after.foldl (fun s e => if Region.binds .any e then s ||| 2 ^ e.on ||| f e else s) s).testBit y = true →
    s.testBit y = true ∨ ∃ e ∈ after, Region.binds .any e = true ∧ (e.on = y ∨ (f e).testBit y = true) := by
  induction after with
  | nil => intro s h; exact .inl h
  | cons e r ih =>
    intro s h
    rcases ih _ h with h | ⟨e', he', h⟩
    · dsimp only at h
      split at h
      · rename_i hb
        simp only [Nat.testBit_or, Bool.or_eq_true, Nat.testBit_two_pow, decide_eq_true_eq] at h
        rcases h with (h | h) | h
        · exact .inl h
        · exact .inr ⟨e, by simp, hb, .inl h⟩
        · exact .inr ⟨e, by simp, hb, .inr h⟩
      · exact .inl h
    · exact .inr ⟨e', by simp [he'], h⟩

/-- A set that bears, with each operation, those that it waits for at once. -/
def Closed (ops : Array Oper) (D : Nat → Prop) : Prop := ∀ i o, D i → ops[i]? = some o → ∀ e ∈ o.after, Region.binds .any e = true → D e.on

theorem waits_closed {D : Nat → Prop} (hD : Closed ops D) {y : Nat} : ∀ (x : Nat) (ox : Oper), ops[x]? = some ox → (∀ e ∈ ox.after, Region.binds .any e = true → D e.on) →
    waits (preOf ops) x y = true → D y := by
  intro x
  induction x using Nat.strongRecOn with
  | _ x ih =>
    intro ox hx hall hw
    unfold waits preOf at hw
    have hg := masks_get ops.toList [] x ox (by simpa using hx)
    simp only [List.length_nil, Nat.zero_add] at hg
    rw [hg, ← Array.foldl_toList] at hw
    rcases fold_bit _ _ _ _ hw with h | ⟨e, he, hb, h⟩
    · simp at h
    · have he' : e ∈ ox.after := Array.mem_toList_iff.1 he
      rcases h with h | h
      · exact h ▸ hall e he' hb
      · have hlt : e.on < x := by
          rcases Nat.lt_or_ge e.on x with h' | h'
          · exact h'
          · rw [List.getD_eq_getElem?_getD, List.getElem?_eq_none (by simp; omega)] at h
            simp at h
        have hxs : x < ops.size := (Array.getElem?_eq_some_iff.1 hx).1
        have hoe : ops[e.on]? = some ops[e.on] := Array.getElem?_eq_getElem (by omega)
        refine ih e.on hlt _ hoe (fun e2 h2 hb2 => hD e.on _ (hall e he' hb) hoe e2 h2 hb2) ?_
        unfold waits preOf
        rw [List.getD_eq_getElem?_getD, List.getElem?_take_of_lt hlt, ← List.getD_eq_getElem?_getD] at h
        exact h

/-! ### the ghost run ahead -/
def Gh (P : Program) (ops : Array Oper) (K : Hs → Act → World → Prop) : List Nat → Hs → Act → World → Prop
  | [], hs, a, w => K hs a w
  | i :: F, hs, a, w => ∃ o v, ops[i]? = some o ∧ Y P ops o v a w ∧ Gh P ops K F ((i, fun w' => Y P ops o v a w') :: hs) (a.put o.dst v) w

def Le (hs' hs : Hs) : Prop := ∀ h' ∈ hs', ∃ h ∈ hs, h.1 = h'.1 ∧ ∀ w, h.2 w → h'.2 w
theorem Le.refl (hs : Hs) : Le hs hs := fun h hm => ⟨h, hm, rfl, fun _ x => x⟩
theorem Le.cons {hs' hs : Hs} (h : Le hs' hs) (i : Nat) {p p' : World → Prop} (hp : ∀ w, p w → p' w) : Le ((i, p') :: hs') ((i, p) :: hs) := fun x hx => by
  rcases List.mem_cons.1 hx with e | e
  · subst e; exact ⟨_, List.mem_cons_self, rfl, hp⟩
  · obtain ⟨y, hy, h⟩ := h x e; exact ⟨y, List.mem_cons_of_mem _ hy, h⟩
theorem Le.drop {hs' hs : Hs} (h : Le hs' hs) (x : Nat × (World → Prop)) : Le hs' (x :: hs) := fun y hy => by
  obtain ⟨z, hz, h⟩ := h y hy; exact ⟨z, List.mem_cons_of_mem _ hz, h⟩

theorem Le.filter {hs' hs : Hs} (h : Le hs' hs) (p : Nat → Bool) : Le (hs'.filter fun x => p x.1) (hs.filter fun x => p x.1) := fun y hy => by
  obtain ⟨hy, hp⟩ := List.mem_filter.1 hy
  obtain ⟨z, hz, h1, h2⟩ := h y hy
  exact ⟨z, List.mem_filter.2 ⟨hz, by rw [h1]; exact hp⟩, h1, h2⟩

theorem wpT_mono {pre : List Nat} : ∀ (f done : Nat) (hs hs' : Hs) (a : Act) (w : World), Le hs' hs → wpT P ops Q pre f done hs a w → wpT P ops Q pre f done hs' a w
  | 0, _, _, _, _, _, _, h => h
  | f + 1, done, hs, hs', a, w, hle, h => by
    simp only [wpT] at h ⊢
    split
    · rename_i i hp
      simp only [hp] at h
      obtain ⟨o, v, ho, hy, h⟩ := h
      exact ⟨o, v, ho, hy, wpT_mono f _ _ _ _ _ (hle.cons i fun _ x => x) h⟩
    · rename_i hp
      simp only [hp] at h
      refine ⟨h.1, fun i hi => wpOp_mono (fun a' w' hk => ⟨fun x hx hw => ?_, wpT_mono f _ _ _ _ _ (hle.filter fun x => !waits pre i x) hk.2⟩) (h.2 i hi)⟩
      obtain ⟨y, hy, h1, h2⟩ := hle x hx
      exact h2 _ (hk.1 y hy (by rw [h1]; exact hw))

theorem Gh_mono {K K' : Hs → Act → World → Prop} (hK : ∀ hs hs' a w, Le hs' hs → K hs a w → K' hs' a w) : ∀ (F : List Nat) (hs hs' : Hs) (a : Act) (w : World), Le hs' hs → Gh P ops K F hs a w → Gh P ops K' F hs' a w
  | [], _, _, _, _, hle, h => hK _ _ _ _ hle h
  | i :: F, hs, hs', a, w, hle, h => by
    obtain ⟨o, v, ho, hy, h⟩ := h
    exact ⟨o, v, ho, hy, Gh_mono hK F _ _ _ _ (hle.cons i fun _ x => x) h⟩

theorem Gh_snoc {K : Hs → Act → World → Prop} {K' : Hs → Act → World → Prop} {i : Nat} (hK : ∀ hs a w, K hs a w → Gh P ops K' [i] hs a w) : ∀ (F : List Nat) (hs : Hs) (a : Act) (w : World), Gh P ops K F hs a w → Gh P ops K' (F ++ [i]) hs a w
  | [], _, _, _, h => hK _ _ _ h
  | x :: F, hs, a, w, h => by
    obtain ⟨o, v, ho, hy, h⟩ := h
    exact ⟨o, v, ho, hy, Gh_snoc hK F _ _ _ h⟩

def noSel (o : Oper) : Prop := ∀ cs b, o.op ≠ .select cs b

theorem Y_put {o : Oper} (hs : noSel o) {v : Value} {a : Act} {d : Option Tmp} {u : Value} (h : ∀ x, d = some x → x ∉ o.looksAt ops) {w : World} :
    Y P ops o v (a.put d u) w ↔ Y P ops o v a w := by
  unfold Y
  rw [execOp_put o hs a d u h, wanted_put o a d u h]

theorem Y.wpOp {i : Nat} {o : Oper} {v : Value} {a : Act} (hi : ops[i]? = some o) {w : World} (hy : Y P ops o v a w) {K : Act → World → Prop} (h : K (a.put o.dst v) w) : wpOp P ops Q i K a w := by
  unfold Go.wpOp
  simp only [hi]
  rcases hy with ⟨hw, hv⟩ | ⟨hw, rfl⟩
  · simp only [hw, if_true, Oper.wp, hv, Oper.upon]; exact .inl h
  · simp only [hw, Bool.false_eq_true, if_false]; exact h

theorem floatF {K : Hs → Act → World → Prop} (hK : ∀ hs hs' a w, Le hs' hs → K hs a w → K hs' a w) {i : Nat} {oi : Oper} (hi : ops[i]? = some oi) (hsi : noSel oi) {F2 : List Nat} :
    ∀ (F1 : List Nat) (hs : Hs) (a : Act) (w : World), (∀ f ∈ F1, ∀ o, ops[f]? = some o → noSel o ∧ o.apart ops oi = true) →
      Gh P ops K (F1 ++ i :: F2) hs a w → ∃ v, Y P ops oi v a w ∧ Gh P ops K (F1 ++ F2) hs (a.put oi.dst v) w
  | [], hs, a, w, _, h => by
    obtain ⟨o, v, ho, hy, h⟩ := h
    rw [hi] at ho; cases ho
    exact ⟨v, hy, Gh_mono hK F2 _ _ _ _ ((Le.refl hs).drop _) h⟩
  | f :: F1, hs, a, w, hap, h => by
    obtain ⟨o, vf, ho, hy, h⟩ := h
    obtain ⟨hso, hap0⟩ := hap f (by simp) o ho
    obtain ⟨h1, h2, h3⟩ := Oper.apart_spec hap0
    obtain ⟨v, hv, h⟩ := floatF hK hi hsi F1 _ _ _ (fun x hx => hap x (by simp [hx])) h
    refine ⟨v, (Y_put hsi h1).1 hv, o, vf, ho, (Y_put hso h3).2 hy, ?_⟩
    rw [Act.put_comm a vf v h2] at h
    refine Gh_mono hK _ _ _ _ _ ((Le.refl hs).cons f fun w' hw' => (Y_put hso h3).2 hw') h

theorem floatS {pre : List Nat} {K' : Hs → Act → World → Prop} (hK : ∀ hs hs' a w, Le hs' hs → K' hs a w → K' hs' a w) {i : Nat} {oi : Oper} (hi : ops[i]? = some oi) (hsi : noSel oi) (hQ : ∀ c a w, ¬ Q (.panic c) a w) :
    ∀ (F : List Nat) (hs : Hs) (a : Act) (w : World), (∀ f ∈ F, waits pre i f = false ∧ ∀ o, ops[f]? = some o → noSel o ∧ o.apart ops oi = true) → (∀ h ∈ hs, waits pre i h.1 = false) →
      Gh P ops (fun hs a w => wpOp P ops Q i (fun a' w' => (∀ h ∈ hs, waits pre i h.1 = false → h.2 w') ∧ K' (hs.filter fun h => !waits pre i h.1) a' w') a w) F hs a w →
      wpOp P ops Q i (fun a' w' => (∀ h ∈ hs, waits pre i h.1 = false → h.2 w') ∧ Gh P ops K' F hs a' w') a w
  | [], hs, _, _, _, hall, h => by
    have e : (hs.filter fun h => !waits pre i h.1) = hs := List.filter_eq_self.2 fun x hx => by simp [hall x hx]
    simp only [Gh, e] at h
    exact h
  | f :: F, hs, a, w, hap, hall, h => by
    obtain ⟨o, vf, ho, hy, h⟩ := h
    obtain ⟨hwf, hap0⟩ := hap f (by simp)
    obtain ⟨hso, hap0⟩ := hap0 o ho
    have ih := floatS hK hi hsi hQ F _ _ _ (fun x hx => hap x (by simp [hx])) (fun x hx => by rcases List.mem_cons.1 hx with e | e; (· subst e; exact hwf); (· exact hall x e)) h
    have hyi : YieldsIf P ops (fun w' => Y P ops o vf a w') o vf a := by
      rcases hy with ⟨hw, hv⟩ | ⟨hw, hv⟩
      · refine .inl ⟨hw, fun w' hw' => ?_⟩
        rcases hw' with ⟨_, h'⟩ | ⟨h', _⟩
        · exact h'
        · rw [hw] at h'; cases h'
      · exact .inr ⟨hw, hv⟩
    refine wpOp_mono ?_ (wpOp_putIf hi hap0 hso hsi (fun c a w hc => absurd hc (hQ _ _ _)) hyi ih)
    rintro a' w' ⟨hya, hh, hg⟩
    have himp : ∀ w'', Y P ops o vf a w'' → Y P ops o vf a' w'' := fun w'' hw'' => by
      rcases hya with ⟨hw, hv⟩ | ⟨hw, hv⟩
      · exact .inl ⟨hw, hv w'' hw''⟩
      · exact .inr ⟨hw, hv⟩
    refine ⟨fun x hx hwx => hh x (List.mem_cons_of_mem _ hx) hwx, o, vf, ho, himp _ (hh _ List.mem_cons_self hwf), ?_⟩
    exact Gh_mono hK _ _ _ _ _ ((Le.refl hs).cons f himp) hg

theorem okRegion_spec {pre : List Nat} (h : okRegion ops pre = true) : (∀ (i : Nat) (o : Oper), ops[i]? = some o → noSel o) ∧
    ∀ (i j : Nat) (x y : Oper), ops[i]? = some x → ops[j]? = some y → i ≠ j → floats x.op = true → waits pre j i = false → waits pre i j = false → x.apart ops y = true := by
  unfold okRegion at h
  simp only [Bool.and_eq_true, List.all_eq_true] at h
  obtain ⟨h1, h2⟩ := h
  constructor
  · intro i o hi cs b hop
    have := h1 o (Array.mem_toList_iff.2 (Array.mem_of_getElem? hi))
    rw [hop] at this
    simp at this
  · intro i j x y hx hy hij hf hw1 hw2
    have := h2 i (List.mem_range.2 (Array.getElem?_eq_some_iff.1 hx).1) j (List.mem_range.2 (Array.getElem?_eq_some_iff.1 hy).1)
    rw [hx, hy] at this
    simpa [hij, hf, hw1, hw2] using this

/-- How the true run stands to the ghost's. -/
structure Inv (ops : Array Oper) (listed : Array Bool) (F : List Nat) (done : Nat) : Prop where
  size : listed.size = ops.size
  bits : ∀ i, i < ops.size → (done.testBit i = true ↔ listed.getD i false = true ∨ i ∈ F)
  small : ∀ i, done.testBit i = true → i < ops.size
  nodup : F.Nodup
  pend : ∀ i ∈ F, listed.getD i false = false ∧ ∃ o, ops[i]? = some o ∧ floats o.op = true
  pref : ∀ F1 i F2, F = F1 ++ i :: F2 → ∀ o, ops[i]? = some o → ∀ e ∈ o.after, Region.binds .any e = true → listed.getD e.on false = true ∨ e.on ∈ F1
  closed : Closed ops fun i => listed.getD i false = true

theorem readyB_spec {o : Oper} {done : Nat} : readyB o done = true ↔ ∀ e ∈ o.after, Region.binds .any e = true → done.testBit e.on = true := by
  unfold readyB
  rw [Array.all_eq_true_iff_forall_mem]
  constructor
  · intro h e he hb
    have := h e he
    simpa [hb] using this
  · intro h e he
    cases hb : Region.binds .any e
    · simp
    · simp [h e he hb]

theorem getD_set_iff {listed : Array Bool} {j x : Nat} (hj : j < listed.size) : (listed.setIfInBounds j true).getD x false = true ↔ listed.getD x false = true ∨ x = j := by
  by_cases h : j = x
  · subst h; simp [hj]
  · rw [getD_set_ne false h]
    constructor
    · exact .inl
    · rintro (e | e)
      · exact e
      · exact absurd e.symm h

theorem getD_false_true {listed : Array Bool} {j : Nat} (hj : j < listed.size) : listed.getD j true = false ↔ ¬ listed.getD j false = true := by
  simp [Array.getD, hj]

theorem Inv.apart {pre : List Nat} (hpre : pre = preOf ops) (hok : okRegion ops pre = true) {listed : Array Bool} {F F1 F2 : List Nat} {done : Nat} (hI : Inv ops listed F done) (hF : F = F1 ++ F2)
    {j : Nat} {oj : Oper} (hj : ops[j]? = some oj) (hall : ∀ e ∈ oj.after, Region.binds .any e = true → listed.getD e.on false = true) (hjl : ¬ listed.getD j false = true) (hjF : j ∉ F1) :
    ∀ f ∈ F1, waits pre j f = false ∧ ∀ o, ops[f]? = some o → noSel o ∧ o.apart ops oj = true := by
  obtain ⟨hsel, hap⟩ := okRegion_spec hok
  intro f hf
  subst hpre
  have hfF : f ∈ F := by rw [hF]; exact List.mem_append_left _ hf
  obtain ⟨hfl, of, hof, hff⟩ := hI.pend f hfF
  have w1 : waits (preOf ops) j f = false := by
    cases h : waits (preOf ops) j f
    · rfl
    · have := waits_closed hI.closed j oj hj hall h
      rw [hfl] at this; cases this
  have w2 : waits (preOf ops) f j = false := by
    cases h : waits (preOf ops) f j
    · rfl
    · exfalso
      obtain ⟨G1, G2, hG⟩ := List.append_of_mem hf
      have hFs : F = G1 ++ f :: (G2 ++ F2) := by rw [hF, hG]; simp
      have hcl : Closed ops fun i => listed.getD i false = true ∨ i ∈ G1 := by
        intro i o hi ho e he hb
        rcases hi with hi | hi
        · exact .inl (hI.closed i o hi ho e he hb)
        · obtain ⟨A, B, hAB⟩ := List.append_of_mem hi
          rcases hI.pref A i (B ++ f :: (G2 ++ F2)) (by rw [hFs, hAB]; simp) o ho e he hb with h' | h'
          · exact .inl h'
          · exact .inr (by rw [hAB]; exact List.mem_append_left _ h')
      rcases waits_closed hcl f of hof (hI.pref G1 f (G2 ++ F2) hFs of hof) h with h' | h'
      · exact hjl h'
      · exact hjF (by rw [hG]; exact List.mem_append_left _ h')
  refine ⟨w1, fun o ho => ?_⟩
  rw [hof] at ho; cases ho
  refine ⟨hsel f of hof, hap f j of oj hof hj (fun e => hjF (e ▸ hf)) hff w1 w2⟩

theorem nextDone {done i j : Nat} : (done ||| 2 ^ i).testBit j = true ↔ done.testBit j = true ∨ i = j := by
  simp [Nat.testBit_or, Nat.testBit_two_pow]

/-- The ghost goes on till it has taken j, or till j, which acts, is what may come. -/
theorem extend {pre : List Nat} {listed : Array Bool} {a : Act} {w : World} {j : Nat} {oj : Oper} (hj : ops[j]? = some oj) (hjl : ¬ listed.getD j false = true)
    (hall : ∀ e ∈ oj.after, Region.binds .any e = true → listed.getD e.on false = true) :
    ∀ (fuel : Nat) (F : List Nat) (done : Nat), Inv ops listed F done → Gh P ops (fun hs a w => wpT P ops Q pre fuel done hs a w) F [] a w →
      ∃ F' fuel' done', Inv ops listed F' done' ∧ F'.length + fuel' = F.length + fuel ∧ Gh P ops (fun hs a w => wpT P ops Q pre fuel' done' hs a w) F' [] a w ∧
        (j ∈ F' ∨ (j ∉ F' ∧ floats oj.op = false ∧ pickFirst done' true 0 ops.toList = none ∧ 0 < fuel')) := by
  intro fuel
  have hjs : j < ops.size := (Array.getElem?_eq_some_iff.1 hj).1
  induction fuel with
  | zero =>
    intro F done hI hG
    refine ⟨F, 0, done, hI, rfl, hG, .inl ?_⟩
    have : ∀ (F : List Nat) (hs : Hs) (a : Act), Gh P ops (fun hs a w => wpT P ops Q pre 0 done hs a w) F hs a w → ∀ i, i < ops.size → done.testBit i = true := by
      intro F
      induction F with
      | nil => intro hs a h; exact h.1
      | cons x F ih => intro hs a h; obtain ⟨_, _, _, _, h⟩ := h; exact ih _ _ h
    rcases (hI.bits j hjs).1 (this _ _ _ hG j hjs) with h | h
    · exact absurd h hjl
    · exact h
  | succ fuel ih =>
    intro F done hI hG
    by_cases hjF : j ∈ F
    · exact ⟨F, fuel + 1, done, hI, rfl, hG, .inl hjF⟩
    · cases hp : pickFirst done true 0 ops.toList with
      | none =>
        refine ⟨F, fuel + 1, done, hI, rfl, hG, .inr ⟨hjF, ?_, hp, by omega⟩⟩
        cases hf : floats oj.op with
        | false => rfl
        | true =>
          exfalso
          have hnd : done.testBit j = false := by
            cases hb : done.testBit j
            · rfl
            · rcases (hI.bits j hjs).1 hb with h | h
              · exact absurd h hjl
              · exact absurd h hjF
          have := pickFirst_none hp j oj (by simpa using hj) (by simpa using hnd) hf
          have hr : readyB oj done = true := readyB_spec.2 fun e he hb => by
            have hl := hall e he hb
            have hlt : e.on < ops.size := by
              rw [← hI.size]
              rcases Nat.lt_or_ge e.on listed.size with h | h
              · exact h
              · simp [Array.getElem?_eq_none h] at hl
            exact (hI.bits e.on hlt).2 (.inl hl)
          rw [hr] at this; cases this
      | some i =>
        obtain ⟨k, oi, hik, hoi, hnd, hfl, hrd⟩ := pickFirst_some hp
        simp only [Nat.zero_add] at hik
        subst hik
        have hoi' : ops[i]? = some oi := by simpa using hoi
        have his : i < ops.size := (Array.getElem?_eq_some_iff.1 hoi').1
        have hni : ¬ (listed.getD i false = true ∨ i ∈ F) := fun h => by
          have := (hI.bits i his).2 h
          rw [hnd] at this; cases this
        have hI' : Inv ops listed (F ++ [i]) (done ||| 2 ^ i) := by
          refine ⟨hI.size, fun x hx => ?_, ?_, ?_, fun x hx => ?_, ?_, hI.closed⟩
          · rw [nextDone, hI.bits x hx, List.mem_append, List.mem_singleton]
            constructor
            · rintro ((h | h) | h)
              · exact .inl h
              · exact .inr (.inl h)
              · exact .inr (.inr h.symm)
            · rintro (h | h | h)
              · exact .inl (.inl h)
              · exact .inl (.inr h)
              · exact .inr h.symm
          · intro x hx
            rcases nextDone.1 hx with h | h
            · exact hI.small x h
            · exact h ▸ his
          · rw [List.nodup_append]
            refine ⟨hI.nodup, by simp, fun x hx y hy => ?_⟩
            rw [List.mem_singleton] at hy
            subst hy
            exact fun e => hni (.inr (e ▸ hx))
          · rcases List.mem_append.1 hx with h | h
            · exact hI.pend x h
            · rw [List.mem_singleton] at h
              subst h
              refine ⟨?_, oi, hoi', hfl⟩
              cases hb : listed.getD x false
              · rfl
              · exact absurd (.inl hb) hni
          · intro F1 x F2 hF o ho e he hb
            rcases List.eq_nil_or_concat F2 with hF2 | ⟨F2', y, hF2⟩
            · subst hF2
              obtain ⟨hleft, hinj⟩ := List.append_inj' hF rfl
              simp only [List.cons.injEq, and_true] at hinj
              subst hinj; subst hleft
              rw [hoi'] at ho; cases ho
              have hb' := readyB_spec.1 hrd e he hb
              exact (hI.bits e.on (hI.small _ hb')).1 hb'
            · subst hF2
              have hF' : F = F1 ++ x :: F2' := by
                have : F ++ [i] = (F1 ++ x :: F2') ++ [y] := by rw [hF]; simp
                exact List.append_inj_left' this rfl
              exact hI.pref F1 x F2' hF' o ho e he hb
        have hG' : Gh P ops (fun hs a w => wpT P ops Q pre fuel (done ||| 2 ^ i) hs a w) (F ++ [i]) [] a w := by
          refine Gh_snoc (fun hs a w h => ?_) F _ _ _ hG
          simp only [wpT, hp] at h
          obtain ⟨o, v, ho, hy, h⟩ := h
          exact ⟨o, v, ho, hy, h⟩
        obtain ⟨F', fuel', done', h1, h2, h3, h4⟩ := ih _ _ hI' hG'
        exact ⟨F', fuel', done', h1, by rw [h2]; simp; omega, h3, h4⟩

theorem Inv.list {listed : Array Bool} {F F' : List Nat} {done done' : Nat} {j : Nat} {oj : Oper} (hI : Inv ops listed F done) (hj : ops[j]? = some oj)
    (hall : ∀ e ∈ oj.after, Region.binds .any e = true → listed.getD e.on false = true)
    (hsmall : ∀ i, done'.testBit i = true → i < ops.size)
    (hbits : ∀ i, i < ops.size → (done'.testBit i = true ↔ (listed.getD i false = true ∨ i = j) ∨ i ∈ F')) (hsub : ∀ i ∈ F', i ∈ F ∧ i ≠ j) (hnd : F'.Nodup)
    (hpref : ∀ F1 i F2, F' = F1 ++ i :: F2 → ∃ G1 G2, F = G1 ++ i :: G2 ∧ ∀ x ∈ G1, x = j ∨ x ∈ F1) : Inv ops (listed.setIfInBounds j true) F' done' := by
  have hjs : j < listed.size := by rw [hI.size]; exact (Array.getElem?_eq_some_iff.1 hj).1
  refine ⟨by simp [hI.size], fun i hi => ?_, hsmall, hnd, fun i hi => ?_, ?_, ?_⟩
  · rw [hbits i hi, getD_set_iff hjs]
  · obtain ⟨h1, h2⟩ := hsub i hi
    rw [getD_set_ne false (Ne.symm h2)]
    exact hI.pend i h1
  · intro F1 i F2 hF o ho e he hb
    obtain ⟨G1, G2, hG, hx⟩ := hpref F1 i F2 hF
    rw [getD_set_iff hjs]
    rcases hI.pref G1 i G2 hG o ho e he hb with h | h
    · exact .inl (.inl h)
    · rcases hx _ h with h | h
      · exact .inl (.inr h)
      · exact .inr h
  · intro i o hi ho e he hb
    rw [getD_set_iff hjs] at hi ⊢
    rcases hi with hi | hi
    · exact .inl (hI.closed i o hi ho e he hb)
    · subst hi
      rw [hj] at ho; cases ho
      exact .inl (hall e he hb)

theorem wpT_sound {pre : List Nat} (hpre : pre = preOf ops) (hok : okRegion ops pre = true) (hQ : ∀ c a w, ¬ Q (.panic c) a w) :
    ∀ (n : Nat) (listed : Array Bool) (F : List Nat) (fuel done : Nat) (a : Act) (w : World), n = F.length + fuel → Inv ops listed F done →
      Gh P ops (fun hs a w => wpT P ops Q pre fuel done hs a w) F [] a w → wpAny P .any ops Q n listed a w := by
  intro n
  induction n with
  | zero =>
    intro listed F fuel done a w hn hI hG
    have hF : F = [] := List.eq_nil_of_length_eq_zero (by omega)
    have hf : fuel = 0 := by omega
    subst hF; subst hf
    obtain ⟨hall, hq⟩ := hG
    refine ⟨?_, hq⟩
    rw [List.eq_nil_iff_forall_not_mem]
    intro j hj
    obtain ⟨h0, oj, hoj, _⟩ := mem_ready.1 hj
    have hjs : j < ops.size := (Array.getElem?_eq_some_iff.1 hoj).1
    rcases (hI.bits j hjs).1 (hall j hjs) with h | h
    · rw [getD_false_true (by rw [hI.size]; exact hjs)] at h0; exact h0 h
    · cases h
  | succ n ih =>
    intro listed F fuel done a w hn hI hG
    have hne : Region.ready .any ops listed ≠ [] := by
      cases F with
      | cons f F =>
        obtain ⟨hfl, of, hof, _⟩ := hI.pend f (by simp)
        have hfs : f < ops.size := (Array.getElem?_eq_some_iff.1 hof).1
        refine List.ne_nil_of_mem (mem_ready.2 ⟨(getD_false_true (by rw [hI.size]; exact hfs)).2 (by rw [hfl]; simp), of, hof, fun e he hb => ?_⟩)
        rcases hI.pref [] f F rfl of hof e he hb with h | h
        · exact h
        · cases h
      | nil =>
        obtain ⟨g, rfl⟩ : ∃ g, fuel = g + 1 := ⟨fuel - 1, by simp at hn; omega⟩
        have fin : ∀ (k : Nat) (i : Nat) (oi : Oper), i = 0 + k → ops.toList[k]? = some oi → done.testBit i = false → readyB oi done = true → Region.ready .any ops listed ≠ [] := by
          intro k i oi hik hoi hnd hrd
          simp only [Nat.zero_add] at hik
          subst hik
          have hoi' : ops[i]? = some oi := by simpa using hoi
          have his : i < ops.size := (Array.getElem?_eq_some_iff.1 hoi').1
          refine List.ne_nil_of_mem (mem_ready.2 ⟨(getD_false_true (by rw [hI.size]; exact his)).2 fun h => ?_, oi, hoi', fun e he hb => ?_⟩)
          · have := (hI.bits i his).2 (.inl h)
            rw [hnd] at this; cases this
          · have hb' := readyB_spec.1 hrd e he hb
            rcases (hI.bits e.on (hI.small _ hb')).1 hb' with h | h
            · exact h
            · cases h
        simp only [Gh, wpT] at hG
        split at hG
        · rename_i i hp
          obtain ⟨k, oi, hik, hoi, hnd, _, hrd⟩ := pickFirst_some hp
          exact fin k i oi hik hoi hnd hrd
        · obtain ⟨i, hi⟩ := hG.1
          obtain ⟨k, oi, hik, hoi, hnd, _, hrd⟩ := mem_readies.1 hi
          exact fin k i oi hik hoi hnd hrd
    refine ⟨fun h => absurd h hne, fun j hj => ?_⟩
    obtain ⟨h0, oj, hoj, hall⟩ := mem_ready.1 hj
    have hjs : j < ops.size := (Array.getElem?_eq_some_iff.1 hoj).1
    have hjl : ¬ listed.getD j false = true := (getD_false_true (by rw [hI.size]; exact hjs)).1 h0
    have hsel := (okRegion_spec hok).1 j oj hoj
    obtain ⟨F', fuel', done', hI', hlen, hG', hcase⟩ := extend hoj hjl hall fuel F done hI hG
    rcases hcase with hjF | ⟨hjF, hact, hp, hpos⟩
    · obtain ⟨F1, F2, hF⟩ := List.append_of_mem hjF
      have hnd := hI'.nodup
      rw [hF, List.nodup_append] at hnd
      have hj1 : j ∉ F1 := fun h => hnd.2.2 j h j (by simp) rfl
      have hnd2 := List.nodup_cons.1 hnd.2.1
      have hap := hI'.apart hpre hok hF hoj hall hjl hj1
      rw [hF] at hG'
      obtain ⟨v, hy, hG2⟩ := floatF (K := fun hs a w => wpT P ops Q pre fuel' done' hs a w) (fun hs hs' a w hle h => wpT_mono _ _ _ _ _ _ hle h) hoj hsel F1 [] a w (fun f hf => (hap f hf).2) hG'
      refine hy.wpOp hoj (ih _ (F1 ++ F2) fuel' done' _ _ ?_ ?_ hG2)
      · rw [hF] at hlen; simp at hlen ⊢; omega
      · refine hI'.list hoj hall hI'.small (fun i hi => ?_) (fun i hi => ?_) ?_ ?_
        · rw [hI'.bits i hi, hF]
          simp only [List.mem_append, List.mem_cons]
          constructor
          · rintro (h | h | h | h)
            · exact .inl (.inl h)
            · exact .inr (.inl h)
            · exact .inl (.inr h)
            · exact .inr (.inr h)
          · rintro ((h | h) | h | h)
            · exact .inl h
            · exact .inr (.inr (.inl h))
            · exact .inr (.inl h)
            · exact .inr (.inr (.inr h))
        · rcases List.mem_append.1 hi with h | h
          · exact ⟨by rw [hF]; exact List.mem_append_left _ h, fun e => hj1 (e ▸ h)⟩
          · exact ⟨by rw [hF]; exact List.mem_append_right _ (List.mem_cons_of_mem _ h), fun e => hnd2.1 (e ▸ h)⟩
        · rw [List.nodup_append]
          exact ⟨hnd.1, hnd2.2, fun x hx y hy => hnd.2.2 x hx y (by simp [hy])⟩
        · intro G1 i G2 hG3
          rcases List.append_eq_append_iff.1 hG3 with ⟨as, h1, h2⟩ | ⟨bs, h1, h2⟩
          · exact ⟨F1 ++ j :: as, G2, by rw [hF, h2]; simp, fun x hx => by
              rcases List.mem_append.1 hx with h | h
              · exact .inr (by rw [h1]; exact List.mem_append_left _ h)
              · rcases List.mem_cons.1 h with h | h
                · exact .inl h
                · exact .inr (by rw [h1]; exact List.mem_append_right _ h)⟩
          · cases bs with
            | nil =>
              simp only [List.append_nil, List.nil_append] at h1 h2
              exact ⟨F1 ++ [j], G2, by rw [hF, ← h2]; simp, fun x hx => by
                rcases List.mem_append.1 hx with h | h
                · exact .inr (h1 ▸ h)
                · rw [List.mem_singleton] at h; exact .inl h⟩
            | cons b bs =>
              simp only [List.cons_append, List.cons.injEq] at h2
              obtain ⟨rfl, h2⟩ := h2
              exact ⟨G1, bs ++ j :: F2, by rw [hF, h1]; simp, fun x hx => .inr hx⟩
    · obtain ⟨g, rfl⟩ : ∃ g, fuel' = g + 1 := ⟨fuel' - 1, by omega⟩
      have hap := hI'.apart (F2 := []) hpre hok (by simp) hoj hall hjl hjF
      have hndj : done'.testBit j = false := by
        cases hb : done'.testBit j
        · rfl
        · rcases (hI'.bits j hjs).1 hb with h | h
          · exact absurd h hjl
          · exact absurd h hjF
      have hrd : readyB oj done' = true := readyB_spec.2 fun e he hb => by
        have hl := hall e he hb
        have hlt : e.on < ops.size := by
          rw [← hI'.size]
          rcases Nat.lt_or_ge e.on listed.size with h | h
          · exact h
          · simp [Array.getElem?_eq_none h] at hl
        exact (hI'.bits e.on hlt).2 (.inl hl)
      have hmem : j ∈ readies done' 0 ops.toList := mem_readies.2 ⟨j, oj, by simp, by simpa using hoj, hndj, hact, hrd⟩
      have hG2 : Gh P ops (fun hs a w => wpOp P ops Q j (fun a' w' => (∀ h ∈ hs, waits pre j h.1 = false → h.2 w') ∧ wpT P ops Q pre g (done' ||| 2 ^ j) (hs.filter fun h => !waits pre j h.1) a' w') a w) F' [] a w := by
        refine Gh_mono (fun hs hs' a w hle h => ?_) F' _ _ _ _ (Le.refl _) hG'
        simp only [wpT, hp] at h
        refine wpOp_mono (fun a' w' hk => ⟨fun x hx hw => ?_, wpT_mono _ _ _ _ _ _ (hle.filter fun x => !waits pre j x) hk.2⟩) (h.2 j hmem)
        obtain ⟨y, hy, h1, h2⟩ := hle x hx
        exact h2 _ (hk.1 y hy (by rw [h1]; exact hw))
      refine wpOp_mono (fun a' w' hk => ih _ F' g (done' ||| 2 ^ j) a' w' ?_ ?_ hk.2) (floatS (K' := fun hs a w => wpT P ops Q pre g (done' ||| 2 ^ j) hs a w) (fun hs hs' a w hle h => wpT_mono _ _ _ _ _ _ hle h) hoj hsel hQ F' [] a w hap (by simp) hG2)
      · omega
      · refine hI'.list hoj hall (fun i hi => ?_) (fun i hi => ?_) (fun i hi => ⟨hi, fun e => hjF (e ▸ hi)⟩) hI'.nodup ?_
        · rcases nextDone.1 hi with h | h
          · exact hI'.small i h
          · exact h ▸ hjs
        · rw [nextDone, hI'.bits i hi]
          constructor
          · rintro ((h | h) | h)
            · exact .inl (.inl h)
            · exact .inr h
            · exact .inl (.inr h.symm)
          · rintro ((h | h) | h)
            · exact .inl (.inl h)
            · exact .inr h.symm
            · exact .inl (.inr h)
        · exact fun F1 i F2 hF => ⟨F1, F2, hF, fun x hx => .inr hx⟩

theorem region_sound {id : Nat} (hm : P.follows .mixedOrders = true) (hok : okRegion ops (preOf ops) = true) (hQ : ∀ c a w, ¬ Q (.panic c) a w) {a : Act} {w : World}
    (h : wpT P ops Q (preOf ops) ops.size 0 [] a w.drew) : (Code.region id ops true).wp P Q a w := by
  refine wp_region_any hm (wpT_sound rfl hok hQ ops.size _ [] ops.size 0 a _ (by simp) ?_ h)
  refine ⟨by simp, fun i hi => ?_, fun i hi => by simp at hi, by simp, by simp, fun F1 i F2 hF => by simp at hF, fun i o hi ho => ?_⟩
  · simp [Array.getD, hi]
  · have : i < ops.size := (Array.getElem?_eq_some_iff.1 ho).1
    simp [Array.getD, this] at hi
end
end Go.Vc
