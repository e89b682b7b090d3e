/- The tree of verification conditions is sound. Part 4: regions, code, functions. -/
import Derived.Test.YtnbfffmdplcajaaVcOrder
namespace Go.Vc
open Go.Region (wanted)

section
variable {P : Program} {R : Value → World → Prop} {env : Nat → List Value → World → Prop} {ops : Array Oper}

def HoldAll (w : World) (hs : List (Nat × Option (Addr × List Value))) : Prop := ∀ x ∈ hs, ∃ p, x.2 = some p ∧ cellsAt w p.1 0 p.2.length = some p.2

theorem yielded_eq {t : List Value} {a : Act} (hr : Ref t a.tmps) {j d : Nat} {b : Bool} (hd : (ops[j]?).bind (·.dst) = some d) (ht : t.getD d undef = .bool b) :
    yielded ops a.tmps j = some b ∧ a.tmps.getD d undef = .bool b ∧ d < t.length := by
  have hs : a.tmps.getD d undef = .bool b := by
    rcases hr.at_ d with h | h
    · rw [ht] at h; cases h
    · rw [h, ht]
  have hlt : d < a.tmps.size := by
    rcases Nat.lt_or_ge d a.tmps.size with h | h
    · exact h
    · simp [Array.getElem?_eq_none h, undef] at hs
  refine ⟨?_, hs, by rw [hr.len]; exact hlt⟩
  have : a.tmps[d]? = some (.bool b) := by
    rw [Array.getElem?_eq_getElem hlt]
    simpa [Array.getD, hlt] using hs
  simp [yielded, hd, this]

theorem unwanted_undef {t : List Value} {a : Act} (hr : Ref t a.tmps) {o : Oper} {j d : Nat} {want : Bool} (hg : o.guard = some (j, want)) (hd : (ops[j]?).bind (·.dst) = some d)
    {vs : Array Value} (ht : t.getD d undef = .tuple vs) (hvs : vs.size = 0) : wanted o (yielded ops a.tmps) = false := by
  have hvs' : vs = #[] := Array.eq_empty_of_size_eq_zero hvs
  subst hvs'
  have hs : a.tmps.getD d undef = .tuple #[] := by
    rcases hr.at_ d with h | h
    · rw [ht] at h; cases h
    · rw [h, ht]
  have hy : yielded ops a.tmps j = none := by
    unfold yielded
    rw [hd]
    simp only [Option.bind_some]
    cases hx : a.tmps[d]? with
    | none => rfl
    | some v =>
      have : v = .tuple #[] := by
        rw [Array.getD_eq_getD_getElem?, hx] at hs
        simpa using hs
      rw [this]
  simp [wanted, hg, hy]

theorem genOp_float {o : Oper} (hf : floats o.op = true) {t : List Value} {a : Act} (hr : Ref t a.tmps) {w : World} {hold : Option (List (Nat × Option (Addr × List Value)))}
    {kf : List (Option (Addr × List Value)) → List Value → VC} {ke : List (Nat × Option (Addr × List Value)) → List Value → VC} (h : (genOp P ops o hold t kf ke).wp P R env w) :
    ∃ v hs t', Y P ops o v a w ∧ (∀ w', Held w' hs → Y P ops o v a w') ∧ (∀ p, some p ∈ hs → cellsAt w p.1 0 p.2.length = some p.2) ∧ Ref t' (a.put o.dst v).tmps ∧ (kf hs t').wp P R env w := by
  have go : ∀ t : List Value, Ref t a.tmps → wanted o (yielded ops a.tmps) = true → (genF P (ev t) o.op fun v h => setK t o.dst v fun t' => kf h t').wp P R env w →
      ∃ v hs t', Y P ops o v a w ∧ (∀ w', Held w' hs → Y P ops o v a w') ∧ (∀ p, some p ∈ hs → cellsAt w p.1 0 p.2.length = some p.2) ∧ Ref t' (a.put o.dst v).tmps ∧ (kf hs t').wp P R env w := by
    intro t hr hw h
    obtain ⟨v, v', hs, hv, hrun, hall, hcells, hk⟩ := genF_sound hr h
    rw [setK_eq] at hk
    exact ⟨v, hs, setT t o.dst v', .inl ⟨hw, hrun⟩, fun w' hh => .inl ⟨hw, hall w' hh⟩, hcells, hr.put hv o.dst, hk⟩
  have pass : ∀ t : List Value, Ref t a.tmps → wanted o (yielded ops a.tmps) = false → (setK t o.dst undef fun t' => kf [] t').wp P R env w →
      ∃ v hs t', Y P ops o v a w ∧ (∀ w', Held w' hs → Y P ops o v a w') ∧ (∀ p, some p ∈ hs → cellsAt w p.1 0 p.2.length = some p.2) ∧ Ref t' (a.put o.dst v).tmps ∧ (kf hs t').wp P R env w := by
    intro t hr hw hk
    rw [setK_eq] at hk
    exact ⟨undef, [], setT t o.dst undef, .inr ⟨hw, rfl⟩, fun w' _ => .inr ⟨hw, rfl⟩, by simp, hr.put (.inr rfl) o.dst, hk⟩
  unfold genOp at h
  simp only [hf, if_true] at h
  cases hg : o.guard with
  | none =>
    simp only [hg] at h
    exact go t hr (by simp [wanted, hg]) h
  | some gw =>
    obtain ⟨j, want⟩ := gw
    simp only [hg] at h
    cases hd : (ops[j]?).bind (·.dst) with
    | none => simp only [hd] at h; exact h.elim
    | some d =>
      simp only [hd] at h
      split at h
      · rename_i b hb
        obtain ⟨hy, hsb, hlt⟩ := yielded_eq hr hd hb
        have hw : wanted o (yielded ops a.tmps) = (b == want) := by simp [wanted, hg, hy]
        cases b
        · simp only [cond_false, setC_eq] at h
          have hr' : Ref (t.set d (.bool false)) a.tmps := hr.setKnown hsb hlt
          cases want
          · exact go _ hr' (by rw [hw]; rfl) (by simpa using h)
          · exact pass _ hr' (by rw [hw]; rfl) (by simpa using h)
        · simp only [cond_true, setC_eq] at h
          have hr' : Ref (t.set d (.bool true)) a.tmps := hr.setKnown hsb hlt
          cases want
          · exact pass _ hr' (by rw [hw]; rfl) (by simpa using h)
          · exact go _ hr' (by rw [hw]; rfl) (by simpa using h)
      · rename_i vs hvs
        split at h
        · rename_i h0
          exact pass t hr (unwanted_undef hr hg hd hvs h0) h
        · exact h.elim
      · exact h.elim

theorem holdN_wp {hs : List (Nat × Option (Addr × List Value))} {k : VC} {w : World} (hsome : ∀ x ∈ hs, x.2 ≠ none) (h : (holdN hs k).wp P R env w) : HoldAll w hs ∧ k.wp P R env w := by
  unfold holdN at h
  split at h
  · exact ⟨by simp [HoldAll], h⟩
  · obtain ⟨h1, h2⟩ := h
    refine ⟨fun x hx => ?_, h2⟩
    cases hx2 : x.2 with
    | none => exact absurd hx2 (hsome x hx)
    | some p => exact ⟨p, rfl, h1 p (List.mem_filterMap.2 ⟨x, hx, hx2⟩)⟩

/-- What follows an operation that acts, in the tree's words. -/
def Acted (P : Program) (R : Value → World → Prop) (env : Nat → List Value → World → Prop) (o : Oper) (a : Act) (hs : List (Nat × Option (Addr × List Value)))
    (ke : List (Nat × Option (Addr × List Value)) → List Value → VC) (a' : Act) (w' : World) : Prop :=
  ∃ v t', a' = a.put o.dst v ∧ Ref t' a'.tmps ∧ HoldAll w' hs ∧ (ke hs t').wp P R env w'

theorem genOp_act {o : Oper} (hf : floats o.op = false) {t : List Value} {a : Act} (hr : Ref t a.tmps) {w : World} {hs : List (Nat × Option (Addr × List Value))} (hh : HoldAll w hs)
    {kf : List (Option (Addr × List Value)) → List Value → VC} {ke : List (Nat × Option (Addr × List Value)) → List Value → VC} (h : (genOp P ops o (some hs) t kf ke).wp P R env w) {Q : Exit → Act → World → Prop} :
    if wanted o (yielded ops a.tmps) then o.wp P a w (Acted P R env o a hs ke) Q else Acted P R env o a hs ke (a.put o.dst undef) w := by
  have go : ∀ t : List Value, Ref t a.tmps → wanted o (yielded ops a.tmps) = true →
      (genE P (ev t) o fun v plain => if plain then setK t o.dst v fun t' => ke hs t' else holdN hs (setK t o.dst v fun t' => ke hs t')).wp P R env w →
      if wanted o (yielded ops a.tmps) then o.wp P a w (Acted P R env o a hs ke) Q else Acted P R env o a hs ke (a.put o.dst undef) w := by
    intro t hr hw h
    rw [if_pos hw]
    refine Oper.wp_mono ?_ (genE_sound hr h)
    rintro a' w' ⟨v, v', plain, hv, rfl, hpl, hk⟩
    cases plain with
    | true =>
      simp only [if_true, setK_eq] at hk
      obtain ⟨obj, rfl⟩ := hpl rfl
      refine ⟨v, _, rfl, hr.put hv o.dst, fun x hx => ?_, hk⟩
      obtain ⟨p, hp, hc⟩ := hh x hx
      exact ⟨p, hp, cellsAt_alloc _ hc⟩
    | false =>
      simp only [Bool.false_eq_true, if_false, setK_eq] at hk
      obtain ⟨h1, h2⟩ := holdN_wp (fun x hx e => by obtain ⟨p, hp, _⟩ := hh x hx; rw [hp] at e; cases e) hk
      exact ⟨v, _, rfl, hr.put hv o.dst, h1, h2⟩
  have pass : ∀ t : List Value, Ref t a.tmps → wanted o (yielded ops a.tmps) = false → (setK t o.dst undef fun t' => ke hs t').wp P R env w →
      if wanted o (yielded ops a.tmps) then o.wp P a w (Acted P R env o a hs ke) Q else Acted P R env o a hs ke (a.put o.dst undef) w := by
    intro t hr hw hk
    rw [setK_eq] at hk
    simp only [hw, Bool.false_eq_true, if_false]
    exact ⟨undef, _, rfl, hr.put (.inr rfl) o.dst, hh, hk⟩
  unfold genOp at h
  simp only [hf, Bool.false_eq_true, if_false] at h
  cases hg : o.guard with
  | none =>
    simp only [hg] at h
    exact go t hr (by simp [wanted, hg]) h
  | some gw =>
    obtain ⟨j, want⟩ := gw
    simp only [hg] at h
    cases hd : (ops[j]?).bind (·.dst) with
    | none => simp only [hd] at h; exact h.elim
    | some d =>
      simp only [hd] at h
      split at h
      · rename_i b hb
        obtain ⟨hy, hsb, hlt⟩ := yielded_eq hr hd hb
        have hw : wanted o (yielded ops a.tmps) = (b == want) := by simp [wanted, hg, hy]
        cases b
        · simp only [cond_false, setC_eq] at h
          have hr' : Ref (t.set d (.bool false)) a.tmps := hr.setKnown hsb hlt
          cases want
          · exact go _ hr' (by rw [hw]; rfl) (by simpa using h)
          · exact pass _ hr' (by rw [hw]; rfl) (by simpa using h)
        · simp only [cond_true, setC_eq] at h
          have hr' : Ref (t.set d (.bool true)) a.tmps := hr.setKnown hsb hlt
          cases want
          · exact pass _ hr' (by rw [hw]; rfl) (by simpa using h)
          · exact go _ hr' (by rw [hw]; rfl) (by simpa using h)
      · rename_i vs hvs
        split at h
        · rename_i h0
          exact pass t hr (unwanted_undef hr hg hd hvs h0) h
        · exact h.elim
      · exact h.elim

theorem genOp_noHold {o : Oper} (hf : floats o.op = false) {t : List Value} {w : World}
    {kf : List (Option (Addr × List Value)) → List Value → VC} {ke : List (Nat × Option (Addr × List Value)) → List Value → VC} (h : (genOp P ops o none t kf ke).wp P R env w) : False := by
  unfold genOp at h
  simp only [hf, Bool.false_eq_true, if_false] at h
  cases hg : o.guard with
  | none => simp only [hg] at h; exact h
  | some gw =>
    obtain ⟨j, want⟩ := gw
    simp only [hg] at h
    cases hd : (ops[j]?).bind (·.dst) with
    | none => simp only [hd] at h; exact h
    | some d =>
      simp only [hd] at h
      split at h
      · rename_i b hb
        cases b <;> simp only [cond_false, cond_true, setC_eq] at h <;> cases want <;> simp at h <;> exact h
      · split at h <;> exact h
      · exact h

/-! ### the frame of the slots -/
def Agree (W : List Nat) (s s' : Array Value) : Prop := s.size = s'.size ∧ ∀ i, i ∉ W → s'.getD i undef = s.getD i undef
theorem Agree.refl (W : List Nat) (s : Array Value) : Agree W s s := ⟨rfl, fun _ _ => rfl⟩
theorem Agree.trans {W W1 W2 : List Nat} {a b c : Array Value} (h1 : Agree W1 a b) (h2 : Agree W2 b c) (s1 : ∀ i ∈ W1, i ∈ W) (s2 : ∀ i ∈ W2, i ∈ W) : Agree W a c :=
  ⟨h1.1.trans h2.1, fun i hi => (h2.2 i fun h => hi (s2 i h)).trans (h1.2 i fun h => hi (s1 i h))⟩
theorem Agree.mono {W W1 : List Nat} {a b : Array Value} (h : Agree W1 a b) (s : ∀ i ∈ W1, i ∈ W) : Agree W a b := h.trans (Agree.refl W b) s fun _ h => h
theorem Agree.put {W : List Nat} (a : Act) {d : Option Tmp} (v : Value) (h : ∀ x, d = some x → x ∈ W) : Agree W a.tmps (a.put d v).tmps := by
  cases d with
  | none => exact Agree.refl _ _
  | some d =>
    refine ⟨by simp [Act.put], fun i hi => ?_⟩
    have hne : d ≠ i := fun e => hi (e ▸ h d rfl)
    simp [Act.put, Array.getElem?_setIfInBounds_ne hne]

theorem put_defers (a : Act) (d : Option Tmp) (v : Value) : (a.put d v).defers = a.defers := by cases d <;> rfl

/-- What is to hold behind a piece of code. -/
def Post (P : Program) (R : Value → World → Prop) (k : Exit → List Value → VC) (W : List Nat) (d : Nat) (env : Nat → List Value → World → Prop) (a0 : Act) : Exit → Act → World → Prop :=
  fun e a w => (match e with | .normal | .exit _ | .ret => True | _ => False) ∧ a.defers = [] ∧ Agree W a0.tmps a.tmps ∧
    ∃ t env', Ref t a.tmps ∧ (∀ l, l < d → env' l = env l) ∧ (k e t).wp P R env' w

theorem Post.noPanic {k : Exit → List Value → VC} {W : List Nat} {d : Nat} {a0 : Act} : ∀ c a w, ¬ Post P R k W d env a0 (.panic c) a w := fun _ _ _ h => h.1

theorem genOps_sound {k : List Value → VC} {Q : Exit → Act → World → Prop} {W : List Nat} (a0 : Act)
    (hQ : ∀ a w t, a.defers = [] → Agree W a0.tmps a.tmps → Ref t a.tmps → (k t).wp P R env w → Q .normal a w) :
    ∀ (l : List Oper) (t : List Value) (a : Act) (w : World), (∀ o ∈ l, ∀ x, o.dst = some x → x ∈ W) → Ref t a.tmps → a.defers = [] → Agree W a0.tmps a.tmps →
      (genOps P ops k l t).wp P R env w → wpList P ops Q l a w
  | [], t, a, w, _, hr, hd, hag, h => hQ a w t hd hag hr h
  | o :: rest, t, a, w, hW, hr, hd, hag, h => by
    have ih := fun t a w => genOps_sound a0 hQ rest t a w fun o ho => hW o (by simp [ho])
    have hdst : ∀ x, o.dst = some x → x ∈ W := hW o (by simp)
    have hag' : ∀ v, Agree W a0.tmps (a.put o.dst v).tmps := fun v => hag.trans (Agree.put a v hdst) (fun _ h => h) fun _ h => h
    simp only [genOps] at h
    cases hf : floats o.op with
    | true =>
      obtain ⟨v, hs, t', hy, _, _, hr', hk⟩ := genOp_float hf hr h
      have hrest := ih t' (a.put o.dst v) w hr' (by rw [put_defers, hd]) (hag' v) hk
      unfold wpList
      rcases hy with ⟨hw, hrun⟩ | ⟨hw, rfl⟩
      · rw [if_pos hw]
        exact .inl (wp_of_value hrun hrest)
      · rw [if_neg (by simp [hw])]
        exact hrest
    | false =>
      have hact := genOp_act (Q := Q) hf hr (hs := []) (by simp [HoldAll]) h
      unfold wpList
      have step : ∀ a' w', Acted P R env o a [] (fun _ t' => genOps P ops k rest t') a' w' → wpList P ops Q rest a' w' := by
        rintro a' w' ⟨v, t', rfl, hr', _, hk⟩
        exact ih t' _ w' hr' (by rw [put_defers, hd]) (hag' v) hk
      split at hact
      · rename_i hw
        rw [if_pos hw]
        exact .inl (Oper.wp_mono step hact)
      · rename_i hw
        rw [if_neg hw]
        exact step _ _ hact

theorem bothAll_wp : ∀ {l : List VC} {w : World}, (bothAll l).wp P R env w → l ≠ [] ∧ ∀ x ∈ l, x.wp P R env w
  | [], _, h => h.elim
  | [x], _, h => ⟨by simp, fun y hy => by rw [List.mem_singleton] at hy; subst hy; exact h⟩
  | x :: y :: r, _, h => ⟨by simp, fun z hz => by
    rcases List.mem_cons.1 hz with e | e
    · subst e; exact h.1
    · exact (bothAll_wp h.2).2 z e⟩

theorem toHold_spec {pre : List Nat} {i : Nat} : ∀ {hs hs' : List (Nat × Option (Addr × List Value))}, toHold pre i hs = some hs' →
    (∀ x ∈ hs', x ∈ hs ∧ x.2 ≠ none) ∧ ∀ x ∈ hs, waits pre i x.1 = false → x ∈ hs'
  | [], hs', h => by simp only [toHold, Option.some.injEq] at h; subst h; simp
  | y :: r, hs', h => by
    simp only [toHold] at h
    split at h
    · rename_i hw
      obtain ⟨h1, h2⟩ := toHold_spec h
      refine ⟨fun x hx => ⟨List.mem_cons_of_mem _ (h1 x hx).1, (h1 x hx).2⟩, fun x hx hwx => ?_⟩
      rcases List.mem_cons.1 hx with e | e
      · subst e; rw [hw] at hwx; cases hwx
      · exact h2 x e hwx
    · split at h
      · cases h
      · rename_i p hp
        cases hr : toHold pre i r with
        | none => simp [hr] at h
        | some r' =>
          simp only [hr, Option.map_some, Option.some.injEq] at h
          subst h
          obtain ⟨h1, h2⟩ := toHold_spec hr
          refine ⟨fun x hx => ?_, fun x hx hwx => ?_⟩
          · rcases List.mem_cons.1 hx with e | e
            · subst e; exact ⟨List.mem_cons_self, by rw [hp]; simp⟩
            · exact ⟨List.mem_cons_of_mem _ (h1 x e).1, (h1 x e).2⟩
          · rcases List.mem_cons.1 hx with e | e
            · subst e; exact List.mem_cons_self
            · exact List.mem_cons_of_mem _ (h2 x e hwx)

/-- How the tree's list of what is held stands to the ghost's. -/
def SemH (hs : List (Nat × Option (Addr × List Value))) (HS : Hs) : Prop :=
  ∀ h ∈ HS, ∀ w', (∀ x ∈ hs, x.1 = h.1 → ∃ p, x.2 = some p ∧ cellsAt w' p.1 0 p.2.length = some p.2) → h.2 w'

theorem genR_sound {pre : List Nat} {k : List Value → VC} {Q : Exit → Act → World → Prop} {W : List Nat} (a0 : Act) (hW : ∀ (i : Nat) (o : Oper), ops[i]? = some o → ∀ x, o.dst = some x → x ∈ W)
    (hQ : ∀ a w t, a.defers = [] → Agree W a0.tmps a.tmps → Ref t a.tmps → (k t).wp P R env w → Q .normal a w) :
    ∀ (f done : Nat) (hs : List (Nat × Option (Addr × List Value))) (t : List Value) (HS : Hs) (a : Act) (w : World), Ref t a.tmps → a.defers = [] → Agree W a0.tmps a.tmps →
      (∀ x ∈ hs, ∀ p, x.2 = some p → cellsAt w p.1 0 p.2.length = some p.2) → SemH hs HS → (genR P ops pre k f done hs t).wp P R env w → wpT P ops Q pre f done HS a w := by
  intro f
  induction f with
  | zero =>
    intro done hs t HS a w hr hd hag hsome hsem h
    simp only [genR] at h
    split at h
    · rename_i hall
      refine ⟨fun i hi => ?_, hQ a w t hd hag hr h⟩
      exact List.all_eq_true.1 hall i (List.mem_range.2 hi)
    · exact h.elim
  | succ f ih =>
    intro done hs t HS a w hr hd hag hsome hsem h
    simp only [genR] at h
    simp only [wpT]
    cases hp : pickFirst done true 0 ops.toList with
    | some i =>
      simp only [hp] at h
      obtain ⟨j, o, hij, hoj, _, hfl, _⟩ := pickFirst_some hp
      simp only [Nat.zero_add] at hij
      subst hij
      have ho : ops[i]? = some o := by simpa using hoj
      simp only [ho] at h
      obtain ⟨v, hs1, t', hy, hyall, hcells, hr', hk⟩ := genOp_float hfl hr h
      rw [forceN_eq] at hk
      refine ⟨o, v, ho, hy, ih _ _ t' _ _ w hr' (by rw [put_defers, hd]) (hag.trans (Agree.put a v (hW i o ho)) (fun _ h => h) fun _ h => h) ?_ ?_ hk⟩
      · intro x hx p hxp
        rcases List.mem_append.1 hx with e | e
        · obtain ⟨y, hy1, rfl⟩ := List.mem_map.1 e
          simp only at hxp
          subst hxp
          exact hcells p hy1
        · exact hsome x e p hxp
      · intro x hx w' hw'
        rcases List.mem_cons.1 hx with e | e
        · subst e
          refine hyall w' fun y hy1 => ?_
          exact hw' (i, y) (List.mem_append_left _ (List.mem_map.2 ⟨y, hy1, rfl⟩)) rfl
        · exact hsem x e w' fun y hy1 => hw' y (List.mem_append_right _ hy1)
    | none =>
      simp only [hp] at h
      obtain ⟨hne, hall⟩ := bothAll_wp h
      refine ⟨?_, fun i hi => ?_⟩
      · cases hrd : readies done 0 ops.toList with
        | nil => rw [hrd] at hne; exact absurd rfl hne
        | cons i r => exact ⟨i, by simp⟩
      · obtain ⟨j, o, hij, hoj, _, hfl, _⟩ := mem_readies.1 hi
        simp only [Nat.zero_add] at hij
        subst hij
        have ho : ops[i]? = some o := by simpa using hoj
        have hx := hall _ (List.mem_map.2 ⟨i, hi, rfl⟩)
        simp only [ho] at hx
        cases hth : toHold pre i hs with
        | none => rw [hth] at hx; exact (genOp_noHold hfl hx).elim
        | some hs' =>
          rw [hth] at hx
          obtain ⟨hsub, hkeep⟩ := toHold_spec hth
          have hh : HoldAll w hs' := fun x hx => by
            obtain ⟨h1, h2⟩ := hsub x hx
            cases hx2 : x.2 with
            | none => exact absurd hx2 h2
            | some p => exact ⟨p, rfl, hsome x h1 p hx2⟩
          have hact := genOp_act (Q := Q) hfl hr hh hx
          have step : ∀ a' w', Acted P R env o a hs' (fun hs' t' => forceN (done ||| 2 ^ i) fun done' => genR P ops pre k f done' hs' t') a' w' →
              (∀ h ∈ HS, waits pre i h.1 = false → h.2 w') ∧ wpT P ops Q pre f (done ||| 2 ^ i) (HS.filter fun h => !waits pre i h.1) a' w' := by
            rintro a' w' ⟨v, t', rfl, hr', hh', hk⟩
            simp only [forceN_eq] at hk
            refine ⟨fun x hx hwx => hsem x hx w' fun y hy hyx => hh' y (hkeep y hy (by rw [hyx]; exact hwx)), ?_⟩
            refine ih _ _ t' _ _ w' hr' (by rw [put_defers, hd]) (hag.trans (Agree.put a v (hW i o ho)) (fun _ h => h) fun _ h => h) ?_ ?_ hk
            · intro x hx p hxp
              obtain ⟨q, hq, hc⟩ := hh' x hx
              rw [hq] at hxp; cases hxp
              exact hc
            · intro x hx w2 hw2
              obtain ⟨hx, hwx⟩ := List.mem_filter.1 hx
              refine hsem x hx w2 fun y hy hyx => hw2 y (hkeep y hy ?_) hyx
              rw [hyx]; simpa using hwx
          unfold wpOp
          simp only [ho]
          split at hact
          · rename_i hw
            rw [if_pos hw]
            exact .inl (Oper.wp_mono step hact)
          · rename_i hw
            rw [if_neg hw]
            exact step _ _ hact

/-! ### code -/
theorem forget_ref {t : List Value} {s s' : Array Value} {W : List Nat} (hr : Ref t s) (hag : Agree W s s') : Ref (forget W t) s' := by
  refine ⟨by simp [forget, hr.len, hag.1], fun i => ?_⟩
  simp only [forget, List.getD_eq_getElem?_getD, List.getElem?_mapIdx]
  cases ht : t[i]? with
  | none =>
    right
    have hl : ¬ i < s'.size := by
      rw [← hag.1, ← hr.len]
      intro hlt
      rw [List.getElem?_eq_getElem hlt] at ht; cases ht
    rw [Array.getD_eq_getD_getElem?, Array.getElem?_eq_none (by omega)]
    rfl
  | some v =>
    simp only [Option.map_some, Option.getD_some]
    by_cases hi : W.contains i = true
    · left; rw [if_pos hi]; rfl
    · rw [if_neg hi]
      have hi' : i ∉ W := by simpa using hi
      rcases hr.at_ i with h | h
      · left; simpa [List.getD_eq_getElem?_getD, ht] using h
      · right; rw [hag.2 i hi', h]; simp [List.getD_eq_getElem?_getD, ht]

theorem setAll_ref : ∀ (sl : List (Nat × Value)) (vs t : List Value) (s : Array Value), Ref t s → (∀ (j : Nat) (x : Nat × Value) (v : Value), sl[j]? = some x → vs[j]? = some v → isU v = true ∨ s.getD x.1 undef = v) → Ref (setAll t sl vs) s
  | [], vs, t, s, hr, _ => by cases vs <;> exact hr
  | (x, z) :: sl, [], t, s, hr, _ => hr
  | (x, z) :: sl, v :: vs, t, s, hr, h => by
    refine setAll_ref sl vs (t.set x v) s ?_ fun j y u hj hu => h (j + 1) y u (by simpa using hj) (by simpa using hu)
    have h0 := h 0 (x, z) v rfl rfl
    refine ⟨by simp [hr.len], fun i => ?_⟩
    by_cases hi : x = i
    · subst hi
      by_cases hl : x < t.length
      · simp only [List.getD_eq_getElem?_getD, List.getElem?_set_self hl, Option.getD_some]
        exact h0
      · right
        rw [List.getD_eq_getElem?_getD, List.getElem?_eq_none (by simpa using hl), Array.getD_eq_getD_getElem?, Array.getElem?_eq_none (by rw [← hr.len]; omega)]
    · have := hr.at_ i
      simp only [List.getD_eq_getElem?_getD, List.getElem?_set_ne hi] at this ⊢
      exact this

/-- The slots that are handed on, as they truly are. -/
theorem handed_ref {t0 : List Value} {s0 s : Array Value} {W : List Nat} (hr0 : Ref t0 s0) (hag : Agree W s0 s) {t : List Value} (hr : Ref t s) (sl : List (Nat × Value)) :
    Ref (setAll (forget W t0) sl (sl.map fun x => t.getD x.1 undef)) s := by
  refine setAll_ref sl _ _ s (forget_ref hr0 hag) fun j x v hj hv => ?_
  rw [List.getElem?_map, hj] at hv
  simp only [Option.map_some, Option.some.injEq] at hv
  subst hv
  exact hr.at_ x.1

theorem writes_region {id : Nat} {draw : Bool} : ∀ (i : Nat) (o : Oper), ops[i]? = some o → ∀ x, o.dst = some x → x ∈ writes (.region id ops draw) := fun i o ho x hx => by
  simp only [writes, List.mem_filterMap]
  exact ⟨o, Array.mem_toList_iff.2 (Array.mem_of_getElem? ho), hx⟩

theorem rounds_of {body : Code} {Q : Exit → Act → World → Prop} (I : Nat → Act → World → Prop)
    (round : ∀ n a w, I n a w → body.wp P (Exit.then (fun a' w' => ∃ m, m < n ∧ I m a' w') Q) a w) : ∀ (N n : Nat) (a : Act) (w : World), n < N → I n a w → Code.rounds P body Q N a w := by
  intro N
  induction N with
  | zero => intro n a w h; omega
  | succ N ih =>
    intro n a w hn hI
    refine wp_mono (round n a w hI) fun e a' w' h => ?_
    cases e with
    | normal =>
      obtain ⟨m, hm, hI'⟩ := h
      exact ih m a' w' (by omega) hI'
    | _ => exact h

theorem gen_sound (hm : P.follows .mixedOrders = true) (lv ct : Marks) : ∀ (c : Code) (d : Nat) (k : Exit → List Value → VC) (t : List Value) (env : Nat → List Value → World → Prop) (a : Act) (w : World),
    Ref t a.tmps → a.defers = [] → (gen P lv ct c d k t).wp P R env w → c.wp P (Post P R k (writes c) d env a) a w := by
  intro c
  induction c with
  | skip =>
    intro d k t env a w hr hd h
    exact wp_skip ⟨trivial, hd, Agree.refl _ _, t, env, hr, fun _ _ => rfl, h⟩
  | region id ops draw =>
    intro d k t env a w hr hd h
    have hQ : ∀ (a' : Act) (w' : World) (t' : List Value), a'.defers = [] → Agree (writes (.region id ops draw)) a.tmps a'.tmps → Ref t' a'.tmps → (k .normal t').wp P R env w' →
        Post P R k (writes (.region id ops draw)) d env a .normal a' w' := fun a' w' t' h1 h2 h3 h4 => ⟨trivial, h1, h2, t', env, h3, fun _ _ => rfl, h4⟩
    cases draw with
    | false =>
      simp only [gen, Bool.false_eq_true, if_false] at h
      refine wp_region_list (genOps_sound a hQ ops.toList t a w (fun o ho x hx => ?_) hr hd (Agree.refl _ _) h)
      simp only [writes, List.mem_filterMap]
      exact ⟨o, ho, hx⟩
    | true =>
      simp only [gen, if_true] at h
      split at h
      · rename_i hok
        have h' : (genR P ops (preOf ops) (fun t' => k .normal t') ops.size 0 [] t).wp P R env w.drew := h
        exact region_sound hm hok Post.noPanic (genR_sound a writes_region hQ ops.size 0 [] t [] a w.drew hr hd (Agree.refl _ _) (by simp) (by simp [SemH]) h')
      · exact h.elim
  | seq x y ihx ihy =>
    intro d k t env a w hr hd h
    have sx : ∀ i ∈ writes x, i ∈ writes (.seq x y) := fun i hi => by simp [writes, hi]
    have sy : ∀ i ∈ writes y, i ∈ writes (.seq x y) := fun i hi => by simp [writes, hi]
    simp only [gen] at h
    split at h
    · have hx := ihx d _ t env a w hr hd h
      refine wp_seq (wp_mono hx fun e a1 w1 hp => ?_)
      obtain ⟨hge, hd1, hag1, t1, env1, hr1, henv1, hk⟩ := hp
      cases e with
      | normal =>
        have hy := ihy d k t1 env1 a1 w1 hr1 hd1 hk
        refine wp_mono hy fun e a2 w2 hp => ?_
        obtain ⟨hge2, hd2, hag2, t2, env2, hr2, henv2, hk2⟩ := hp
        exact ⟨hge2, hd2, hag1.trans hag2 sx sy, t2, env2, hr2, fun l hl => (henv2 l hl).trans (henv1 l hl), hk2⟩
      | exit i => exact ⟨hge, hd1, hag1.mono sx, t1, env1, hr1, henv1, hk⟩
      | ret => exact ⟨hge, hd1, hag1.mono sx, t1, env1, hr1, henv1, hk⟩
      | goto _ => exact hge.elim
      | panic _ => exact hge.elim
      | outgrown => exact hge.elim
    · rename_i sl _
      obtain ⟨J, hJ, hcont⟩ := h
      have hx := ihx (d + 1) _ t _ a w hr hd hJ
      refine wp_seq (wp_mono hx fun e a1 w1 hp => ?_)
      obtain ⟨hge, hd1, hag1, t1, env1, hr1, henv1, hk⟩ := hp
      cases e with
      | normal =>
        have hJ1 : J (sl.map fun s => t1.getD s.1 undef) w1 := by
          have e1 := henv1 d (Nat.lt_succ_self d)
          have : env1 d (sl.map fun s => t1.getD s.1 undef) w1 := hk
          rw [e1] at this
          simpa [upd] using this
        obtain ⟨us, _, _, hus, hk2⟩ := exCells_wp _ _ (hcont _ w1 hJ1)
        rw [forceL_eq] at hk2
        subst hus
        have hy := ihy d k _ env a1 w1 (handed_ref hr hag1 hr1 sl) hd1 hk2
        refine wp_mono hy fun e a2 w2 hp => ?_
        obtain ⟨hge2, hd2, hag2, t2, env2, hr2, henv2, hk2⟩ := hp
        exact ⟨hge2, hd2, hag1.trans hag2 sx sy, t2, env2, hr2, henv2, hk2⟩
      | exit i => exact ⟨hge, hd1, hag1.mono sx, t1, env1, hr1, fun l hl => by rw [henv1 l (by omega)]; simp [upd, Nat.ne_of_lt hl], hk⟩
      | ret => exact ⟨hge, hd1, hag1.mono sx, t1, env1, hr1, fun l hl => by rw [henv1 l (by omega)]; simp [upd, Nat.ne_of_lt hl], hk⟩
      | goto _ => exact hge.elim
      | panic _ => exact hge.elim
      | outgrown => exact hge.elim
  | cond c x y ihx ihy =>
    intro d k t env a w hr hd h
    have sx : ∀ i ∈ writes x, i ∈ writes (.cond c x y) := fun i hi => by simp [writes, hi]
    have sy : ∀ i ∈ writes y, i ∈ writes (.cond c x y) := fun i hi => by simp [writes, hi]
    simp only [gen] at h
    split at h
    · rename_i b hb
      have hc : a.eval c = .bool b := hr.ev_eq hb rfl
      have up : ∀ {W' : List Nat} (_ : ∀ i ∈ W', i ∈ writes (.cond c x y)) (e : Exit) (a' : Act) (w' : World), Post P R k W' d env a e a' w' → Post P R k (writes (.cond c x y)) d env a e a' w' :=
        fun hs e a' w' ⟨h1, h2, h3, h4⟩ => ⟨h1, h2, h3.mono hs, h4⟩
      refine wp_cond hc ?_
      cases b with
      | true => exact wp_mono (ihx d k t env a w hr hd h) (up sx)
      | false => exact wp_mono (ihy d k t env a w hr hd h) (up sy)
    · exact h.elim
  | block id c ih =>
    intro d k t env a w hr hd h
    simp only [gen] at h
    refine wp_block (wp_mono (ih d _ t env a w hr hd h) fun e a1 w1 hp => ?_)
    obtain ⟨hge, hd1, hag1, t1, env1, hr1, henv1, hk⟩ := hp
    cases e with
    | exit i =>
      simp only [Exit.inBlock]
      by_cases hi : i = id
      · rw [if_pos hi]
        simp only [hi, if_true] at hk
        exact ⟨trivial, hd1, hag1, t1, env1, hr1, henv1, hk⟩
      · rw [if_neg hi]
        simp only [hi, if_false] at hk
        exact ⟨trivial, hd1, hag1, t1, env1, hr1, henv1, hk⟩
    | normal => exact ⟨trivial, hd1, hag1, t1, env1, hr1, henv1, hk⟩
    | ret => exact ⟨trivial, hd1, hag1, t1, env1, hr1, henv1, hk⟩
    | goto _ => exact hge.elim
    | panic _ => exact hge.elim
    | outgrown => exact hge.elim
  | loop body ih =>
    intro d k t env a w hr hd h
    simp only [gen] at h
    split at h
    · exact h.elim
    · rename_i sl _
      obtain ⟨I, μ, hI0, hround⟩ := h
      let T (vs : List Value) : List Value := setAll (forget (writes body) t) sl vs
      let J : Nat → Act → World → Prop := fun n a' w' => a'.defers = [] ∧ Agree (writes body) a.tmps a'.tmps ∧ ∃ vs, I vs w' ∧ μ vs w' = n ∧ Ref (T vs) a'.tmps
      have hJ0 : J (μ (sl.map fun s => t.getD s.1 undef) w) a w := ⟨hd, Agree.refl _ _, _, hI0, rfl, handed_ref hr (Agree.refl _ _) hr sl⟩
      refine wp_loop_rounds _ (rounds_of J ?_ _ _ a w (Nat.lt_succ_self _) hJ0)
      rintro n a' w' ⟨hd', hag', vs, hI, rfl, hr'⟩
      obtain ⟨us, _, _, hus, hk⟩ := exCells_wp _ _ (hround vs w' hI)
      rw [forceL_eq] at hk
      subst hus
      refine wp_mono (ih (d + 1) _ _ _ a' w' hr' hd' hk) fun e a1 w1 hp => ?_
      obtain ⟨hge, hd1, hag1, t1, env1, hr1, henv1, hk1⟩ := hp
      have hagA : Agree (writes body) a.tmps a1.tmps := hag'.trans hag1 (fun _ h => h) fun _ h => h
      cases e with
      | normal =>
        have e1 := henv1 d (Nat.lt_succ_self d)
        have hk2 : env1 d (sl.map fun s => t1.getD s.1 undef) w1 := hk1
        rw [e1] at hk2
        simp only [upd, if_true] at hk2
        exact ⟨_, hk2.2, hd1, hagA, _, hk2.1, rfl, handed_ref hr hagA hr1 sl⟩
      | exit i => exact ⟨trivial, hd1, hagA, t1, env1, hr1, fun l hl => by rw [henv1 l (by omega)]; simp [upd, Nat.ne_of_lt hl], hk1⟩
      | ret => exact ⟨trivial, hd1, hagA, t1, env1, hr1, fun l hl => by rw [henv1 l (by omega)]; simp [upd, Nat.ne_of_lt hl], hk1⟩
      | goto _ => exact hge.elim
      | panic _ => exact hge.elim
      | outgrown => exact hge.elim
  | exit id =>
    intro d k t env a w hr hd h
    exact wp_exit ⟨trivial, hd, Agree.refl _ _, t, env, hr, fun _ _ => rfl, h⟩
  | ret =>
    intro d k t env a w hr hd h
    exact wp_ret ⟨trivial, hd, Agree.refl _ _, t, env, hr, fun _ _ => rfl, h⟩
  | rangeFunc => intro d k t env a w hr hd h; exact h.elim
  | scope => intro d k t env a w hr hd h; exact h.elim
  | label => intro d k t env a w hr hd h; exact h.elim
  | goto => intro d k t env a w hr hd h; exact h.elim
  | refuse => intro d k t env a w hr hd h; exact h.elim

def retOne (s : Array Value) : ResultVar → Sem Value
  | .tmp t => pure (s.getD t undef)
  | .cell b ty => do loadVar ty (← asAddr (s.getD b undef))

theorem retCells_sound {t : List Value} {a : Act} (hr : Ref t a.tmps) {w : World} : ∀ (l : List ResultVar) (k : List Value → VC), (retCells P l t k).wp P R env w →
    ∃ vs, (l.mapM (retOne a.tmps)).run P w = .ok vs w ∧ (k vs).wp P R env w
  | [], k, h => ⟨[], by simp, h⟩
  | .tmp i :: r, k, h => by
    simp only [retCells] at h
    split at h
    · exact h.elim
    · rename_i hu
      obtain ⟨vs, hrun, hk⟩ := retCells_sound hr r _ h
      have hv : a.tmps.getD i undef = t.getD i undef := (hr.at_ i).resolve_left hu
      refine ⟨t.getD i undef :: vs, ?_, hk⟩
      rw [List.mapM_cons]
      simp only [retOne, Sem.run_bind, Sem.run_pure, Result.andThen_ok, hrun, hv]
  | .cell b ty :: r, k, h => by
    simp only [retCells] at h
    split at h
    · rename_i ad hb
      obtain ⟨v, us, _, hc, hrunv, h⟩ := loadV_wp h
      obtain ⟨vs, hrun, hk⟩ := retCells_sound hr r _ h
      have hv : a.tmps.getD b undef = .pointer (some ad) := by
        rcases hr.at_ b with e | e
        · rw [hb] at e; cases e
        · rw [e, hb]
      refine ⟨v :: vs, ?_, hk⟩
      rw [List.mapM_cons]
      simp only [retOne, Sem.run_bind, hv, asAddr, Sem.run_pure, Result.andThen_ok, hrunv w hc, hrun]
    · exact h.elim

theorem genFn_calls (hm : P.follows .mixedOrders = true) {lv ct : Marks} {f : FuncId} {fn : Func} (hf : P.funcs[f]? = some fn) {args : List Value} {w : World}
    (h : (genFn P lv ct fn args).wp P R (fun _ _ _ => False) w) : Calls P f args.toArray w fun e w' => ∃ v, e = .returned v ∧ R v w' := by
  unfold genFn at h
  cases hb : fn.body with
  | none => simp only [hb] at h; exact h.elim
  | some c =>
    simp only [hb, forceL_eq] at h
    refine calls_of_wp hf hb ?_
    have hr : Ref (args ++ List.replicate (fn.ntmps - args.length) undef) (args.toArray ++ Array.replicate (fn.ntmps - args.toArray.size) undef) := by
      refine ⟨by simp, fun i => .inr ?_⟩
      have : (args.toArray ++ Array.replicate (fn.ntmps - args.toArray.size) undef) = (args ++ List.replicate (fn.ntmps - args.length) undef).toArray := by
        apply Array.ext'; simp
      rw [this]
      simp [List.getD_eq_getElem?_getD]
    refine wp_mono (gen_sound hm lv ct c 0 _ _ _ { tmps := args.toArray ++ Array.replicate (fn.ntmps - args.toArray.size) undef, defers := [] } w hr rfl h) fun e a' w' hp => ?_
    obtain ⟨hge, hd, _, t', env', hr', _, hk⟩ := hp
    have fin : ∀ (k : List Value → VC), k = (fun vs => match vs with | [v] => VC.ret v | vs => .ret (.tuple vs.toArray)) → (retCells P fn.results.toList t' k).wp P R env' w' →
        ∃ v, (results fn a'.tmps).run P w' = .ok v w' ∧ (∃ v', (Ending.returned v) = .returned v' ∧ R v' w') := by
      intro k hke hk
      obtain ⟨vs, hrun, hk⟩ := retCells_sound hr' _ _ hk
      have hres : (results fn a'.tmps).run P w' = .ok (if h : vs.toArray.size = 1 then vs.toArray[0] else .tuple vs.toArray) w' := by
        have hres0 : results fn a'.tmps = (do
            let vs ← fn.results.mapM (retOne a'.tmps)
            pure (if h : vs.size = 1 then vs[0] else .tuple vs)) := by
          unfold results
          congr 1
        rw [hres0, Array.mapM_eq_mapM_toList]
        simp only [Sem.run_bind, Sem.run_map, Sem.run_pure, hrun, Result.andThen_ok]
      refine ⟨_, hres, _, rfl, ?_⟩
      subst hke
      match vs, hk with
      | [], hk => exact hk
      | [v], hk => exact hk
      | v :: u :: r, hk =>
        have : ¬ ((v :: u :: r).toArray.size = 1) := by simp
        rw [dif_neg this]
        exact hk
    cases e with
    | normal =>
      obtain ⟨v, h1, h2⟩ := fin _ rfl hk
      exact ⟨hd, v, h1, h2⟩
    | ret =>
      obtain ⟨v, h1, h2⟩ := fin _ rfl hk
      exact ⟨hd, v, h1, h2⟩
    | exit i => exact hk.elim
    | goto _ => exact hge.elim
    | panic _ => exact hge.elim
    | outgrown => exact hge.elim

/-- THE LAW OF THE TREE: what it asks, shown, lets the function run to R. -/
theorem genFn_runs (hm : P.follows .mixedOrders = true) (lv ct : Marks) {f : FuncId} {fn : Func} (hf : P.funcs[f]? = some fn) (hname : (fn.name == "runtime.NumGoroutine") = false) {args : List Value} {w : World}
    (h : (genFn P lv ct fn args).wp P R (fun _ _ _ => False) w) : Runs P f args w R := by
  refine ⟨⟨fn, hf, ?_, hname⟩, genFn_calls hm hf h⟩
  unfold genFn at h
  cases hb : fn.body with
  | none => simp only [hb] at h; exact h.elim
  | some c => rfl
end
end Go.Vc
