/- Lists of their own, of several steps: written each by itself. -/
import Derived.Test.YtnbfffmdplcajaaSz
import Derived.Test.YtnbfffmdplcajaaVars
namespace Go.Vc.Rf
open Go.Proofs.Ytnbfffmdplcajaa

/-! ### a leader's lists are of one length -/
def T3 (r : Raft) : Prop := r.mat.length = r.next.length ∧ r.acks.length = r.next.length
theorem t3_calls {x : Sp} (h : T3 x.r) : T3 x.calls.r := by rw [calls_r]; exact h
theorem t3_leads {x : Sp} : T3 x.leads.r := by
  refine t3_calls (x := (({ x with r := Rf.lead x.r } : Sp).put []).counts) ?_
  show T3 (Rf.lead x.r)
  simp [T3, Rf.lead]
theorem t3_elects {x : Sp} (h : T3 x.r) : T3 x.elects.r := by
  unfold Sp.elects
  split
  · exact t3_leads
  · exact h
theorem t3_may {r : Raft} (h : MayP r) : T3 r := by
  by_cases e : r.role = 2
  · obtain ⟨a, b, c⟩ := h.lead e
    exact ⟨by omega, by omega⟩
  · obtain ⟨e1, e2, e3, _⟩ := h.notl e
    exact ⟨by rw [e1, e2], by rw [e1, e3]⟩
theorem t3_sends {x : Sp} {to : Int} (h : T3 x.r) : T3 (x.sends to).r := by rw [sends_r]; exact h
theorem t3_timeout {r : Raft} (h : MayP r) : T3 (timeout r).r := by
  unfold timeout
  split
  · exact t3_may h
  · have h1 : T3 (Rf.start (stands r)).hard.elects.r := t3_elects (x := (Rf.start (stands r)).hard) ⟨rfl, rfl⟩
    dsimp only
    split
    · exact h1
    · rw [(askFold _ _ _).1]; exact h1
theorem t3_propose {r : Raft} {d : List UInt8} (h : MayP r) : T3 (propose r d).1.r := by
  unfold propose
  split
  · have hh := t3_may h
    exact t3_calls (x := ((Rf.start r).put d).counts) hh
  · exact ⟨rfl, rfl⟩
theorem t3_compact {r : Raft} {d : List UInt8} (h : MayP r) : T3 (compact r d).r := by
  have hh := t3_may h
  unfold compact
  split <;> exact hh
theorem t3_takes {x : Sp} {i : Int} {e : Ent} (h : T3 x.r) : T3 (x.takes i e).r := by
  unfold Sp.takes
  split
  · exact h
  split
  · exact h
  split <;> exact h
theorem t3_takesAll : ∀ (l : List Ent) {x : Sp} {i : Int}, T3 x.r → T3 (x.takesAll i l).r
  | [], _, _, h => h
  | _ :: l, _, _, h => t3_takesAll l (t3_takes h)
theorem t3_led {x : Sp} {m : Msg} (h : T3 x.r) : T3 (x.led m).1.r := by
  unfold Sp.led
  split
  · exact h
  · exact ⟨rfl, rfl⟩
theorem t3_done {x : Sp} {m : Msg} (h : T3 x.r) : T3 (x.done m).r := by
  have sl : ∀ {l : List Int} {k : Nat} {v : Int}, (l.set k v).length = l.length := List.length_set
  unfold Sp.done
  split
  · exact h
  dsimp only
  split
  · split
    · show T3 (Sp.sends _ _).r
      rw [sends_r]
      exact ⟨by show (List.set _ _ _).length = (List.set _ _ _).length; rw [sl, sl]; exact h.1, by show (List.set _ _ _).length = (List.set _ _ _).length; rw [sl, sl]; exact h.2⟩
    · exact ⟨by show (List.set _ _ _).length = (List.set _ _ _).length; rw [sl, sl]; exact h.1, by show (List.set _ _ _).length = (List.set _ _ _).length; rw [sl, sl]; exact h.2⟩
  · split
    · show T3 (Sp.sends _ _).r
      rw [sends_r]
      exact ⟨by show x.r.mat.length = (List.set _ _ _).length; rw [sl]; exact h.1, by show (List.set _ _ _).length = (List.set _ _ _).length; rw [sl, sl]; exact h.2⟩
    · exact ⟨h.1, by show (List.set _ _ _).length = x.r.next.length; rw [sl]; exact h.2⟩
theorem t3_gotAt {r : Raft} {m : Msg} (h : MayP r) : T3 (gotAt r m).r := by
  unfold gotAt
  split
  · exact ⟨rfl, rfl⟩
  · exact t3_may h
theorem t3_got {r : Raft} {m : Msg} (h : MayP r) : T3 (got r m).r := by
  cases hm : mine r m with
  | false => unfold got; rw [if_pos hm]; exact t3_may h
  | true =>
    rw [got_mine hm]
    have hg := t3_gotAt (m := m) h
    split
    · show T3 (Sp.asked _ _).r
      unfold Sp.asked
      split <;> exact hg
    split
    · show T3 (Sp.voted _ _).r
      unfold Sp.voted
      split
      · exact t3_elects (x := { gotAt r m with r := { (gotAt r m).r with votes := _ } }) hg
      · exact hg
    split
    · show T3 (Sp.appends _ _).r
      unfold Sp.appends
      split
      · exact t3_led hg
      · dsimp only
        split
        · exact t3_led hg
        · exact t3_takesAll m.entries (t3_led hg)
    split
    · show T3 (Sp.snaps _ _).r
      unfold Sp.snaps
      split
      · exact t3_led hg
      · dsimp only
        split
        · split <;> exact t3_led hg
        · exact t3_led hg
    · exact t3_done hg

/-! ### several steps' lists, apart from each other -/
structure Ow (M M' : Mp) (G : Nat → Nat → Comp) (n : Nat) : Prop where
  own : ∀ i c, i < n → c < 6 → Own M' (wd c) (G i c).sl (G i c).cells (G i c).o
  apart : ∀ i c j d, i < n → c < 6 → j < n → d < 6 → (i ≠ j ∨ c ≠ d) → ∀ b ∈ (G i c).o, b ∉ (G j d).o
  fresh : ∀ i c, i < n → c < 6 → ∀ b ∈ (G i c).o, M b = none
  keep : ∀ b, M b ≠ none → M' b = M b

theorem Ow.start (M : Mp) (G : Nat → Nat → Comp) : Ow M M G 0 := ⟨fun _ _ h => absurd h (Nat.not_lt_zero _), fun _ _ _ _ h => absurd h (Nat.not_lt_zero _), fun _ _ h => absurd h (Nat.not_lt_zero _), fun _ _ => rfl⟩

theorem Ow.add {M M' M2 : Mp} {G : Nat → Nat → Comp} {n : Nat} (w : Ow M M' G n) {g : Gs} (u : Un M' M2 g) : Ow M M2 (fun i c => if i = n then g c else G i c) (n + 1) := by
  have hnew : ∀ c, c < 6 → ∀ b ∈ (g c).o, M' b = none := fun c hc b hb => u.fresh c (by omega) b hb
  refine ⟨fun i c hi hc => ?_, fun i c j d hi hc hj hd hne b hb => ?_, fun i c hi hc b hb => ?_, fun b hb => ?_⟩
  · by_cases e : i = n
    · simp only [e, if_true]; exact u.own c (by omega)
    · simp only [e, if_false]
      have ho := w.own i c (by omega) hc
      exact ho.frame fun b hb => u.keep b (ho.ne b hb)
  · by_cases e1 : i = n
    · simp only [e1, if_true] at hb
      by_cases e2 : j = n
      · simp only [e2, if_true]
        exact u.apart c d (by omega) (by omega) (by omega) b hb
      · simp only [e2, if_false]
        exact fun h => (w.own j d (by omega) hd).ne b h (hnew c hc b hb)
    · simp only [e1, if_false] at hb
      by_cases e2 : j = n
      · simp only [e2, if_true]
        exact fun h => (w.own i c (by omega) hc).ne b hb (hnew d hd b h)
      · simp only [e2, if_false]
        exact w.apart i c j d (by omega) hc (by omega) hd hne b hb
  · by_cases e : i = n
    · simp only [e, if_true] at hb
      cases hm : M b with
      | none => rfl
      | some cs =>
        have := w.keep b (by rw [hm]; simp)
        rw [hnew c hc b hb, hm] at this; cases this
    · simp only [e, if_false] at hb
      exact w.fresh i c (by omega) hc b hb
  · rw [u.keep b (by rw [w.keep b hb]; exact hb), w.keep b hb]

/-- Lists that lie apart: their places fixed, what they hold anything of its kind. -/
def St4 (w0 : World) (H M : Mp) (S : Nat → Nat → Sl3) (w : World) : Prop :=
  ∃ G M', Hp w0 w H M' ∧ Ow M M' G 4 ∧ (∀ i c, i < 4 → c < 6 → (G i c).sl = S i c) ∧ ∀ i, i < 4 → ∀ v ∈ (G i 1).cells, ∃ b, v = .bool b

section
variable {P : Program} {R : Value → World → Prop} {env : Nat → List Value → World → Prop} {w0 w : World} {H M : Mp} {S : Nat → Nat → Sl3}

theorem St4.drew (h : St4 w0 H M S w) : St4 w0 H M S w.drew := by
  obtain ⟨G, M', hp, rest⟩ := h
  exact ⟨G, M', hp.drew, rest⟩
theorem St4.done (h : St4 w0 H M S w) : Hp w0 w H M := by
  obtain ⟨G, M', hp, ow, _⟩ := h
  exact hp.less fun b cs hb => by rw [ow.keep b (by rw [hb]; simp)]; exact hb
theorem St4.loadH (h : St4 w0 H M S w) {b off n : Nat} {cs : List Value} (hb : H b = some cs) (hn : off + n ≤ cs.length) : cellsAt w ⟨b, off, none⟩ 0 n = some ((cs.drop off).take n) := by
  obtain ⟨G, M', hp, _⟩ := h
  exact hp.loadH hb hn

theorem wp_stG (st : St4 w0 H M S w) (i c : Nat) (hi : i < 4) (hc : c < 6) {k j : Nat} (hk : wd c = k) (hk0 : 0 < k) {n : Nat} (hn : n = (S i c).n) (hj : j < n) {v : Value} (h1 : v.oneCell' = true) (hv : c = 1 → ∃ b, v = .bool b) {K : VC} (hK : ∀ w', St4 w0 H M S w' → K.wp P R env w') :
    (VC.some (S i c).a fun x => .need ((0 : Int) ≤ (j : Int) ∧ (j : Int) < (n : Int)) <| .store (x.add ((j : Int).toNat * k)) [v] K).wp P R env w := by
  obtain ⟨G, M', hp, ow, hS, hB⟩ := st
  have ho := ow.own i c hi hc
  have hcl := ho.1
  rw [hS i c hi hc] at ho hcl
  rw [hk] at ho hcl
  have hjk : j * k + k ≤ (S i c).n * k := by
    rw [show j * k + k = (j + 1) * k by rw [Nat.add_mul]; omega]
    exact Nat.mul_le_mul_right k (by omega)
  obtain ⟨b, hb⟩ := ho.isSome (by omega)
  refine ⟨_, hb, ⟨by omega, by omega⟩, ?_⟩
  simp only [add_mk, Nat.zero_add, Int.toNat_natCast]
  refine wp_ownstore hp ho hb (by simp) (by simp; omega) (by simpa using h1) fun w' M2 hp2 ho2 ha2 => ?_
  refine hK w' ⟨fun i' c' => if i' = i ∧ c' = c then ⟨S i c, splice (G i c).cells (j * k) [v], (G i c).o⟩ else G i' c', M2, hp2, ⟨fun i' c' hi' hc' => ?_, fun i' c' j' d' hi' hc' hj' hd' hne b' hb' => ?_, fun i' c' hi' hc' b' hb' => ?_, fun b' hb' => ?_⟩, fun i' c' hi' hc' => ?_, fun i' hi' u hu => ?_⟩
  · by_cases e : i' = i ∧ c' = c
    · simp only [e, and_self, if_true]; rw [hk]; exact ho2
    · simp only [e, if_false]
      have ho' := ow.own i' c' hi' hc'
      exact ho'.frame fun b' hb' => ha2.keep b' (ho'.ne b' hb') (ow.apart i' c' i c hi' hc' hi hc (by omega) b' hb')
  · have eo : ∀ a d, ((if a = i ∧ d = c then (⟨S i c, splice (G i c).cells (j * k) [v], (G i c).o⟩ : Comp) else G a d)).o = (G a d).o := fun a d => by
      by_cases e : a = i ∧ d = c
      · obtain ⟨rfl, rfl⟩ := e; simp
      · simp only [e, if_false]
    rw [eo] at hb' ⊢
    exact ow.apart i' c' j' d' hi' hc' hj' hd' hne b' hb'
  · have eo : ((if i' = i ∧ c' = c then (⟨S i c, splice (G i c).cells (j * k) [v], (G i c).o⟩ : Comp) else G i' c')).o = (G i' c').o := by
      by_cases e : i' = i ∧ c' = c
      · obtain ⟨rfl, rfl⟩ := e; simp
      · simp only [e, if_false]
    rw [eo] at hb'
    exact ow.fresh i' c' hi' hc' b' hb'
  · rw [ha2.keep b' (by rw [ow.keep b' hb']; exact hb') fun h => hb' (ow.fresh i c hi hc b' h), ow.keep b' hb']
  · by_cases e : i' = i ∧ c' = c
    · obtain ⟨rfl, rfl⟩ := e; simp
    · simp only [e, if_false]; exact hS i' c' hi' hc'
  · by_cases e : i' = i ∧ 1 = c
    · obtain ⟨rfl, rfl⟩ := e
      simp only [and_self, if_true] at hu
      unfold splice at hu
      rcases List.mem_append.1 hu with hu | hu
      · rcases List.mem_append.1 hu with hu | hu
        · exact hB i' hi' u (List.mem_of_mem_take hu)
        · rw [List.mem_singleton] at hu
          subst hu; exact hv rfl
      · exact hB i' hi' u (List.mem_of_mem_drop hu)
    · simp only [e, if_false] at hu
      exact hB i' hi' u hu

/-- A vote asked for. -/
theorem wp_ldG (st : St4 w0 H M S w) (i : Nat) (hi : i < 4) {j n : Nat} (hn : n = (S i 1).n) (hj : j < n) {K : List Value → VC} (hK : ∀ b, (K [.bool b]).wp P R env w) :
    (VC.some (S i 1).a fun x => .need ((0 : Int) ≤ (j : Int) ∧ (j : Int) < (n : Int)) <| .load (x.add ((j : Int).toNat * 1)) 1 K).wp P R env w := by
  obtain ⟨G, M', hp, ow, hS, hB⟩ := st
  have ho := ow.own i 1 hi (by omega)
  have hcl := ho.1
  rw [hS i 1 hi (by omega)] at ho hcl
  change (G i 1).cells.length = (S i 1).n * 1 at hcl
  obtain ⟨b, hb, _, hat⟩ := ho.at_ hp (i := j) (n := 1) (by omega) (by omega)
  refine ⟨_, hb, ⟨by omega, by omega⟩, ?_⟩
  have hg : ((G i 1).cells.drop j).take 1 = [(G i 1).cells[j]'(by omega)] := by
    rw [List.drop_eq_getElem_cons (by omega)]; rfl
  obtain ⟨bb, hbb⟩ := hB i hi ((G i 1).cells[j]'(by omega)) (List.getElem_mem _)
  rw [hg, hbb] at hat
  simp only [add_mk, Nat.zero_add, Int.toNat_natCast, Nat.mul_one]
  exact ⟨_, hat, hK bb⟩
end
theorem bo_all {cells : List Value} : ∀ {l : List Bool}, LL Bo cells l → ∀ v ∈ cells, ∃ b, v = .bool b := by
  intro l
  induction l generalizing cells with
  | nil => intro h v hv; simp only [LL] at h; subst h; cases hv
  | cons b l ih =>
    rintro ⟨c, r, rfl, hb, hr⟩ v hv
    cases hb
    rcases List.mem_append.1 hv with hv | hv
    · rw [List.mem_singleton] at hv; exact ⟨b, hv⟩
    · exact ih hr v hv
end Go.Vc.Rf
