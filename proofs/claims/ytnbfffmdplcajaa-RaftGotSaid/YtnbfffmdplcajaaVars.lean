/- Variables that are written again and again: a list of them, each with what it holds. -/
import Derived.Test.YtnbfffmdplcajaaLawKit
namespace Go.Vc

structure Vr (M M' : Mp) (l : List (Nat × List Value)) : Prop where
  nodup : (l.map Prod.fst).Nodup
  has : ∀ x ∈ l, M' x.1 = some x.2 ∧ M x.1 = none
  keep : ∀ b, b ∉ l.map Prod.fst → M' b = M b

theorem Vr.nil (M : Mp) : Vr M M [] := ⟨List.nodup_nil, fun _ h => (by cases h), fun _ _ => rfl⟩
theorem Vr.get {M M' : Mp} {l : List (Nat × List Value)} (v : Vr M M' l) (i : Nat) {b : Nat} {cs : List Value} (h : l[i]? = some (b, cs)) : M' b = some cs := (v.has _ (List.mem_of_getElem? h)).1
theorem Vr.new {M M' : Mp} {l : List (Nat × List Value)} (v : Vr M M' l) {b : Nat} {cs : List Value} (h : M' b = none) : Vr M (M'.put b cs) (l ++ [(b, cs)]) := by
  have hb : b ∉ l.map Prod.fst := fun hm => by
    obtain ⟨x, hx, rfl⟩ := List.mem_map.1 hm
    rw [(v.has x hx).1] at h; cases h
  refine ⟨?_, fun x hx => ?_, fun c hc => ?_⟩
  · rw [List.map_append, List.nodup_append]
    refine ⟨v.nodup, by simp, ?_⟩
    intro x hx y hy e
    simp only [List.map_cons, List.map_nil, List.mem_singleton] at hy
    subst hy
    exact hb (e ▸ hx)
  · rcases List.mem_append.1 hx with hx | hx
    · have hne : x.1 ≠ b := fun e => hb (e ▸ List.mem_map_of_mem hx)
      exact ⟨(Mp.put_other hne).trans (v.has x hx).1, (v.has x hx).2⟩
    · obtain rfl := List.mem_singleton.1 hx
      exact ⟨Mp.put_same _ _ _, by rw [← v.keep b hb]; exact h⟩
  · rw [List.map_append, List.mem_append, not_or] at hc
    rw [Mp.put_other (fun e => hc.2 (by rw [e]; simp)), v.keep c hc.1]
theorem Vr.set {M M' : Mp} {l : List (Nat × List Value)} (v : Vr M M' l) (i : Nat) {b : Nat} {cs cs' : List Value} (h : l[i]? = some (b, cs)) : Vr M (M'.put b cs') (l.set i (b, cs')) := by
  have hi : i < l.length := (List.getElem?_eq_some_iff.1 h).1
  have hm : (l.set i (b, cs')).map Prod.fst = l.map Prod.fst := by
    rw [List.map_set]
    apply List.ext_getElem?
    intro k
    rw [List.getElem?_set]
    by_cases e : i = k
    · subst e
      rw [if_pos rfl, List.getElem?_map, h, List.length_map, if_pos hi]; rfl
    · rw [if_neg e]
  have hin : b ∈ l.map Prod.fst := List.mem_map.2 ⟨_, List.mem_of_getElem? h, rfl⟩
  refine ⟨by rw [hm]; exact v.nodup, fun x hx => ?_, fun c hc => ?_⟩
  · obtain ⟨k, hk⟩ := List.getElem?_of_mem hx
    rw [List.getElem?_set] at hk
    by_cases e : i = k
    · subst e
      rw [if_pos rfl, if_pos hi] at hk
      cases hk
      exact ⟨Mp.put_same _ _ _, (v.has _ (List.mem_of_getElem? h)).2⟩
    · rw [if_neg e] at hk
      have hne : x.1 ≠ b := fun e2 => by
        have h1 : (l.map Prod.fst)[k]? = some b := by rw [List.getElem?_map, hk, ← e2]; rfl
        have h2 : (l.map Prod.fst)[i]? = some b := by rw [List.getElem?_map, h]; rfl
        exact e ((List.getElem?_inj (by rw [List.length_map]; exact hi) v.nodup).1 (h2.trans h1.symm))
      exact ⟨(Mp.put_other hne).trans (v.has _ (List.mem_of_getElem? hk)).1, (v.has _ (List.mem_of_getElem? hk)).2⟩
  · rw [hm] at hc
    rw [Mp.put_other (fun e => hc (by rw [e]; exact hin)), v.keep c hc]
theorem Vr.adv {M M' : Mp} {l : List (Nat × List Value)} (v : Vr M M' l) : Adv M [] M' (l.map Prod.fst) :=
  ⟨fun b hb _ => v.keep b fun hm => by
    obtain ⟨x, hx, rfl⟩ := List.mem_map.1 hm
    exact hb (v.has x hx).2, fun b hb => by
    obtain ⟨x, hx, rfl⟩ := List.mem_map.1 hb
    exact .inr (v.has x hx).2⟩

section
variable {P : Program} {R : Value → World → Prop} {env : Nat → List Value → World → Prop} {w0 w : World} {H M M' : Mp} {l : List (Nat × List Value)}

theorem wp_newV (hp : Hp w0 w H M') (v : Vr M M' l) {e : TypeId} {cs : List Value} {k : Nat → VC} (hk : ∀ b w' M'', Hp w0 w' H M'' → Vr M M'' (l ++ [(b, cs)]) → (k b).wp P R env w') : (VC.new e cs k).wp P R env w :=
  wp_new hp fun b w' hp' hb _ => hk b w' _ hp' (v.new hb)
theorem wp_storeV (hp : Hp w0 w H M') (v : Vr M M' l) (i : Nat) {b off : Nat} {cs vs : List Value} (hi : l[i]? = some (b, cs)) {k : VC} (hn : off + vs.length ≤ cs.length) (h1 : ∀ x ∈ vs, x.oneCell' = true)
    (hk : ∀ w' M'', Hp w0 w' H M'' → Vr M M'' (l.set i (b, splice cs off vs)) → k.wp P R env w') : (VC.store ⟨b, off, none⟩ vs k).wp P R env w :=
  wp_store hp (v.get i hi) hn h1 fun w' hp' => hk w' _ hp' (v.set i hi)
theorem wp_storeV0 (hp : Hp w0 w H M') (v : Vr M M' l) (i : Nat) {b : Nat} {cs vs : List Value} (hi : l[i]? = some (b, cs)) {k : VC} (hn : vs.length = cs.length) (h1 : ∀ x ∈ vs, x.oneCell' = true)
    (hk : ∀ w' M'', Hp w0 w' H M'' → Vr M M'' (l.set i (b, vs)) → k.wp P R env w') : (VC.store ⟨b, 0, none⟩ vs k).wp P R env w :=
  wp_storeV hp v i hi (by omega) h1 fun w' M'' hp' v' => hk w' M'' hp' (by rwa [splice_all hn] at v')
theorem Vr.done (hp : Hp w0 w H M') (v : Vr M M' l) : Hp w0 w H M := (hp.give v.adv).lessH (hp.froz_le _)
end
end Go.Vc
