/- Variables that are written again and again: a list of them, each with what it holds. -/
import Derived.Test.YtnbfffmdplcajaaLawKit
namespace Go.Vc

structure Vr (M M' : Mp) (l : List (Nat × List Value)) : Prop where
  nodup : (l.map Prod.fst).Nodup
  has : ∀ x ∈ l, M' x.1 = some x.2 ∧ M x.1 = none
  keep : ∀ b, b ∉ l.map Prod.fst → M' b = M b

theorem Vr.nil (M : Mp) : Vr M M [] := ⟨List.nodup_nil, fun _ h => (by cases h), fun _ _ => rfl⟩
theorem Vr.get {M M' : Mp} {l : List (Nat × List Value)} (v : Vr M M' l) (i : Nat) {b : Nat} {cs : List Value} (h : l[i]? = some (b, cs)) : M' b = some cs := (v.has _ (List.mem_of_getElem? h)).1
theorem Vr.new {M M' : Mp} {l : List (Nat × List Value)} (v : Vr M M' l) {b : Nat} {cs : List Value} (h : M' b = none) : Vr M (M'.put b cs) (l ++ [(b, cs)]) := by
  have hb : b ∉ l.map Prod.fst := fun hm => by
    obtain ⟨x, hx, rfl⟩ := List.mem_map.1 hm
    rw [(v.has x hx).1] at h; cases h
  refine ⟨?_, fun x hx => ?_, fun c hc => ?_⟩
  · rw [List.map_append, List.nodup_append]
    refine ⟨v.nodup, by simp, ?_⟩
    intro x hx y hy e
    simp only [List.map_cons, List.map_nil, List.mem_singleton] at hy
    subst hy
    exact hb (e ▸ hx)
  · rcases List.mem_append.1 hx with hx | hx
    · have hne : x.1 ≠ b := fun e => hb (e ▸ List.mem_map_of_mem hx)
      exact ⟨(Mp.put_other hne).trans (v.has x hx).1, (v.has x hx).2⟩
    · obtain rfl := List.mem_singleton.1 hx
      exact ⟨Mp.put_same _ _ _, by rw [← v.keep b hb]; exact h⟩
  · rw [List.map_append, List.mem_append, not_or] at hc
    rw [Mp.put_other (fun e => hc.2 (by rw [e]; simp)), v.keep c hc.1]
theorem Vr.set {M M' : Mp} {l : List (Nat × List Value)} (v : Vr M M' l) (i : Nat) {b : Nat} {cs cs' : List Value} (h : l[i]? = some (b, cs)) : Vr M (M'.put b cs') (l.set i (b, cs')) := by
  have hi : i < l.length := (List.getElem?_eq_some_iff.1 h).1
  have hm : (l.set i (b, cs')).map Prod.fst = l.map Prod.fst := by
    rw [List.map_set]
    apply List.ext_getElem?
    intro k
    rw [List.getElem?_set]
    by_cases e : i = k
    · subst e
      rw [if_pos rfl, List.getElem?_map, h, List.length_map, if_pos hi]; rfl
    · rw [if_neg e]
  have hin : b ∈ l.map Prod.fst := List.mem_map.2 ⟨_, List.mem_of_getElem? h, rfl⟩
  refine ⟨by rw [hm]; exact v.nodup, fun x hx => ?_, fun c hc => ?_⟩
  · obtain ⟨k, hk⟩ := List.getElem?_of_mem hx
    rw [List.getElem?_set] at hk
    by_cases e : i = k
    · subst e
      rw [if_pos rfl, if_pos hi] at hk
      cases hk
      exact ⟨Mp.put_same _ _ _, (v.has _ (List.mem_of_getElem? h)).2⟩
    · rw [if_neg e] at hk
      have hne : x.1 ≠ b := fun e2 => by
        have h1 : (l.map Prod.fst)[k]? = some b := by rw [List.getElem?_map, hk, ← e2]; rfl
        have h2 : (l.map Prod.fst)[i]? = some b := by rw [List.getElem?_map, h]; rfl
        exact e ((List.getElem?_inj (by rw [List.length_map]; exact hi) v.nodup).1 (h2.trans h1.symm))
      exact ⟨(Mp.put_other hne).trans (v.has _ (List.mem_of_getElem? hk)).1, (v.has _ (List.mem_of_getElem? hk)).2⟩
  · rw [hm] at hc
    rw [Mp.put_other (fun e => hc (by rw [e]; exact hin)), v.keep c hc]
theorem Vr.adv {M M' : Mp} {l : List (Nat × List Value)} (v : Vr M M' l) : Adv M [] M' (l.map Prod.fst) :=
  ⟨fun b hb _ => v.keep b fun hm => by
    obtain ⟨x, hx, rfl⟩ := List.mem_map.1 hm
    exact hb (v.has x hx).2, fun b hb => by
    obtain ⟨x, hx, rfl⟩ := List.mem_map.1 hb
    exact .inr (v.has x hx).2⟩

section
variable {P : Program} {R : Value → World → Prop} {env : Nat → List Value → World → Prop} {w0 w : World} {H M M' : Mp} {l : List (Nat × List Value)}

theorem wp_newV (hp : Hp w0 w H M') (v : Vr M M' l) {e : TypeId} {cs : List Value} {k : Nat → VC} (hk : ∀ b w' M'', Hp w0 w' H M'' → Vr M M'' (l ++ [(b, cs)]) → (k b).wp P R env w') : (VC.new e cs k).wp P R env w :=
  wp_new hp fun b w' hp' hb _ => hk b w' _ hp' (v.new hb)
theorem wp_storeV (hp : Hp w0 w H M') (v : Vr M M' l) (i : Nat) {b off : Nat} {cs vs : List Value} (hi : l[i]? = some (b, cs)) {k : VC} (hn : off + vs.length ≤ cs.length) (h1 : ∀ x ∈ vs, x.oneCell' = true)
    (hk : ∀ w' M'', Hp w0 w' H M'' → Vr M M'' (l.set i (b, splice cs off vs)) → k.wp P R env w') : (VC.store ⟨b, off, none⟩ vs k).wp P R env w :=
  wp_store hp (v.get i hi) hn h1 fun w' hp' => hk w' _ hp' (v.set i hi)
theorem wp_storeV0 (hp : Hp w0 w H M') (v : Vr M M' l) (i : Nat) {b : Nat} {cs vs : List Value} (hi : l[i]? = some (b, cs)) {k : VC} (hn : vs.length = cs.length) (h1 : ∀ x ∈ vs, x.oneCell' = true)
    (hk : ∀ w' M'', Hp w0 w' H M'' → Vr M M'' (l.set i (b, vs)) → k.wp P R env w') : (VC.store ⟨b, 0, none⟩ vs k).wp P R env w :=
  wp_storeV hp v i hi (by omega) h1 fun w' M'' hp' v' => hk w' M'' hp' (by rwa [splice_all hn] at v')
theorem Vr.done (hp : Hp w0 w H M') (v : Vr M M' l) : Hp w0 w H M := (hp.give v.adv).lessH (hp.froz_le _)
end
end Go.Vc
namespace Go.Vc
/-- The last variable forgotten. -/
theorem Vr.pop {w0 w : World} {H M M' : Mp} {l : List (Nat × List Value)} {b : Nat} {cs : List Value} (hp : Hp w0 w H M') (v : Vr M M' (l ++ [(b, cs)])) : ∃ M'', Hp w0 w H M'' ∧ Vr M M'' l := by
  have hnd := v.nodup
  rw [List.map_append, List.nodup_append] at hnd
  have hb := v.has (b, cs) (by simp)
  have hnb : ∀ x ∈ l, x.1 ≠ b := fun x hx e => hnd.2.2 x.1 (List.mem_map_of_mem hx) b (by simp) e
  refine ⟨fun x => if x = b then none else M' x, hp.less fun c ds hc => ?_, hnd.1, fun x hx => ?_, fun c hc => ?_⟩
  · by_cases e : c = b
    · simp [e] at hc
    · simpa [e] using hc
  · have h := v.has x (List.mem_append_left _ hx)
    exact ⟨by simp [hnb x hx, h.1], h.2⟩
  · by_cases e : c = b
    · simp [e, hb.2]
    · simp only [e, if_false]
      exact v.keep c (by rw [List.map_append, List.mem_append, not_or]; exact ⟨hc, by simpa using e⟩)
end Go.Vc
namespace Go.Proofs.Ytnbfffmdplcajaa
open Go.Vc Go.Vc.Rf
section
variable {w0 w : World} {H M : Mp}

/-- A step's results, given up and taken apart. -/
theorem top_apart {x : Sp} {R : Raft} {S : List Msg} {v : Value} {w' : World} (h : Top w0 H M x v w') (hr : x.r = R) (hs : x.q.send = S) :
    ∃ (y1 y2 y3 y4 y5 y6 y7 z1 z2 z3 : Sl3) (H' : Mp), v = .tuple #[.agg (cells17 R y1 y2 y3 y4 y5 y6 y7).toArray, .agg #[.slice z1.a z1.n z1.c, .slice z2.a z2.n z2.c, .slice z3.a z3.n z3.c]] ∧ RaS H' R y1 y2 y3 y4 y5 y6 y7 ∧ Ra H' (cells17 R y1 y2 y3 y4 y5 y6 y7) R ∧
      Sl H' (Ms H') z2.a z2.n z2.c S ∧ Hp w0 w' H' M ∧ H.le H' := by
  subst hr; subst hs
  obtain ⟨cs, cq, H', rfl, hr, hq, hp, hle⟩ := top_give h
  have hr' := hr
  obtain ⟨y1, y2, y3, y4, y5, y6, y7, rfl, hx⟩ := hr
  obtain ⟨z1, z2, z3, rfl, _, hs, _⟩ := hq
  exact ⟨y1, y2, y3, y4, y5, y6, y7, z1, z2, z3, H', rfl, hx, hr', hs, hp, hle⟩
/-- A letter among others: its place, all its cells. -/
theorem msgIn {a : Option Addr} {n c : Nat} {l : List Msg} (hs : Sl H (Ms H) a n c l) {i : Nat} {x : Msg} (hi : l[i]? = some x) : ∃ b o cs, a = some ⟨b, o, none⟩ ∧ i < n ∧ Ms H cs x ∧
    ∀ {w' : World} {M' : Mp}, Hp w0 w' H M' → ∀ j m, j + m ≤ 21 → cellsAt w' ⟨b, o + i * 21 + j, none⟩ 0 m = some ((cs.drop j).take m) := by
  obtain ⟨b, o, cs, ha, hcs, hat⟩ := Sl.elemU Ms.len hs hi (by omega)
  have := (List.getElem?_eq_some_iff.1 hi).1
  exact ⟨b, o, cs, ha, by rw [hs.1]; omega, hcs, fun hp j m hjm => hat _ _ _ hp hp.le_uni j m hjm⟩

end
end Go.Proofs.Ytnbfffmdplcajaa
