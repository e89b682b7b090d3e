/- Contracts: Last, TermAt, snap, entries, others, most. -/
import Derived.Test.YtnbfffmdplcajaaSame
import Derived.Test.YtnbfffmdplcajaaData
namespace Go.Proofs.Ytnbfffmdplcajaa
open Go.Vc Go.Vc.Rf

theorem wrap_u64 {x : Int} (h0 : 0 ≤ x) (h1 : x ≤ 18446744073709551615) : IntKind.u64.wrap x = x := by rw [IntKind.wrap_u64]; omega

section
variable {w0 w : World} {H M U : Mp}

theorem cloneEntriesU {sa : Option Addr} {sn sc : Nat} {cells : List Value} (hp : Hp w0 w H M) (hs : SlC (uni H M) sa cells) (hl : cells.length = sn * 2) (h1 : ∀ v ∈ cells, v.oneCell' = true) (hsz : sn ≤ 4398046511104) :
    Runs Try.prog 110 [.slice sa sn sc] w (Fresh w0 H M 2 sn cells) := r110 _ _ _ (clone_wpU hp hs hl (by omega) rfl h1 (by omega) (by omega))
theorem cloneBools {sa : Option Addr} {sn sc : Nat} {cells : List Value} (hp : Hp w0 w H M) (hs : SlC (uni H M) sa cells) (hl : cells.length = sn * 1) (h1 : ∀ v ∈ cells, v.oneCell' = true) (hsz : sn ≤ 4398046511104) :
    Runs Try.prog 95 [.slice sa sn sc] w (Fresh w0 H M 1 sn cells) := r95 _ _ _ (clone_wpU hp hs hl (by omega) rfl h1 (by omega) (by omega))
theorem cloneNums {sa : Option Addr} {sn sc : Nat} {cells : List Value} (hp : Hp w0 w H M) (hs : SlC (uni H M) sa cells) (hl : cells.length = sn * 1) (h1 : ∀ v ∈ cells, v.oneCell' = true) (hsz : sn ≤ 4398046511104) :
    Runs Try.prog 96 [.slice sa sn sc] w (Fresh w0 H M 1 sn cells) := r96 _ _ _ (clone_wpU hp hs hl (by omega) rfl h1 (by omega) (by omega))
theorem cloneReads {sa : Option Addr} {sn sc : Nat} {cells : List Value} (hp : Hp w0 w H M) (hs : SlC (uni H M) sa cells) (hl : cells.length = sn * 3) (h1 : ∀ v ∈ cells, v.oneCell' = true) (hsz : sn ≤ 4398046511104) :
    Runs Try.prog 97 [.slice sa sn sc] w (Fresh w0 H M 3 sn cells) := r97 _ _ _ (clone_wpU hp hs hl (by omega) rfl h1 (by omega) (by omega))

theorem getLast_get {α : Type} {l : List α} {x : α} (h : l[l.length - 1]? = some x) : l.getLast? = some x := by rw [List.getLast?_eq_getElem?]; exact h

theorem last_runs {r : Raft} {cs : List Value} (hp : Hp w0 w H M) (hU : U.le (uni H M)) (hr : Ra U cs r) (h0 : 0 ≤ r.snap.idx) (h1 : lastI r ≤ 9000000000000000000) :
    Runs Try.prog 25 [.agg cs.toArray] w fun v w' => v = .tuple #[.int .u64 (lastI r), .int .u64 (lastT r)] ∧ Hp w0 w' H M := by
  obtain ⟨ss, ls, vs, ns, ms, ak, rs, rfl, hr⟩ := hr
  have hn := hr.log.1
  have hnc := hr.log.2.1
  unfold lastI at h1
  apply r25
  refine wp_newH hp fun p1 w1 H1 hp1 hl1 f1 => ?_
  (refine wp_load (hp1.loadH f1 (by simp)) ?_; (repeat apply Exists.intro); refine ⟨rfl, ?_⟩)
  refine wp_bif (fun hc => ?_) fun hc => ?_
  · have hpos : 0 < r.log.length := by simp at hc; omega
    have hpd := hp1.drew
    (refine wp_load (hpd.loadH f1 (by simp)) ?_; (repeat apply Exists.intro); refine ⟨rfl, ?_⟩)
    (refine wp_load (hpd.loadH f1 (by simp)) ?_; (repeat apply Exists.intro); refine ⟨rfl, ?_⟩)
    obtain ⟨b, o, cs, ha, hcs, hat⟩ := Sl.elemU En.len hr.log (List.getElem?_eq_getElem (show r.log.length - 1 < r.log.length by omega)) (by omega)
    have hat1 := hat _ _ _ hpd (hU.trans (uni_mono hl1)) 0 1 (by omega)
    obtain ⟨ea, en, ec, rfl, _⟩ := hcs
    rw [wrap_i64 (by omega) (by omega)]
    have e1 : ((ls.n : Int) - 1).toNat = r.log.length - 1 := by omega
    refine ⟨_, ha, ⟨by omega, by omega⟩, ?_⟩
    rw [e1]
    simp only [add_mk]
    rw [Nat.add_zero] at hat1
    (refine wp_load (hat1) ?_; (repeat apply Exists.intro); refine ⟨rfl, ?_⟩)
    refine ⟨?_, hpd.lessH hl1⟩
    have e2 : lastT r = (r.log[r.log.length - 1]).term := by
      unfold lastT
      rw [getLast_get (List.getElem?_eq_getElem (show r.log.length - 1 < r.log.length by omega))]
    rw [wrap_u64 (x := (ls.n : Int)) (by omega) (by omega), wrap_u64 (by omega) (by omega), e2]
    unfold lastI
    rw [hn]
  · have hz : r.log = [] := List.eq_nil_of_length_eq_zero (by simp at hc; omega)
    have hpd := hp1.drew
    (refine wp_load (hpd.loadH f1 (by simp)) ?_; (repeat apply Exists.intro); refine ⟨rfl, ?_⟩)
    (refine wp_load (hpd.loadH f1 (by simp)) ?_; (repeat apply Exists.intro); refine ⟨rfl, ?_⟩)
    refine ⟨?_, hpd.lessH hl1⟩
    simp [lastI, lastT, hz]

theorem termAt_runs {r : Raft} {cs : List Value} {i : Int} (hp : Hp w0 w H M) (hU : U.le (uni H M)) (hr : Ra U cs r) (h0 : 0 ≤ r.snap.idx) (h1 : lastI r ≤ 9000000000000000000) :
    Runs Try.prog 27 [.agg cs.toArray, .int .u64 i] w fun v w' => v = .tuple #[.int .u64 (termAt r i).1, .bool (termAt r i).2] ∧ Hp w0 w' H M := by
  have hr0 := hr
  obtain ⟨ss, ls, vs, ns, ms, ak, rs, rfl, hr⟩ := hr
  have hn := hr.log.1
  have hnc := hr.log.2.1
  apply r27
  refine wp_newH hp fun p1 w1 H1 hp1 hl1 f1 => ?_
  (refine wp_load (hp1.loadH f1 (by simp)) ?_; (repeat apply Exists.intro); refine ⟨rfl, ?_⟩)
  refine wp_call (last_runs hp1 (hU.trans (uni_mono hl1)) hr0 h0 h1) fun v2 w2 h2 => ?_
  obtain ⟨rfl, hp2⟩ := h2
  ((repeat apply Exists.intro); refine ⟨rfl, ?_⟩)
  (refine wp_load (hp2.loadH f1 (by simp)) ?_; (repeat apply Exists.intro); refine ⟨rfl, ?_⟩)
  refine wp_bif (fun hc => ?_) fun hc => ?_
  · (refine wp_load (hp2.loadH f1 (by simp)) ?_; (repeat apply Exists.intro); refine ⟨rfl, ?_⟩)
    have e : i = r.snap.idx := by simpa using hc
    refine ⟨?_, hp2.lessH hl1⟩
    unfold termAt
    rw [if_pos e]
  · have e : ¬ i = r.snap.idx := by simpa using hc
    (refine wp_load (hp2.loadH f1 (by simp)) ?_; (repeat apply Exists.intro); refine ⟨rfl, ?_⟩)
    refine wp_bif (fun hc2 => ?_) fun hc2 => ?_
    · refine ⟨?_, hp2.lessH hl1⟩
      unfold termAt
      rw [if_neg e, if_pos (.inl (by simpa using hc2))]
    · have e2 : ¬ i < r.snap.idx := by simpa using hc2
      refine wp_bif (fun hc3 => ?_) fun hc3 => ?_
      · refine ⟨?_, hp2.lessH hl1⟩
        unfold termAt
        rw [if_neg e, if_pos (.inr (by simpa using hc3))]
      · have e3 : ¬ lastI r < i := by simpa using hc3
        unfold lastI at h1 e3
        (refine wp_load (hp2.loadH f1 (by simp)) ?_; (repeat apply Exists.intro); refine ⟨rfl, ?_⟩)
        (refine wp_load (hp2.loadH f1 (by simp)) ?_; (repeat apply Exists.intro); refine ⟨rfl, ?_⟩)
        rw [wrap_u64 (x := i - r.snap.idx) (by omega) (by omega), wrap_u64 (by omega) (by omega)]
        have hlt : (i - r.snap.idx - 1).toNat < r.log.length := by omega
        obtain ⟨b, o, cs, ha, hcs, hat⟩ := Sl.elemU En.len hr.log (List.getElem?_eq_getElem hlt) (by omega)
        have hat1 := hat _ _ _ hp2 (hU.trans (uni_mono hl1)) 0 1 (by omega)
        obtain ⟨ea, en, ec, rfl, _⟩ := hcs
        refine ⟨_, ha, ⟨by omega, by omega⟩, ?_⟩
        simp only [add_mk]
        rw [Nat.add_zero] at hat1
        (refine wp_load (hat1) ?_; (repeat apply Exists.intro); refine ⟨rfl, ?_⟩)
        refine ⟨?_, hp2.lessH hl1⟩
        unfold termAt
        rw [if_neg e, if_neg (by unfold lastI; omega), List.getD_eq_getElem?_getD, List.getElem?_eq_getElem hlt]
        rfl

theorem snap_runs {x : Snp} {a : Option Addr} {n c : Nat} (hp : Hp w0 w H M) (hx : Bs H a n c x.state) :
    Runs Try.prog 57 [.agg #[.int .u64 x.idx, .int .u64 x.term, .slice a n c]] w fun v w' => ∃ a n c H', v = .agg #[.int .u64 x.idx, .int .u64 x.term, .slice a n c] ∧ Bs H' a n c x.state ∧ Hp w0 w' H' M ∧ H.le H' := by
  apply r57
  refine wp_new hp fun p1 w1 hp1 hM1 _ => wp_new hp1 fun p2 w2 hp2 hM2 _ => ?_
  have hne : p1 ≠ p2 := fun e => by subst e; simp at hM2
  have hM2' : M p2 = none := by rwa [Mp.put_other (Ne.symm hne)] at hM2
  (refine wp_load (hp2.loadM ((Mp.put_other hne).trans (Mp.put_same _ _ _)) (by simp)) ?_; (repeat apply Exists.intro); refine ⟨rfl, ?_⟩)
  refine wp_call (cloneBytes' hp2 hx) fun v3 w3 h3 => ?_
  obtain ⟨na, nn, nc, H3, rfl, hp3, hle3, hb3⟩ := h3
  ((repeat apply Exists.intro); refine ⟨rfl, ?_⟩)
  refine wp_store hp3 ((Mp.put_other hne).trans (Mp.put_same _ _ _)) (by simp) (by simp [Value.oneCell']) fun w4 hp4 => ?_
  (refine wp_load (hp4.loadM (Mp.put_same _ _ _) (by simp [splice])) ?_; (repeat apply Exists.intro); refine ⟨rfl, ?_⟩)
  refine wp_store hp4 ((Mp.put_other (Ne.symm hne)).trans (Mp.put_same _ _ _)) (by simp) (by simp [Value.oneCell']) fun w5 hp5 => ?_
  (refine wp_load (hp5.loadM (Mp.put_same _ _ _) (by simp [splice])) ?_; (repeat apply Exists.intro); refine ⟨rfl, ?_⟩)
  refine ⟨na, nn, nc, H3, rfl, hb3, hp5.less fun b cs hb => ?_, hle3⟩
  have e1 : b ≠ p1 := fun e => by rw [e, hM1] at hb; cases hb
  have e2 : b ≠ p2 := fun e => by rw [e, hM2'] at hb; cases hb
  rw [Mp.put_other e2, Mp.put_other e1, Mp.put_other e2, Mp.put_other e1]
  exact hb

/-- Entries of one's own: the list new, each one's data new. -/
theorem entries_runs {es : List Ent} {la : Option Addr} {ln lc : Nat} (hp : Hp w0 w H M) (hU : U.le (uni H M)) (hl : Sl U (En H) la ln lc es) (hlen : es.length ≤ 4398046511104) :
    Runs Try.prog 94 [.slice la ln lc] w fun v w' => ∃ (s : Sl3) (H' M' : Mp) (o : List Nat) (cells : List Value), v = .slice s.a s.n s.c ∧ Hp w0 w' H' M' ∧ H.le H' ∧ Own M' 2 s cells o ∧ LL (En H') cells es ∧ Adv M [] M' o := by
  obtain ⟨hn1, hc1, cells, hsl, hll⟩ := hl
  have hcl := LL.length En.len hll
  apply r94
  refine wp_call (cloneEntriesU hp (hsl.mono hU) (by rw [hcl, hn1]) (one_of En.one hll) (by omega)) fun v3 w3 h3 => ?_
  obtain ⟨s, M3, o, rfl, hsn, hp3, ho3, ha3⟩ := h3
  ((repeat apply Exists.intro); refine ⟨rfl, ?_⟩)
  refine ⟨fun vs w' => ∃ k : Nat, vs = [.int .i64 k] ∧ k ≤ es.length ∧ ∃ H' M' cells', Hp w0 w' H' M' ∧ H.le H' ∧ Own M' 2 s cells' o ∧ LL (En H') cells' es ∧ Adv M [] M' o,
    fun vs _ => match vs with | [.int _ q] => es.length - q.toNat | _ => 0, ⟨0, rfl, Nat.zero_le _, H, M3, cells, hp3, Mp.le.refl _, ho3, hll, ha3⟩, ?_⟩
  rintro vs w5 ⟨k, rfl, hk, H5, M5, cells5, hp5, hle5, ho5, hll5, ha5⟩
  refine ⟨_, rfl, wp_bif (fun hlt => ?_) fun hge => ?_⟩
  · have hklt : k < es.length := by simp at hlt; omega
    have hl5 := LL.length En.len hll5
    obtain ⟨b, hb⟩ := ho5.isSome (by omega)
    have hget := LL.get En.len k hll5 (List.getElem?_eq_getElem hklt)
    obtain ⟨ea, en, ec, hce, hbs⟩ := hget
    refine ⟨_, hb, ⟨by omega, by omega⟩, ?_⟩
    obtain ⟨b', hb', _, hat⟩ := ho5.at_ hp5 (i := k * 2 + 1) (n := 1) (by omega) (by omega)
    rw [hb] at hb'
    cases hb'
    have hcell : (cells5.drop (k * 2 + 1)).take 1 = [.slice ea en ec] := by
      have := congrArg (List.drop 1) hce
      rw [List.drop_take, List.drop_drop] at this
      exact this
    rw [hcell] at hat
    simp only [add_mk, Int.toNat_natCast, Nat.zero_add]
    (refine wp_load (hat) ?_; (repeat apply Exists.intro); refine ⟨rfl, ?_⟩)
    refine wp_call (cloneBytes' hp5 hbs) fun v6 w6 h6 => ?_
    obtain ⟨na, nn, nc, H6, rfl, hp6, hle6, hb6⟩ := h6
    refine ⟨_, _, _, rfl, ⟨_, hb, ⟨by omega, by omega⟩, ?_⟩⟩
    simp only [add_mk, Nat.zero_add]
    refine wp_ownstore hp6 ho5 hb (by simp) (by simp; omega) (by simp [Value.oneCell']) fun w7 M7 hp7 ho7 ha7 => ?_
    refine ⟨⟨k + 1, ?_, hklt, H6, M7, _, hp7, hle5.trans hle6, ho7, ?_, ha5.trans ha7⟩, ?_⟩
    · rw [wrap_i64 (by omega) (by omega)]; rfl
    · have := LL.upd (En.len (H := H6)) k (j := 1) (vs := [.slice na nn nc]) (x := es[k]) (x' := es[k]) (hll5.mono (En.mono hle6)) (List.getElem?_eq_getElem hklt) (by simp) fun c hc => ?_
      · rwa [List.set_getElem_self] at this
      · obtain ⟨qa, qn, qc, rfl, _⟩ := hc
        exact ⟨na, nn, nc, rfl, hb6⟩
    · show es.length - (IntKind.i64.wrap ((k : Int) + 1)).toNat < es.length - (k : Int).toNat
      rw [wrap_i64 (by omega) (by omega)]; omega
  · exact ⟨s, H5, M5, o, cells5, rfl, hp5, hle5, ho5, hll5, ha5⟩
end
end Go.Proofs.Ytnbfffmdplcajaa
