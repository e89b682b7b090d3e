/- Contracts: slices.Clone of bytes and of entries; SameEntries, SameSnap, SameMsg: two are told to be the same just where they are. -/
import Derived.Test.YtnbfffmdplcajaaCopy
import Derived.Test.YtnbfffmdplcajaaTreeA
import Derived.Test.YtnbfffmdplcajaaTreeD
namespace Go.Proofs.Ytnbfffmdplcajaa
open Go.Vc Go.Vc.Rf

section
variable {w0 w : World} {H M : Mp}

theorem cloneBytes {sa : Option Addr} {sn sc : Nat} {l : List UInt8} (hp : Hp w0 w H M) (hs : Bs H sa sn sc l) :
    Runs Try.prog 54 [.slice sa sn sc] w (Fresh w0 H M 1 sn (l.map fun b => .int .u8 b.toNat)) := by
  obtain ⟨h1, h2, h3, h4⟩ := hs
  exact r54 _ _ _ (clone_wp hp h4 (by simp [h1]) (by omega) rfl (bytes_one l) (by omega) (by omega))

theorem cloneBytes' {sa : Option Addr} {sn sc : Nat} {l : List UInt8} (hp : Hp w0 w H M) (hs : Bs H sa sn sc l) :
    Runs Try.prog 54 [.slice sa sn sc] w fun v w' => ∃ a n c, ∃ H' : Mp, v = .slice a n c ∧ Hp w0 w' H' M ∧ H.le H' ∧ Bs H' a n c l := by
  refine (cloneBytes hp hs).mono fun v w' h => ?_
  obtain ⟨s', H', rfl, hn, hle, hp', hH, hsl⟩ := h.give
  exact ⟨_, _, _, H', rfl, hp', hH, by rw [hn]; exact hs.1, hle, hs.2.2.1, hsl⟩

theorem cloneEntries {sa : Option Addr} {sn sc : Nat} {cells : List Value} (hp : Hp w0 w H M) (hs : SlC H sa cells) (hl : cells.length = sn * 2) (h1 : ∀ v ∈ cells, v.oneCell' = true) (hsz : sn ≤ 4398046511104) :
    Runs Try.prog 110 [.slice sa sn sc] w (Fresh w0 H M 2 sn cells) := r110 _ _ _ (clone_wp hp hs hl (by omega) rfl h1 (by omega) (by omega))

theorem sameEntries {aa ba : Option Addr} {an ac bn bc : Nat} {es fs : List Ent} (hp : Hp w0 w H M) (ha : Sl H (En H) aa an ac es) (hb : Sl H (En H) ba bn bc fs) (hlen : es.length ≤ 4398046511104) :
    Runs Try.prog 48 [.slice aa an ac, .slice ba bn bc] w fun v w' => ∃ b, v = .bool b ∧ (b = true ↔ es = fs) ∧ Hp w0 w' H M := by
  have hn := ha.1
  have hm := hb.1
  refine r48 _ _ _ _ _ _ (wp_bif (fun hne => ?_) fun heq => ?_)
  · refine ⟨false, rfl, ⟨fun h => (by cases h), fun h => ?_⟩, hp⟩
    subst h
    simp at hne; omega
  have heq' : an = bn := by simp at heq; omega
  refine ⟨fun vs w' => ∃ k : Nat, vs = [.int .i64 k] ∧ k ≤ es.length ∧ es.take k = fs.take k ∧ Hp w0 w' H M, fun vs _ => match vs with | [.int _ q] => es.length - q.toNat | _ => 0, ⟨0, rfl, Nat.zero_le _, by simp, hp⟩, ?_⟩
  rintro vs w' ⟨k, rfl, hk, htake, hp'⟩
  refine ⟨_, rfl, wp_bif (fun hlt => ?_) fun hge => ?_⟩
  · have hklt : k < es.length := by simp at hlt; omega
    have hkf : k < fs.length := by omega
    obtain ⟨b1, o1, c1, rfl, he1, hc1⟩ := Sl.elem En.len ha hp' (List.getElem?_eq_getElem hklt) (by omega)
    obtain ⟨b2, o2, c2, rfl, he2, hc2⟩ := Sl.elem En.len hb hp' (List.getElem?_eq_getElem hkf) (by omega)
    obtain ⟨a1, n1, k1, rfl, hd1⟩ := he1
    obtain ⟨a2, n2, k2, rfl, hd2⟩ := he2
    have hpd := hp'.drew
    have e1 := hc1 _ _ hpd 0 1 (by omega)
    have e2 := hc2 _ _ hpd 0 1 (by omega)
    have e3 := hc1 _ _ hpd 1 1 (by omega)
    have e4 := hc2 _ _ hpd 1 1 (by omega)
    simp only [Nat.add_zero] at e1 e2
    refine ⟨_, rfl, ⟨by omega, by omega⟩, ?_⟩
    simp only [add_mk, Int.toNat_natCast]
    refine ⟨_, e1, _, rfl, _, rfl, ⟨by omega, by omega⟩, ?_⟩
    simp only [add_mk]
    refine ⟨_, e2, _, rfl, wp_bif (fun hne => ?_) fun heq2 => ?_⟩
    · refine ⟨false, rfl, ⟨fun h => (by cases h), fun h => ?_⟩, hpd⟩
      subst h
      simp at hne
    · have hterm : es[k].term = fs[k].term := by simpa using heq2
      refine ⟨_, rfl, ⟨by omega, by omega⟩, ?_⟩
      simp only [add_mk]
      refine ⟨_, e3, _, _, _, rfl, ⟨es[k].data.toArray⟩, Bs.read hd1 hpd, _, rfl, ⟨by omega, by omega⟩, ?_⟩
      simp only [add_mk]
      refine ⟨_, e4, _, _, _, rfl, ⟨fs[k].data.toArray⟩, Bs.read hd2 hpd, wp_bif (fun hne => ?_) fun heq3 => ?_⟩
      · refine ⟨false, rfl, ⟨fun h => (by cases h), fun h => ?_⟩, hpd⟩
        subst h
        simp at hne
      · have hdata : es[k].data = fs[k].data := by
          simpa [bytes_toList] using heq3
        refine ⟨⟨k + 1, ?_, hklt, ?_, hpd⟩, ?_⟩
        · rw [wrap_i64 (by omega) (by omega)]; rfl
        · rw [List.take_succ_eq_append_getElem hklt, List.take_succ_eq_append_getElem hkf, htake, Ent.ext' hterm hdata]
        · show es.length - (IntKind.i64.wrap ((k : Int) + 1)).toNat < es.length - (k : Int).toNat
          rw [wrap_i64 (by omega) (by omega)]; omega
  · have hkeq : k = es.length := by simp at hge; omega
    subst hkeq
    refine ⟨true, rfl, ⟨fun _ => ?_, fun _ => rfl⟩, hp'⟩
    rw [List.take_length] at htake
    rw [htake, List.take_of_length_le (by omega)]

theorem sameSnap {aa ba : Option Addr} {an ac bn bc : Nat} {s t : Snp} (hp : Hp w0 w H M) (ha : Bs H aa an ac s.state) (hb : Bs H ba bn bc t.state) :
    Runs Try.prog 49 [.agg #[.int .u64 s.idx, .int .u64 s.term, .slice aa an ac], .agg #[.int .u64 t.idx, .int .u64 t.term, .slice ba bn bc]] w fun v w' => ∃ b, v = .bool b ∧ (b = true ↔ s = t) ∧ Hp w0 w' H M := by
  refine r49 _ _ _ _ _ _ _ _ _ _ (wp_newH hp fun p1 w1 H1 hp1 hl1 f1 => wp_newH hp1 fun p2 w2 H2 hp2 hl2 f2 => ?_)
  replace f1 := hl2 _ _ f1
  have hle := hl1.trans hl2
  have hpo := hp2.lessH hle
  (refine wp_load (hp2.loadH f1 (by simp)) ?_; (repeat apply Exists.intro); refine ⟨rfl, ?_⟩)
  (refine wp_load (hp2.loadH f2 (by simp)) ?_; (repeat apply Exists.intro); refine ⟨rfl, ?_⟩)
  refine wp_bif (fun e1 => ?_) fun e1 => ?_
  rotate_left
  · exact ⟨false, rfl, ⟨fun h => (by cases h), fun h => by subst h; simp at e1⟩, hpo⟩
  (refine wp_load (hp2.loadH f1 (by simp)) ?_; (repeat apply Exists.intro); refine ⟨rfl, ?_⟩)
  (refine wp_load (hp2.loadH f2 (by simp)) ?_; (repeat apply Exists.intro); refine ⟨rfl, ?_⟩)
  refine wp_bif (fun e2 => ?_) fun e2 => ?_
  rotate_left
  · exact ⟨false, rfl, ⟨fun h => (by cases h), fun h => by subst h; simp at e2⟩, hpo⟩
  (refine wp_load (hp2.loadH f1 (by simp)) ?_; (repeat apply Exists.intro); refine ⟨rfl, ?_⟩)
  refine ⟨⟨s.state.toArray⟩, Bs.read ha hpo, ?_⟩
  (refine wp_load (hp2.loadH f2 (by simp)) ?_; (repeat apply Exists.intro); refine ⟨rfl, ?_⟩)
  refine ⟨⟨t.state.toArray⟩, Bs.read hb hpo, ?_⟩
  refine ⟨_, rfl, ?_, hpo⟩
  simp [bytes_toList] at *
  constructor
  · intro h; exact Snp.ext' e1 e2 h
  · intro h; rw [h]
theorem sameMsg {x y : Msg} {xs ys : List Value} (hp : Hp w0 w H M) (hx : Ms H xs x) (hy : Ms H ys y) (hlen : x.entries.length ≤ 4398046511104) :
    Runs Try.prog 109 [.agg xs.toArray, .agg ys.toArray] w fun v w' => ∃ b, v = .bool b ∧ (b = true ↔ x = y) ∧ Hp w0 w' H M := by
  obtain ⟨a1, n1, c1, a2, n2, c2, rfl, hes, hst⟩ := hx
  obtain ⟨d1, m1, k1, d2, m2, k2, rfl, hfs, hsu⟩ := hy
  apply r109
  refine wp_newH hp fun p1 w1 H1 hp1 hl1 f1 => wp_newH hp1 fun p2 w2 H2 hp2 hl2 f2 => ?_
  replace f1 := hl2 _ _ f1
  have hle := hl1.trans hl2
  have no : ∀ {w' : World}, Hp w0 w' H2 M → (x = y → False) → (VC.ret (.bool false)).wp Try.prog (fun v w' => ∃ b, v = .bool b ∧ (b = true ↔ x = y) ∧ Hp w0 w' H M) (fun _ _ _ => False) w' :=
    fun h f => ⟨false, rfl, ⟨fun h => (by cases h), fun h => (f h).elim⟩, h.lessH hle⟩
  (refine wp_load (hp2.loadH f1 (by simp)) ?_; (repeat apply Exists.intro); refine ⟨rfl, ?_⟩)
  (refine wp_load (hp2.loadH f2 (by simp)) ?_; (repeat apply Exists.intro); refine ⟨rfl, ?_⟩)
  refine wp_bif (fun e0 => ?_) fun e0 => no hp2 fun h => (by subst h; simp at e0)
  (refine wp_load (hp2.loadH f1 (by simp)) ?_; (repeat apply Exists.intro); refine ⟨rfl, ?_⟩)
  (refine wp_load (hp2.loadH f2 (by simp)) ?_; (repeat apply Exists.intro); refine ⟨rfl, ?_⟩)
  refine wp_bif (fun e1 => ?_) fun e1 => no hp2 fun h => (by subst h; simp at e1)
  (refine wp_load (hp2.loadH f1 (by simp)) ?_; (repeat apply Exists.intro); refine ⟨rfl, ?_⟩)
  (refine wp_load (hp2.loadH f2 (by simp)) ?_; (repeat apply Exists.intro); refine ⟨rfl, ?_⟩)
  refine wp_bif (fun e2 => ?_) fun e2 => no hp2 fun h => (by subst h; simp at e2)
  (refine wp_load (hp2.loadH f1 (by simp)) ?_; (repeat apply Exists.intro); refine ⟨rfl, ?_⟩)
  (refine wp_load (hp2.loadH f2 (by simp)) ?_; (repeat apply Exists.intro); refine ⟨rfl, ?_⟩)
  refine wp_bif (fun e3 => ?_) fun e3 => no hp2 fun h => (by subst h; simp at e3)
  (refine wp_load (hp2.loadH f1 (by simp)) ?_; (repeat apply Exists.intro); refine ⟨rfl, ?_⟩)
  (refine wp_load (hp2.loadH f2 (by simp)) ?_; (repeat apply Exists.intro); refine ⟨rfl, ?_⟩)
  refine wp_bif (fun e4 => ?_) fun e4 => no hp2 fun h => (by subst h; simp at e4)
  (refine wp_load (hp2.loadH f1 (by simp)) ?_; (repeat apply Exists.intro); refine ⟨rfl, ?_⟩)
  (refine wp_load (hp2.loadH f2 (by simp)) ?_; (repeat apply Exists.intro); refine ⟨rfl, ?_⟩)
  refine wp_bif (fun e5 => ?_) fun e5 => no hp2 fun h => (by subst h; simp at e5)
  (refine wp_load (hp2.loadH f1 (by simp)) ?_; (repeat apply Exists.intro); refine ⟨rfl, ?_⟩)
  (refine wp_load (hp2.loadH f2 (by simp)) ?_; (repeat apply Exists.intro); refine ⟨rfl, ?_⟩)
  refine wp_bif (fun e6 => ?_) fun e6 => no hp2 fun h => (by subst h; simp at e6)
  (refine wp_load (hp2.loadH f1 (by simp)) ?_; (repeat apply Exists.intro); refine ⟨rfl, ?_⟩)
  (refine wp_load (hp2.loadH f2 (by simp)) ?_; (repeat apply Exists.intro); refine ⟨rfl, ?_⟩)
  refine wp_bif (fun e7 => ?_) fun e7 => no hp2 fun h => (by subst h; simp at e7)
  (refine wp_load (hp2.loadH f1 (by simp)) ?_; (repeat apply Exists.intro); refine ⟨rfl, ?_⟩)
  (refine wp_load (hp2.loadH f2 (by simp)) ?_; (repeat apply Exists.intro); refine ⟨rfl, ?_⟩)
  refine wp_bif (fun e8 => ?_) fun e8 => no hp2 fun h => (by subst h; simp at e8)
  (refine wp_load (hp2.loadH f1 (by simp)) ?_; (repeat apply Exists.intro); refine ⟨rfl, ?_⟩)
  (refine wp_load (hp2.loadH f2 (by simp)) ?_; (repeat apply Exists.intro); refine ⟨rfl, ?_⟩)
  refine wp_call (sameEntries hp2 (hes.mono hle (En.mono hle)) (hfs.mono hle (En.mono hle)) hlen) fun v3 w3 h3 => ?_
  obtain ⟨b3, rfl, i3, hp3⟩ := h3
  refine ⟨_, rfl, ?_⟩
  refine wp_bif (fun e => ?_) fun e => no hp3 fun h => (by rw [e] at i3; exact absurd (i3.2 (by rw [h])) (by simp))
  have g1 := i3.1 e
  (refine wp_load (hp3.loadH f1 (by simp)) ?_; (repeat apply Exists.intro); refine ⟨rfl, ?_⟩)
  (refine wp_load (hp3.loadH f2 (by simp)) ?_; (repeat apply Exists.intro); refine ⟨rfl, ?_⟩)
  refine wp_call (sameSnap hp3 (hst.mono hle) (hsu.mono hle)) fun v4 w4 h4 => ?_
  obtain ⟨b4, rfl, i4, hp4⟩ := h4
  refine ⟨_, rfl, ?_⟩
  refine wp_bif (fun e => ?_) fun e => no hp4 fun h => (by rw [e] at i4; exact absurd (i4.2 (by rw [h])) (by simp))
  have g2 := i4.1 e
  (refine wp_load (hp4.loadH f1 (by simp)) ?_; (repeat apply Exists.intro); refine ⟨rfl, ?_⟩)
  (refine wp_load (hp4.loadH f2 (by simp)) ?_; (repeat apply Exists.intro); refine ⟨rfl, ?_⟩)
  refine wp_bif (fun e9 => ?_) fun e9 => no hp4 fun h => (by subst h; simp at e9)
  (refine wp_load (hp4.loadH f1 (by simp)) ?_; (repeat apply Exists.intro); refine ⟨rfl, ?_⟩)
  (refine wp_load (hp4.loadH f2 (by simp)) ?_; (repeat apply Exists.intro); refine ⟨rfl, ?_⟩)
  refine ⟨_, rfl, ⟨fun h => ?_, fun h => by subst h; simp⟩, hp4.lessH hle⟩
  simp only [Bool.and_true, Bool.and_eq_true, beq_iff_eq] at *
  exact Msg.ext' e0 e1 e2 e3 e4 e5 g1 e6 e7 e8 g2 e9.1 e9.2.1 e9.2.2.1 (array_of_toList e9.2.2.2.1) (array_of_toList e9.2.2.2.2.1) e9.2.2.2.2.2 h.1 (array_of_toList h.2)
end
end Go.Proofs.Ytnbfffmdplcajaa
