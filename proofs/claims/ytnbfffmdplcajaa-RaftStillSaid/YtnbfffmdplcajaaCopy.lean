/- What is copied: clones; elements of slices; when two data are the same. -/
import Derived.Test.YtnbfffmdplcajaaModel
namespace Go.Vc
theorem Own.isSome {M : Mp} {k : Nat} {s : Sl3} {cells : List Value} {o : List Nat} (h : Own M k s cells o) (hn : 0 < s.n) : ∃ b, s.a = some ⟨b, 0, none⟩ := by
  rcases h.2 with ⟨_, e, _⟩ | ⟨b, cs, h3, _⟩
  · omega
  · exact ⟨b, h3⟩
theorem Mp.ne_of {M : Mp} {n : Nat} {cs : List Value} (h : M n = some cs) : M n ≠ none := fun e => by rw [h] at e; cases e
theorem Hp.read1 {w0 w : World} {H M : Mp} (hp : Hp w0 w H M) {b : Nat} {cs : List Value} (hb : H b = some cs) {n : Nat} (hn : n = cs.length) : readN w (some ⟨b, 0, none⟩) n = some cs := by
  subst hn
  have := hp.loadH hb (off := 0) (n := cs.length) (by omega)
  rwa [List.drop_zero, List.take_length] at this
/-- Back to what there was. -/
theorem Hp.back {w0 w : World} {H M H' M' : Mp} {o' : List Nat} (hp : Hp w0 w H' M') (hle : H.le H') (ha : Adv M [] M' o') : Hp w0 w H M :=
  (hp.lessH hle).less fun b cs hb => by rw [ha.keep b (Mp.ne_of hb) (by simp)]; exact hb
namespace Rf
theorem Sl.drop {α : Type} {H : Mp} {p : List Value → α → Prop} {w : Nat} (hw : ∀ c x, p c x → c.length = w) {l : List α} {a : Option Addr} {n c k : Nat} (h : Sl H p a n c l) : Sl H p (if c = k then a else a.map (·.add (k * w))) (n - k) (c - k) (l.drop k) := by
  obtain ⟨h1, h2, cells, h3, h4⟩ := h
  exact ⟨by rw [List.length_drop, h1], by omega, _, h3.drop (by rw [LL.length hw h4, h1]) h2, LL.drop hw k h4⟩
theorem Sl.take {α : Type} {H : Mp} {p : List Value → α → Prop} {w : Nat} (hw : ∀ c x, p c x → c.length = w) {l : List α} {a : Option Addr} {n c k : Nat} (h : Sl H p a n c l) (hk : k ≤ n) : Sl H p a k c (l.take k) := by
  obtain ⟨h1, h2, cells, h3, h4⟩ := h
  exact ⟨by rw [List.length_take]; omega, by omega, _, h3.take (k * w), LL.take hw k h4⟩

theorem wrap_i64 {x : Int} (h0 : -9223372036854775808 ≤ x) (h1 : x ≤ 9223372036854775807) : IntKind.i64.wrap x = x := by rw [IntKind.wrap_i64]; omega

def cloneT (e : TypeId) (k bts : Nat) (z : List Value) (sa : Option Addr) (sn : Nat) : VC :=
  bif sa.isNone then .ret (.slice none 0 0)
  else .new e [] fun p1 => .append e k bts z (some ⟨p1, 0, none⟩) 0 0 sa sn fun a2 n2 c2 => .ret (.slice a2 n2 c2)

theorem Adv.of_put {M M' : Mp} {b : Nat} {cs : List Value} {o' : List Nat} (hb : M b = none) (h : Adv (M.put b cs) [b] M' o') : Adv M [] M' o' := by
  refine ⟨fun x hx _ => ?_, fun x hx => ?_⟩
  · have hne : x ≠ b := fun e => hx (e ▸ hb)
    rw [h.keep x (by rw [Mp.put_other hne]; exact hx) (by simpa using hne), Mp.put_other hne]
  · right
    by_cases hne : x = b
    · subst hne; exact hb
    · rcases h.fresh x hx with e | e
      · exact absurd (by simpa using e) hne
      · rwa [Mp.put_other hne] at e

theorem own_fresh (M : Mp) (k b : Nat) : Own (M.put b []) k ⟨some ⟨b, 0, none⟩, 0, 0⟩ [] [b] :=
  ⟨by simp, .inr ⟨b, [], rfl, rfl, Mp.put_same _ _ _, by simp, Nat.le_refl _, by simp⟩⟩

/-- A slice of the call's own, with these cells. -/
def Fresh (w0 : World) (H M : Mp) (k : Nat) (n : Nat) (cells : List Value) (v : Value) (w' : World) : Prop :=
  ∃ s' M' o', v = .slice s'.a s'.n s'.c ∧ s'.n = n ∧ Hp w0 w' H M' ∧ Own M' k s' cells o' ∧ Adv M [] M' o'

theorem clone_wp {P : Program} {env : Nat → List Value → World → Prop} {w0 w : World} {H M : Mp} (hp : Hp w0 w H M) {e : TypeId} {k bts : Nat} {z : List Value} {sa : Option Addr} {sn : Nat} {cells : List Value}
    (hs : SlC H sa cells) (hl : cells.length = sn * k) (hk : 0 < k) (hz : z.length = k) (h1 : ∀ v ∈ cells, v.oneCell' = true) (hb : 0 < bts) (hsz : sn * bts ≤ 140737488355328) :
    (cloneT e k bts z sa sn).wp P (Fresh w0 H M k sn cells) env w := by
  refine wp_bif (fun hn => ?_) fun _ => ?_
  · have hsa : sa = none := by simpa using hn
    subst hsa
    have hc : cells = [] := by
      rcases hs with e | ⟨b, o, cs, h, _⟩
      · exact e
      · cases h
    subst hc
    have hsn : sn = 0 := by
      rcases Nat.eq_zero_or_pos sn with e | e
      · exact e
      · have := Nat.mul_pos e hk
        simp at hl; omega
    exact ⟨⟨none, 0, 0⟩, M, [], rfl, hsn.symm, hp, Own.nil M k, Adv.refl _ _⟩
  · refine wp_new hp fun b w1 hp1 hMb _ => ?_
    refine wp_append hp1 (own_fresh M k b) hz (hs.read hp1 hl.symm) hl h1 hb (by simpa using hsz) fun s' M' o' w' hp' ho' hn' ha => ?_
    exact ⟨s', M', o', rfl, by rw [hn']; simp, hp', by simpa using ho', Adv.of_put hMb ha⟩

section
variable {w0 w : World} {H M : Mp}

/-- What is fresh is given up: no one writes it any more. -/
theorem Fresh.give {k n : Nat} {cells : List Value} {v : Value} {w' : World} (h : Fresh w0 H M k n cells v w') :
    ∃ s' : Sl3, ∃ H' : Mp, v = .slice s'.a s'.n s'.c ∧ s'.n = n ∧ s'.n ≤ s'.c ∧ Hp w0 w' H' M ∧ H.le H' ∧ SlC H' s'.a cells := by
  obtain ⟨s', M', o', rfl, hn, hp', ho, ha⟩ := h
  refine ⟨s', H.froz M' o', rfl, hn, ho.le, ?_, hp'.froz_le o', ho.froz fun _ h => h⟩
  refine (hp'.freeze o').less fun b cs hb => ?_
  have hne : b ∉ o' := fun h => by
    rcases ha.fresh b h with e | e
    · cases e
    · rw [hb] at e; cases e
  unfold Mp.thaw
  rw [if_neg hne, ha.keep b (by rw [hb]; simp) (by simp)]
  exact hb

/-- An element of a slice that no one writes. -/
theorem Sl.elem {α : Type} {p : List Value → α → Prop} {k : Nat} (hk : ∀ c x, p c x → c.length = k) {a : Option Addr} {n c : Nat} {l : List α} (hs : Sl H p a n c l) (_ : Hp w0 w H M) {i : Nat} {x : α} (hx : l[i]? = some x) (h0 : 0 < k) :
    ∃ b o cs, a = some ⟨b, o, none⟩ ∧ p cs x ∧ ∀ w' M', Hp w0 w' H M' → ∀ j m, j + m ≤ k → cellsAt w' ⟨b, o + i * k + j, none⟩ 0 m = some ((cs.drop j).take m) := by
  obtain ⟨h1, h2, cells, h3, h4⟩ := hs
  have hil : i < l.length := (List.getElem?_eq_some_iff.1 hx).1
  have hlen := LL.length hk h4
  have hik : i * k + k ≤ cells.length := by
    rw [hlen, show i * k + k = (i + 1) * k by rw [Nat.add_mul]; omega]
    exact Nat.mul_le_mul_right k hil
  have hget := LL.get hk i h4 hx
  rcases h3 with e | ⟨b, o, cs, ha, hb, ht⟩
  · subst e; simp at hik; omega
  · refine ⟨b, o, _, ha, hget, fun w' M' hp' j m hjm => ?_⟩
    have hl : o + cells.length ≤ cs.length := (SlC.len ht).resolve_right (by intro e; subst e; simp at hik; omega)
    rw [hp'.loadH hb (by omega)]
    congr 1
    rw [← ht, List.drop_take, List.drop_take, List.drop_take, List.drop_drop, List.drop_drop, List.take_take, List.take_take, Nat.min_eq_left (by omega)]
    rw [Nat.min_eq_left (by omega), Nat.add_assoc]

theorem bytes_toList (s : ByteArray) : s.toList = s.data.toList := ByteArray.toList_eq s

theorem Bs.read {a : Option Addr} {n c : Nat} {l : List UInt8} (hb : Bs H a n c l) (hp : Hp w0 w H M) : readN w a n = some ((⟨l.toArray⟩ : ByteArray).data.toList.map fun b => .int .u8 b.toNat) := by
  have := hb.2.2.2.read hp (n := n) (by simp [hb.1])
  simpa using this

theorem Ent.ext' {e f : Ent} (h1 : e.term = f.term) (h2 : e.data = f.data) : e = f := by cases e; cases f; simp_all

theorem Snp.ext' {e f : Snp} (h1 : e.idx = f.idx) (h2 : e.term = f.term) (h3 : e.state = f.state) : e = f := by cases e; cases f; simp_all

theorem Msg.ext' {x y : Msg} (h1 : x.kind = y.kind) (h2 : x.frm = y.frm) (h3 : x.dest = y.dest) (h4 : x.term = y.term) (h5 : x.index = y.index) (h6 : x.logTerm = y.logTerm) (h7 : x.entries = y.entries)
    (h8 : x.commit = y.commit) (h9 : x.round = y.round) (h10 : x.ok = y.ok) (h11 : x.snap = y.snap) (h12 : x.ck = y.ck) (h13 : x.cc = y.cc) (h14 : x.cs = y.cs) (h15 : x.cname = y.cname) (h16 : x.curl = y.curl)
    (h17 : x.cuntil = y.cuntil) (h18 : x.aerr = y.aerr) (h19 : x.atext = y.atext) : x = y := by cases x; cases y; simp_all

theorem array_of_toList {s t : ByteArray} (h : s.toList = t.toList) : s = t := by
  rw [bytes_toList, bytes_toList] at h
  exact ByteArray.ext (Array.toList_inj.1 h)

end
end Rf
end Go.Vc
