/- Contracts of the net's functions: own, New, Len, has, At, Delete, Take, Drop, Put, Double. -/
import Derived.Test.YtcfjglminflohaaSame
namespace Go.Proofs.Ytcfjglminflohaa
open Go.Vc Go.Vc.Rf

section
variable {w0 w : World} {H M : Mp}

theorem own_runs {x : Msg} {cs : List Value} (hp : Hp w0 w H M) (hx : Ms H cs x) (hlen : x.entries.length ≤ 4398046511104) :
    Runs Try.prog 14 [.agg cs.toArray] w fun v w' => ∃ cs' H', v = .agg cs'.toArray ∧ Hp w0 w' H' M ∧ H.le H' ∧ Ms H' cs' x := by
  obtain ⟨a1, n1, c1, a2, n2, c2, rfl, hes, hst⟩ := hx
  apply r14
  refine wp_new hp fun p1 w1 hp1 hM1 _ => wp_new hp1 fun p2 w2 hp2 hM2 _ => ?_
  have hne : p1 ≠ p2 := fun e => by subst e; simp at hM2
  have hM2' : M p2 = none := by rwa [Mp.put_other (Ne.symm hne)] at hM2
  (refine wp_load (hp2.loadM ((Mp.put_other hne).trans (Mp.put_same _ _ _)) (by simp)) ?_; (repeat apply Exists.intro); refine ⟨rfl, ?_⟩)
  obtain ⟨hn1, hc1, cells, hsl, hll⟩ := hes
  have hcl := LL.length En.len hll
  refine wp_call (cloneEntries hp2 hsl (by rw [hcl, hn1]) (one_of En.one hll) (by omega)) fun v3 w3 h3 => ?_
  obtain ⟨s, M3, o, rfl, hsn, hp3, ho3, ha3⟩ := h3
  refine ⟨_, _, _, rfl, ?_⟩
  have k1 : M3 p1 = _ := (ha3.keep p1 (by rw [Mp.put_other hne, Mp.put_same]; simp) (by simp)).trans ((Mp.put_other hne).trans (Mp.put_same _ _ _))
  have k2 : M3 p2 = _ := (ha3.keep p2 (by rw [Mp.put_same]; simp) (by simp)).trans (Mp.put_same _ _ _)
  have no1 : p1 ∉ o := fun h => by
    rcases ha3.fresh _ h with e | e
    · cases e
    · rw [Mp.put_other hne, Mp.put_same] at e; cases e
  have no2 : p2 ∉ o := fun h => by
    rcases ha3.fresh _ h with e | e
    · cases e
    · rw [Mp.put_same] at e; cases e
  refine wp_store hp3 k1 (by simp) (by simp [Value.oneCell']) fun w4 hp4 => ?_
  (refine wp_load (hp4.loadM (Mp.put_same _ _ _) (by simp [splice])) ?_; (repeat apply Exists.intro); refine ⟨rfl, ?_⟩)
  refine ⟨fun vs w' => ∃ k : Nat, vs = [.int .i64 k] ∧ k ≤ x.entries.length ∧ ∃ H' M' cells', Hp w0 w' H' M' ∧ H.le H' ∧ Own M' 2 s cells' o ∧ LL (En H') cells' x.entries ∧
      M' p1 = some [.int .i64 x.kind, .int .i64 x.frm, .int .i64 x.dest, .int .u64 x.term, .int .u64 x.index, .int .u64 x.logTerm, .slice s.a s.n s.c, .int .u64 x.commit, .int .u64 x.round, .bool x.ok,
    .int .u64 x.snap.idx, .int .u64 x.snap.term, .slice a2 n2 c2, .int .i64 x.ck, .int .i64 x.cc, .int .u64 x.cs, .string x.cname, .string x.curl, .int .u64 x.cuntil, .int .i64 x.aerr, .string x.atext] ∧ M' p2 = M3 p2 ∧ (∀ b, M b ≠ none → M' b = M b),
    fun vs _ => match vs with | [.int _ q] => x.entries.length - q.toNat | _ => 0, ⟨0, rfl, Nat.zero_le _, H, _, cells, hp4, Mp.le.refl _, ho3.frame fun b hb => Mp.put_other fun e => no1 (e ▸ hb), hll, Mp.put_same _ _ _, Mp.put_other (Ne.symm hne), fun b hb => ?_⟩, ?_⟩
  · have e1 : b ≠ p1 := fun e => hb (e ▸ hM1)
    have e2 : b ≠ p2 := fun e => hb (e ▸ hM2')
    rw [Mp.put_other e1, ha3.keep b (by rw [Mp.put_other e2, Mp.put_other e1]; exact hb) (by simp), Mp.put_other e2, Mp.put_other e1]
  rintro vs w5 ⟨k, rfl, hk, H5, M5, cells5, hp5, hle5, ho5, hll5, f1, f2, hf⟩
  refine ⟨_, rfl, wp_bif (fun hlt => ?_) fun _ => ?_⟩
  · have hklt : k < x.entries.length := by simp at hlt; omega
    have hpd := hp5.drew
    have hl5 := LL.length En.len hll5
    obtain ⟨b, hb⟩ := ho5.isSome (by omega)
    have hget := LL.get En.len k hll5 (List.getElem?_eq_getElem hklt)
    obtain ⟨ea, en, ec, hce, hbs⟩ := hget
    refine wp_load (hpd.loadM f1 (by simp)) ?_
    refine ⟨_, _, _, rfl, ?_⟩
    (refine wp_load (hpd.loadM f1 (by simp)) ?_; (repeat apply Exists.intro); refine ⟨rfl, ?_⟩)
    refine ⟨_, hb, ⟨by omega, by omega⟩, ?_⟩
    have hk2 : k * 2 + 2 ≤ cells5.length := by omega
    obtain ⟨b', hb', _, hat⟩ := ho5.at_ hpd (i := k * 2 + 1) (n := 1) (by omega) (by omega)
    rw [hb] at hb'
    cases hb'
    have hcell : (cells5.drop (k * 2 + 1)).take 1 = [.slice ea en ec] := by
      have := congrArg (List.drop 1) hce
      rw [List.drop_take, List.drop_drop] at this
      exact this
    rw [hcell] at hat
    simp only [add_mk, Int.toNat_natCast, Nat.zero_add]
    (refine wp_load (hat) ?_; (repeat apply Exists.intro); refine ⟨rfl, ?_⟩)
    refine wp_call (cloneBytes' hpd hbs) fun v6 w6 h6 => ?_
    obtain ⟨na, nn, nc, H6, rfl, hp6, hle6, hb6⟩ := h6
    refine ⟨_, _, _, rfl, ⟨?_, _, hb, ⟨by omega, by omega⟩, ?_⟩⟩
    · intro h hh
      simp only [List.mem_singleton] at hh
      subst hh
      exact hp6.loadM f1 (by simp)
    simp only [add_mk, Nat.zero_add]
    refine wp_ownstore hp6 ho5 hb (by simp) (by simp; omega) (by simp [Value.oneCell']) fun w7 M7 hp7 ho7 ha7 => ?_
    refine ⟨⟨k + 1, ?_, hklt, H6, M7, _, hp7, hle5.trans hle6, ho7, ?_, ?_, ?_, ?_⟩, ?_⟩
    · rw [wrap_i64 (by omega) (by omega)]; rfl
    · have := LL.upd (En.len (H := H6)) k (j := 1) (vs := [.slice na nn nc]) (x := x.entries[k]) (x' := x.entries[k]) (hll5.mono (En.mono hle6)) (List.getElem?_eq_getElem hklt) (by simp) fun c hc => ?_
      · rwa [List.set_getElem_self] at this
      · obtain ⟨qa, qn, qc, rfl, _⟩ := hc
        exact ⟨na, nn, nc, rfl, hb6⟩
    · rw [ha7.keep p1 (by rw [f1]; simp) no1]; exact f1
    · rw [ha7.keep p2 (by rw [f2, k2]; simp) no2]; exact f2
    · intro b' hb'
      have hbo : b' ∉ o := fun h => by
        rcases ha3.fresh b' h with e | e
        · cases e
        · have e1 : b' ≠ p1 := fun e => hb' (e ▸ hM1)
          have e2 : b' ≠ p2 := fun e => hb' (e ▸ hM2')
          rw [Mp.put_other e2, Mp.put_other e1] at e
          exact hb' e
      rw [ha7.keep b' (by rw [hf b' hb']; exact hb') hbo]; exact hf b' hb'
    · show x.entries.length - (IntKind.i64.wrap ((k : Int) + 1)).toNat < x.entries.length - (k : Int).toNat
      rw [wrap_i64 (by omega) (by omega)]; omega
  · (refine wp_load (hp5.loadM f1 (by simp)) ?_; (repeat apply Exists.intro); refine ⟨rfl, ?_⟩)
    refine wp_call (cloneBytes' hp5 (hst.mono hle5)) fun v6 w6 h6 => ?_
    obtain ⟨na, nn, nc, H6, rfl, hp6, hle6, hb6⟩ := h6
    refine ⟨_, _, _, rfl, ?_⟩
    refine wp_store hp6 f1 (by simp) (by simp [Value.oneCell']) fun w7 hp7 => ?_
    (refine wp_load (hp7.loadM (Mp.put_same _ _ _) (by simp [splice])) ?_; (repeat apply Exists.intro); refine ⟨rfl, ?_⟩)
    refine wp_store hp7 ((Mp.put_other (Ne.symm hne)).trans (f2.trans k2)) (by simp) (by simp [Value.oneCell']) fun w8 hp8 => ?_
    (refine wp_load (hp8.loadM (Mp.put_same _ _ _) (by simp [splice])) ?_; (repeat apply Exists.intro); refine ⟨rfl, ?_⟩)
    have hfin := hp8.give (M0 := M) (o := p1 :: p2 :: o) ⟨fun b hb _ => ?_, fun b hb => ?_⟩
    · refine ⟨_, _, rfl, hfin, (hle5.trans hle6).trans (hp8.froz_le _), ?_⟩
      refine ⟨_, _, _, _, _, _, rfl, ?_, hb6.mono (hp8.froz_le _)⟩
      refine ⟨by rw [hsn]; exact hn1, ho5.le, cells5, ?_, hll5.mono (En.mono (hle6.trans (hp8.froz_le _)))⟩
      refine Own.froz (k := 2) (o := o) ?_ fun b hb => by simp [hb]
      refine Own.frame ho5 fun b hb => ?_
      rw [Mp.put_other (fun e : b = p2 => no2 (e ▸ hb)), Mp.put_other (fun e : b = p1 => no1 (e ▸ hb))]
    · have e1 : b ≠ p1 := fun e => hb (e ▸ hM1)
      have e2 : b ≠ p2 := fun e => hb (e ▸ hM2')
      rw [Mp.put_other e2, Mp.put_other e1]; exact hf b hb
    · right
      rcases List.mem_cons.1 hb with e | hb
      · rw [e]; exact hM1
      · rcases List.mem_cons.1 hb with e | hb
        · rw [e]; exact hM2'
        · have e1 : b ≠ p1 := fun e => no1 (e ▸ hb)
          have e2 : b ≠ p2 := fun e => no2 (e ▸ hb)
          rcases ha3.fresh b hb with e | e
          · cases e
          · rwa [Mp.put_other e2, Mp.put_other e1] at e

/-- THE NET: its variable and its letters. -/
def Nt (H M : Mp) (n : Nat) (o : List Nat) (ms : List Msg) : Prop :=
  ∃ s cells o', o = n :: o' ∧ M n = some [.slice s.a s.n s.c] ∧ Own M 21 s cells o' ∧ n ∉ o' ∧ LL (Ms H) cells ms

theorem Nt.mono {H' : Mp} (h : H.le H') {n : Nat} {o : List Nat} {ms : List Msg} (hn : Nt H M n o ms) : Nt H' M n o ms := by
  obtain ⟨s, cells, o', h1, h2, h3, h4, h5⟩ := hn
  exact ⟨s, cells, o', h1, h2, h3, h4, h5.mono (Ms.mono h)⟩

theorem Nt.frame {M' : Mp} {n : Nat} {o : List Nat} {ms : List Msg} (hn : Nt H M n o ms) (hf : ∀ b ∈ o, M' b = M b) : Nt H M' n o ms := by
  obtain ⟨s, cells, o', h1, h2, h3, h4, h5⟩ := hn
  subst h1
  exact ⟨s, cells, o', rfl, by rw [hf n (by simp)]; exact h2, h3.frame fun b hb => hf b (by simp [hb]), h4, h5⟩

theorem Nt.ne {n : Nat} {o : List Nat} {ms : List Msg} (hn : Nt H M n o ms) : ∀ b ∈ o, M b ≠ none := by
  obtain ⟨s, cells, o', h1, h2, h3, h4, h5⟩ := hn
  subst h1
  intro b hb
  rcases List.mem_cons.1 hb with e | hb
  · subst e; rw [h2]; simp
  · exact h3.ne b hb

/-- A block more. -/
theorem Nt.put {n b : Nat} {cs : List Value} {o : List Nat} {ms : List Msg} (hn : Nt H M n o ms) (hb : M b = none) : Nt H (M.put b cs) n o ms :=
  hn.frame fun x hx => Mp.put_other fun e => hn.ne x hx (e ▸ hb)

theorem Adv.put_new {b : Nat} {cs : List Value} (hb : M b = none) : Adv M [] (M.put b cs) [b] :=
  ⟨fun x hx _ => Mp.put_other fun e => hx (e ▸ hb), fun x hx => by rw [List.mem_singleton] at hx; subst hx; exact .inr hb⟩

theorem Adv.nil_of {o : List Nat} {M' : Mp} {o' : List Nat} (h : Adv M [] M' o') : Adv M o M' o :=
  ⟨fun b hb _ => h.keep b hb (by simp), fun _ hb => .inl hb⟩

theorem Adv.more {o o' : List Nat} {M' : Mp} {b : Nat} (h : Adv M o M' o') : Adv M (b :: o) M' (b :: o') :=
  ⟨fun x hx hxo => h.keep x hx fun e => hxo (by simp [e]), fun x hx => by
    rcases List.mem_cons.1 hx with e | e
    · exact .inl (by simp [e])
    · rcases h.fresh x e with e | e
      · exact .inl (by simp [e])
      · exact .inr e⟩

theorem new_runs (hp : Hp w0 w H M) : Runs Try.prog 6 [] w fun v w' => ∃ n M', v = .pointer (some ⟨n, 0, none⟩) ∧ Hp w0 w' H M' ∧ Adv M [] M' [n] ∧ Nt H M' n [n] [] := by
  refine r6 (wp_new hp fun n w1 hp1 hM _ => ?_)
  exact ⟨n, _, rfl, hp1, Adv.put_new hM, ⟨none, 0, 0⟩, [], [], rfl, Mp.put_same _ _ _, Own.nil _ _, by simp, rfl⟩

theorem len_runs {n : Nat} {o : List Nat} {ms : List Msg} (hp : Hp w0 w H M) (hn : Nt H M n o ms) :
    Runs Try.prog 10 [.pointer (some ⟨n, 0, none⟩)] w fun v w' => v = .int .i64 ms.length ∧ Hp w0 w' H M := by
  obtain ⟨s, cells, o', h1, h2, h3, h4, h5⟩ := hn
  apply r10
  (refine wp_load (hp.loadM h2 (by simp)) ?_; (repeat apply Exists.intro); refine ⟨rfl, ?_⟩)
  refine ⟨?_, hp⟩
  have := h3.1
  rw [LL.length Ms.len h5] at this
  congr 1
  omega

/-- Is there such a letter? -/
def inr (ms : List Msg) (i : Int) : Bool := decide (0 ≤ i) && decide (i < ms.length)

theorem has_runs {n : Nat} {o : List Nat} {ms : List Msg} {i : Int} (hp : Hp w0 w H M) (hn : Nt H M n o ms) :
    Runs Try.prog 18 [.pointer (some ⟨n, 0, none⟩), .int .i64 i] w fun v w' => v = .bool (inr ms i) ∧ Hp w0 w' H M := by
  obtain ⟨s, cells, o', h1, h2, h3, h4, h5⟩ := hn
  have hl := h3.1
  rw [LL.length Ms.len h5] at hl
  refine r18 _ _ (wp_bif (fun h => ?_) fun h => ?_)
  · (refine wp_load (hp.loadM h2 (by simp)) ?_; (repeat apply Exists.intro); refine ⟨rfl, ?_⟩)
    refine ⟨?_, hp⟩
    congr 1
    simp only [decide_eq_true_eq] at h
    unfold inr
    have : s.n = ms.length := by omega
    rw [this]
    simp [h]
  · refine ⟨?_, hp⟩
    congr 1
    simp only [decide_eq_false_iff_not] at h
    unfold inr
    simp; omega

theorem none_Ms : Ms H [.int .i64 0, .int .i64 0, .int .i64 0, .int .u64 0, .int .u64 0, .int .u64 0, .slice none 0 0, .int .u64 0, .int .u64 0, .bool false, .int .u64 0, .int .u64 0, .slice none 0 0, .int .i64 0, .int .i64 0, .int .u64 0, .string .empty, .string .empty, .int .u64 0, .int .i64 0, .string .empty] Msg.none :=
  ⟨none, 0, 0, none, 0, 0, rfl, Sl.nil _ _, Bs.nil _⟩

def getm (ms : List Msg) (i : Int) : Msg := if inr ms i = true then ms.getD i.toNat Msg.none else Msg.none
def code (ms : List Msg) (i : Int) : Int := if inr ms i = true then 0 else 10
def Fit (ms : List Msg) : Prop := ∀ x ∈ ms, x.entries.length ≤ 4398046511104

theorem at_runs {n : Nat} {o : List Nat} {ms : List Msg} {i : Int} (hp : Hp w0 w H M) (hn : Nt H M n o ms) (hfit : Fit ms) :
    Runs Try.prog 11 [.pointer (some ⟨n, 0, none⟩), .int .i64 i] w fun v w' => ∃ cs H', v = .tuple #[.agg cs.toArray, .int .i64 (code ms i)] ∧ Ms H' cs (getm ms i) ∧ Hp w0 w' H' M ∧ H.le H' := by
  apply r11
  refine wp_new hp fun p1 w1 hp1 hM1 _ => ?_
  have hn1 := hn.put (cs := [.int .i64 0, .int .i64 0, .int .i64 0, .int .u64 0, .int .u64 0, .int .u64 0, .slice none 0 0, .int .u64 0, .int .u64 0, .bool false, .int .u64 0, .int .u64 0, .slice none 0 0, .int .i64 0, .int .i64 0, .int .u64 0, .string .empty, .string .empty, .int .u64 0, .int .i64 0, .string .empty]) hM1
  refine wp_call (has_runs hp1 hn1) fun v2 w2 h2 => ?_
  obtain ⟨rfl, hp2⟩ := h2
  refine ⟨_, rfl, wp_bif (fun h => ?_) fun h => ?_⟩
  · have hi : inr ms i = false := by simpa using h
    refine wp_store hp2 (Mp.put_same _ _ _) (by simp) (by simp [Value.oneCell']) fun w3 hp3 => ?_
    (refine wp_load (hp3.loadM (Mp.put_same _ _ _) (by simp [splice])) ?_; (repeat apply Exists.intro); refine ⟨rfl, ?_⟩)
    refine ⟨_, H, by simp [code, hi]; rfl, ?_, hp3.less fun b cs hb => ?_, Mp.le.refl _⟩
    · simp only [getm, hi, Bool.false_eq_true, if_false]; exact none_Ms
    · have e1 : b ≠ p1 := fun e => by rw [e, hM1] at hb; cases hb
      rw [Mp.put_other e1, Mp.put_other e1]; exact hb
  · have hi : inr ms i = true := by simpa using h
    have hi' : 0 ≤ i ∧ i < ms.length := by simpa [inr] using hi
    obtain ⟨s, cells, o', e1, k2, k3, k4, k5⟩ := hn1
    have hl := LL.length Ms.len k5
    have hl2 := k3.1
    (refine wp_load (hp2.loadM k2 (by simp)) ?_; (repeat apply Exists.intro); refine ⟨rfl, ?_⟩)
    obtain ⟨b, hb, _, hat⟩ := k3.at_ hp2 (i := i.toNat * 21) (n := 21) (by omega) (by omega)
    refine ⟨_, hb, ⟨hi'.1, by omega⟩, ?_⟩
    have hlt : i.toNat < ms.length := by omega
    have hget := LL.get Ms.len i.toNat k5 (List.getElem?_eq_getElem hlt)
    have hin : ms[i.toNat] ∈ ms := List.getElem_mem hlt
    generalize hcs : (cells.drop (i.toNat * 21)).take 21 = cs at hget hat
    obtain ⟨a1, n1, c1, a2, n2, c2, hce, hes, hst⟩ := id hget
    rw [hce] at hat hget
    simp only [add_mk, Nat.zero_add]
    (refine wp_load (hat) ?_; (repeat apply Exists.intro); refine ⟨rfl, ?_⟩)
    refine wp_call (own_runs hp2 hget (hfit _ hin)) fun v3 w3 h3 => ?_
    obtain ⟨cs3, H3, rfl, hp3, hle3, hms3⟩ := h3
    obtain ⟨d1, m1, k1, d2, m2, q2, rfl, hes3, hst3⟩ := id hms3
    ((repeat apply Exists.intro); refine ⟨rfl, ?_⟩)
    refine wp_store hp3 (Mp.put_same _ _ _) (by simp) (by simp [Value.oneCell']) fun w4 hp4 => ?_
    (refine wp_load (hp4.loadM (Mp.put_same _ _ _) (by simp [splice])) ?_; (repeat apply Exists.intro); refine ⟨rfl, ?_⟩)
    refine ⟨_, H3, by simp [code, hi]; rfl, ?_, hp4.less fun b cs hb => ?_, hle3⟩
    · simp only [getm, hi, if_true, List.getD_eq_getElem?_getD, List.getElem?_eq_getElem hlt, Option.getD_some]; exact hms3
    · have e1 : b ≠ p1 := fun e => by rw [e, hM1] at hb; cases hb
      rw [Mp.put_other e1, Mp.put_other e1]; exact hb

/-- What a turn of the net comes to. -/
def NDid (w0 : World) (H M : Mp) (n : Nat) (o : List Nat) (ms : List Msg) (w' : World) : Prop :=
  ∃ H' M' o', Hp w0 w' H' M' ∧ H.le H' ∧ Adv M o M' o' ∧ Nt H' M' n o' ms

/-- A shorter slice of one's own. -/
theorem Own.shorter {k : Nat} {s : Sl3} {cells : List Value} {o : List Nat} (h : Own M k s cells o) {m : Nat} (hm : m ≤ s.n) : Own M k ⟨s.a, m, s.c⟩ (cells.take (m * k)) o := by
  obtain ⟨hl, h2⟩ := h
  have hmk : m * k ≤ s.n * k := Nat.mul_le_mul_right k hm
  refine ⟨by rw [List.length_take]; show min (m * k) _ = m * k; omega, ?_⟩
  rcases h2 with ⟨h3, h4, h5, h6⟩ | ⟨b, cs, h3, h4, h5, h6, h7, h8⟩
  · exact .inl ⟨h3, by show m = 0; omega, h5, h6⟩
  · refine .inr ⟨b, cs, h3, h4, h5, h6, by show m ≤ s.c; omega, ?_⟩
    show cs.take (m * k) = _
    rw [← h8, List.take_take, Nat.min_eq_left hmk]

def Z21 : List Value := [.int .i64 0, .int .i64 0, .int .i64 0, .int .u64 0, .int .u64 0, .int .u64 0, .slice none 0 0, .int .u64 0, .int .u64 0, .bool false, .int .u64 0, .int .u64 0, .slice none 0 0, .int .i64 0, .int .i64 0, .int .u64 0, .string .empty, .string .empty, .int .u64 0, .int .i64 0, .string .empty]

theorem zeros_one : (zeros Z21 1).toList = Z21 := by kernel_rfl
theorem Z21_one : ∀ v ∈ Z21, v.oneCell' = true := by simp [Z21, Value.oneCell']

theorem delete_runs {s : Sl3} {cells : List Value} {o : List Nat} {i : Nat} (hp : Hp w0 w H M) (ho : Own M 21 s cells o) (h1 : ∀ v ∈ cells, v.oneCell' = true) (hi : i < s.n) :
    Runs Try.prog 15 [.slice s.a s.n s.c, .int .i64 i, .int .i64 ((i : Int) + 1)] w fun v w' => ∃ (s' : Sl3) (M' : Mp), v = .slice s'.a s'.n s'.c ∧ Hp w0 w' H M' ∧ Adv M o M' o ∧ Own M' 21 s' (cells.take (i * 21) ++ cells.drop ((i + 1) * 21)) o := by
  have hl := ho.1
  have hc := ho.le
  refine r15 _ _ _ _ _ ⟨by omega, by omega, by omega, wp_bif (fun h => ?_) fun _ => ?_⟩
  · simp at h; omega
  have hpd := hp.drew
  obtain ⟨b, hb⟩ := ho.isSome (by omega)
  refine ⟨by omega, by omega, ?_⟩
  have e1 : ((i : Int) + 1).toNat = i + 1 := by omega
  have e2 : (if s.c = 0 then s.a else Option.map (fun x => x) s.a) = s.a := by simp
  have hlen2 : (cells.drop ((i + 1) * 21)).length = (s.n - (i + 1)) * 21 := by rw [List.length_drop]; omega
  rw [e1, e2]
  simp only [Int.toNat_natCast, Nat.sub_zero]
  refine ⟨cells.drop ((i + 1) * 21), ?_, fun _ => ?_, fun h => absurd (show i + (s.n - (i + 1)) ≤ s.c by omega) h⟩
  · by_cases hcase : s.n = i + 1
    · have hnil : cells.drop ((i + 1) * 21) = [] := List.eq_nil_of_length_eq_zero (by omega)
      rw [hnil, hcase]
      simp [readN]
      split <;> simp [readN, cellsAt]
    · rw [if_neg (by omega), hb]
      obtain ⟨b', hb', _, hat⟩ := ho.at_ hpd (i := (i + 1) * 21) (n := (s.n - (i + 1)) * 21) (by omega) (by omega)
      rw [hb] at hb'
      cases hb'
      simp only [Option.map_some, readN, add_mk, Nat.zero_add]
      rw [hat, List.take_of_length_le (by omega)]
  · rw [hb]
    have key : ∃ w', storeW w.drew ⟨b, i * 21, none⟩ 0 (cells.drop ((i + 1) * 21)) = some w' ∧ ∃ M', Hp w0 w' H M' ∧ Own M' 21 s (splice cells (i * 21) (cells.drop ((i + 1) * 21))) o ∧ Adv M o M' o := by
      by_cases hcase : s.n = i + 1
      · have hnil : cells.drop ((i + 1) * 21) = [] := List.eq_nil_of_length_eq_zero (by omega)
        rw [hnil]
        exact ⟨_, rfl, M, hpd, by simpa [splice] using ho, Adv.refl _ _⟩
      · obtain ⟨b', hb', w', h1', M', h2', h3', h4'⟩ := ho.store hpd (off := i * 21) (vs := cells.drop ((i + 1) * 21)) (by omega) (by omega) fun v hv => h1 v (List.mem_of_mem_drop hv)
        rw [hb] at hb'
        cases hb'
        exact ⟨w', h1', M', h2', h3', h4'⟩
    obtain ⟨w', hst, M', hp', ho', ha'⟩ := key
    simp only [add_mk, Nat.zero_add]
    refine ⟨w', hst, ⟨by omega, by omega⟩, ⟨by omega, by omega⟩, ?_⟩
    have e3 : s.n - (i + (s.n - (i + 1))) = 1 := by omega
    have e4 : ¬ s.c = i + (s.n - (i + 1)) := by omega
    rw [e3, if_neg e4]
    have hsl : (splice cells (i * 21) (cells.drop ((i + 1) * 21))).length = cells.length := splice_length (by omega)
    obtain ⟨b', hb', w2, hst2, M2, hp2, ho2, ha2⟩ := ho'.store hp' (off := (i + (s.n - (i + 1))) * 21) (vs := Z21) (by simp [Z21]) (by rw [hsl]; simp [Z21]; omega) Z21_one
    rw [hb] at hb'
    cases hb'
    refine ⟨w2, ?_, ?_⟩
    · simp only [clearW, Option.map_some, add_mk, Nat.zero_add, Int.toNat_natCast]
      have := zeros_one
      unfold Z21 at this
      rw [show ({ data := #[] } : ByteArray) = ByteArray.empty from rfl, this]
      exact hst2
    · refine ⟨⟨some ⟨b, 0, none⟩, i + (s.n - (i + 1)), s.c⟩, M2, rfl, hp2, ha'.trans ha2, ?_⟩
      have hsh := Own.shorter ho2 (m := i + (s.n - (i + 1))) (by omega)
      rw [hb] at hsh
      have e5 : (splice (splice cells (i * 21) (cells.drop ((i + 1) * 21))) ((i + (s.n - (i + 1))) * 21) Z21).take ((i + (s.n - (i + 1))) * 21) = cells.take (i * 21) ++ cells.drop ((i + 1) * 21) := by
        unfold splice
        rw [List.append_assoc, List.take_append_of_le_length (by simp; omega), List.take_take, Nat.min_self, List.take_append_of_le_length (by simp; omega)]
        exact List.take_of_length_le (by simp; omega)
      rw [e5] at hsh
      exact hsh
end
end Go.Proofs.Ytcfjglminflohaa
