/- Contracts: the document's Fold and SameKept: what is kept, record by record. -/
import Derived.Test.YtnbfffmdplcajaaKeep
import Derived.Test.YtnbfffmdplcajaaRef1
import Derived.Test.YtnbfffmdplcajaaTreeE86
namespace Go.Proofs.Ytnbfffmdplcajaa
open Go.Vc Go.Vc.Rf

/-- Small enough to be folded. -/
structure FoldB (k : Kept) (l : List Rec) (j : Nat) : Prop where
  idx0 : 0 ≤ k.snap.idx
  idx : k.snap.idx ≤ 5000000000000
  len : k.entries.length ≤ 2000000 + j

theorem foldB_step {k : Kept} {l : List Rec} {x : Rec} {j : Nat} (h : FoldB k l j) (hx : 0 ≤ x.idx ∧ x.idx ≤ 4000000000000 ∧ 0 ≤ x.snap.idx ∧ x.snap.idx ≤ 4000000000000) : FoldB (foldRec k x) l (j + 1) := by
  obtain ⟨h1, h2, h3⟩ := h
  unfold foldRec
  split
  · exact ⟨h1, h2, by show k.entries.length ≤ _; omega⟩
  split
  · exact ⟨h1, h2, by show (k.entries ++ [_]).length ≤ _; simp; omega⟩
  split
  · exact ⟨h1, h2, by show (k.entries.take _).length ≤ _; rw [List.length_take]; omega⟩
  split
  · split
    · refine ⟨hx.2.2.1, by show x.snap.idx ≤ _; omega, ?_⟩
      show (if _ then _ else _ : List Ent).length ≤ _
      split
      · rw [List.length_drop]; omega
      · simp
    · exact ⟨h1, h2, by omega⟩
  · exact ⟨h1, h2, by omega⟩

section
variable {w0 w : World} {H M U : Mp}

theorem sameKept_runs {k : Kept} {cs ds : List Value} (hp : Hp w0 w H M) (ha : Kp H cs k) (hb : Kp H ds k) (hl : k.entries.length ≤ 4398046511104) :
    Runs Try.prog 87 [.agg cs.toArray, .agg ds.toArray] w fun v w' => v = .bool true ∧ Hp w0 w' H M := by
  obtain ⟨s1, e1, rfl, h1, h2⟩ := ha
  obtain ⟨s2, e2, rfl, h3, h4⟩ := hb
  apply r87
  refine wp_newH hp fun p1 w1 H1 hp1 hl1 f1 => wp_newH hp1 fun p2 w2 H2 hp2 hl2 f2 => ?_
  replace f1 := hl2 _ _ f1
  have hle := hl1.trans hl2
  (refine wp_load (hp2.loadH f1 (by simp)) ?_; (repeat apply Exists.intro); refine ⟨rfl, ?_⟩)
  (refine wp_load (hp2.loadH f2 (by simp)) ?_; (repeat apply Exists.intro); refine ⟨rfl, ?_⟩)
  refine wp_bif (fun _ => ?_) fun h => by simp at h
  (refine wp_load (hp2.loadH f1 (by simp)) ?_; (repeat apply Exists.intro); refine ⟨rfl, ?_⟩)
  (refine wp_load (hp2.loadH f2 (by simp)) ?_; (repeat apply Exists.intro); refine ⟨rfl, ?_⟩)
  refine wp_call (sameSnap (s := k.snap) (t := k.snap) hp2 (h1.mono hle) (h3.mono hle)) fun v3 w3 h3 => ?_
  obtain ⟨b3, rfl, i3, hp3⟩ := h3
  ((repeat apply Exists.intro); refine ⟨rfl, ?_⟩)
  refine wp_bif (fun _ => ?_) fun h => (by rw [h] at i3; simp at i3)
  (refine wp_load (hp3.loadH f1 (by simp)) ?_; (repeat apply Exists.intro); refine ⟨rfl, ?_⟩)
  (refine wp_load (hp3.loadH f2 (by simp)) ?_; (repeat apply Exists.intro); refine ⟨rfl, ?_⟩)
  refine wp_call (sameEntries hp3 (h2.mono hle (En.mono hle)) (h4.mono hle (En.mono hle)) hl) fun v4 w4 h4 => ?_
  obtain ⟨b4, rfl, i4, hp4⟩ := h4
  ((repeat apply Exists.intro); refine ⟨rfl, ?_⟩)
  exact ⟨by rw [i4.2 rfl], hp4.lessH hle⟩

/-- Entries copied behind nothing: new ones. -/
theorem wp_copyE {P : Program} {R : Value → World → Prop} {env : Nat → List Value → World → Prop} (hp : Hp w0 w H M) {a : Option Addr} {n c : Nat} {es : List Ent} (hs : Sl H (En H) a n c es) (hl : es.length ≤ 4000000000) {k : Option Addr → Nat → Nat → VC}
    (hk : ∀ (s' : Sl3) (M' : Mp) (o' : List Nat) (w' : World) (cells : List Value), Hp w0 w' H M' → Own M' 2 s' cells o' → LL (En H) cells es → Adv M [] M' o' → (k s'.a s'.n s'.c).wp P R env w') :
    (VC.new 57 [] fun p => .append 57 2 32 [.int .u64 0, .slice none 0 0] (some ⟨p, 0, none⟩) 0 0 a n k).wp P R env w := by
  obtain ⟨hn, hc, cells, hsl, hll⟩ := hs
  have hcl := LL.length En.len hll
  refine wp_new hp fun b w1 hp1 hM1 _ => ?_
  refine wp_append hp1 (own_fresh _ 2 b) rfl (hsl.read hp1 (by rw [hcl, hn])) (by rw [hcl, hn]) (one_of En.one hll) (by omega) (by show (0 + n) * 32 ≤ _; omega) fun s' M' o' w' hp' ho' hn' ha => ?_
  exact hk s' M' o' w' cells hp' (by simpa using ho') hll (Adv.of_put hM1 ha)

/-- One more behind them. -/
theorem wp_oneE {P : Program} {R : Value → World → Prop} {env : Nat → List Value → World → Prop} {M0 : Mp} {s : Sl3} {o : List Nat} {cells : List Value} {es : List Ent} {e : Ent} (hp : Hp w0 w H M) (ho : Own M 2 s cells o) (hl : LL (En H) cells es) (ha : Adv M0 [] M o) (hs : es.length ≤ 4000000000)
    {p : Nat} {ca : Option Addr} {cn cc : Nat} (f : H p = some [.int .u64 e.term, .slice ca cn cc]) (he : Bs H ca cn cc e.data) {k : Option Addr → Nat → Nat → VC}
    (hk : ∀ (s' : Sl3) (H' : Mp) (w' : World), Hp w0 w' H' M0 → H.le H' → Sl H' (En H') s'.a s'.n s'.c (es ++ [e]) → (k s'.a s'.n s'.c).wp P R env w') :
    (VC.append 57 2 32 [.int .u64 0, .slice none 0 0] s.a s.n s.c (some ⟨p, 0, none⟩) 1 k).wp P R env w := by
  have hcl := LL.length En.len hl
  have h1 := ho.1
  refine wp_append hp ho rfl (hp.read1 f rfl) rfl (by simp [Value.oneCell']) (by omega) (by omega) fun s' M' o' w' hp' ho' hn' ha' => ?_
  have hll : LL (En H) (cells ++ [.int .u64 e.term, .slice ca cn cc]) (es ++ [e]) := hl.append (LL.one ⟨ca, cn, cc, rfl, he⟩)
  refine hk s' (H.froz M' o') w' (hp'.give (ha.trans ha')) (hp'.froz_le _) ?_
  exact own_sl En.len (by omega) ho' (ho'.froz fun _ h => h) (hll.mono (En.mono (hp'.froz_le _)))

theorem giveE {M0 : Mp} {s : Sl3} {o : List Nat} {cells : List Value} {es : List Ent} (hp : Hp w0 w H M) (ho : Own M 2 s cells o) (hl : LL (En H) cells es) (ha : Adv M0 [] M o) :
    ∃ H', Hp w0 w H' M0 ∧ H.le H' ∧ Sl H' (En H') s.a s.n s.c es :=
  ⟨_, hp.give ha, hp.froz_le _, own_sl En.len (by omega) ho (ho.froz fun _ h => h) (hl.mono (En.mono (hp.froz_le _)))⟩

theorem slice_id {a : Option Addr} {c : Nat} : (if c = 0 then a else Option.map (fun x : Addr => x) a) = a := by split <;> simp
theorem cutN_le {k : Kept} {i : Int} : cutN k i ≤ k.entries.length := by unfold cutN; split <;> omega

set_option maxHeartbeats 8000000 in
theorem fold_runs {k : Kept} {l : List Rec} {cs : List Value} {la : Option Addr} {ln lc : Nat} (hp : Hp w0 w H M) (hk : Kp H cs k) (hl : Sl H (Rc H) la ln lc l) (hb : FoldB k l 0) (hs : ∀ e ∈ l, 0 ≤ e.idx ∧ e.idx ≤ 4000000000000 ∧ 0 ≤ e.snap.idx ∧ e.snap.idx ≤ 4000000000000) (hm : l.length ≤ 1000) :
    Runs Try.prog 86 [.agg cs.toArray, .slice la ln lc] w fun v w' => ∃ cs' H', v = .agg cs'.toArray ∧ Kp H' cs' (l.foldl foldRec k) ∧ Hp w0 w' H' M ∧ H.le H' := by
  have hln := hl.1
  obtain ⟨ss0, es0, rfl, hss0, hes0⟩ := hk
  apply r86
  refine wp_new hp fun p1 w1 hp1 hM1 _ => wp_new hp1 fun p2 w2 hp2 hM2 _ => ?_
  have hne : p1 ≠ p2 := fun e => by subst e; simp at hM2
  have hM2' : M p2 = none := by rwa [Mp.put_other (Ne.symm hne)] at hM2
  refine ⟨fun vs w' => ∃ (j : Nat) (H' M' : Mp) (ck : List Value), vs = [.int .i64 j] ∧ j ≤ l.length ∧ Hp w0 w' H' M' ∧ H.le H' ∧ M' p1 = some ck ∧ (∃ z, z.length = 6 ∧ M' p2 = some z) ∧ Kp H' ck ((l.take j).foldl foldRec k) ∧ FoldB ((l.take j).foldl foldRec k) l j ∧ ∀ b, M b ≠ none → M' b = M b,
    fun vs _ => match vs with | [.int _ q] => l.length - q.toNat | _ => 0, ⟨0, H, _, _, rfl, Nat.zero_le _, hp2, Mp.le.refl _, (Mp.put_other hne).trans (Mp.put_same _ _ _), ⟨_, rfl, Mp.put_same _ _ _⟩, ⟨ss0, es0, rfl, hss0, hes0⟩, hb, fun b hb => ?_⟩, ?_⟩
  · rw [Mp.put_other fun e => hb (by rw [e]; exact hM2'), Mp.put_other fun e => hb (by rw [e]; exact hM1)]
  clear hp1 hp2 hss0 hes0
  rintro vs w3 ⟨j, H3, M3, ck, rfl, hj, hp3, hle3, m1, ⟨z2, hz2, m2⟩, hkp, hfb, hkeep⟩
  have ewrap : j < l.length → IntKind.i64.wrap ((j : Int) + 1) = ((j + 1 : Nat) : Int) := fun h => by rw [wrap_i64 (by omega) (by omega)]; rfl
  obtain ⟨sa, ea, rfl, hsa, hea⟩ := hkp
  have hfb' := hfb
  obtain ⟨i0, i1, i2⟩ := hfb
  ((repeat apply Exists.intro); refine ⟨rfl, ?_⟩)
  refine wp_bif (fun h => ?_) fun h => ?_
  rotate_left
  · have hje : j = l.length := by
      have : ¬ (j : Int) < ln := of_decide_eq_false h
      omega
    subst hje
    rw [List.take_length] at hsa hea hfb' m1
    (refine wp_load (hp3.loadM m1 (by simp)) ?_; (repeat apply Exists.intro); refine ⟨rfl, ?_⟩)
    refine wp_store hp3 m2 (by simp [hz2]) (by simp [Value.oneCell']) fun w5 hp5 => ?_
    rw [splice_all (by simp [hz2])] at hp5
    (refine wp_load (hp5.loadM (Mp.put_same _ _ _) (by simp)) ?_; (repeat apply Exists.intro); refine ⟨rfl, ?_⟩)
    refine ⟨_, H3, rfl, ⟨sa, ea, rfl, hsa, hea⟩, hp5.less fun b cs hb => ?_, hle3⟩
    rw [Mp.put_other fun e => (by rw [e, hM2'] at hb; cases hb), hkeep b (Mp.ne_of hb)]
    exact hb
  have hjl : j < l.length := by
    have : (j : Int) < ln := of_decide_eq_true h
    omega
  have etake : l.take (j + 1) = l.take j ++ [l[j]] := List.take_succ_eq_append_getElem hjl
  have hstep : (l.take (j + 1)).foldl foldRec k = foldRec ((l.take j).foldl foldRec k) l[j] := by rw [etake, List.foldl_append]; rfl
  have hxs := hs l[j] (List.getElem_mem hjl)
  have hfbn := foldB_step hfb' hxs
  generalize (l.take j).foldl foldRec k = K at *
  -- on, with what is kept now
  have again : ∀ {w' : World} {H' M' : Mp} {ck' : List Value}, Hp w0 w' H' M' → H3.le H' → M' p1 = some ck' → M' p2 = some z2 → (∀ b, M b ≠ none → M' b = M b) → Kp H' ck' (foldRec K l[j]) →
      (∃ (j2 : Nat) (H' M' : Mp) (ck : List Value), [Value.int .i64 (IntKind.i64.wrap ((j : Int) + 1))] = [.int .i64 j2] ∧ j2 ≤ l.length ∧ Hp w0 w' H' M' ∧ H.le H' ∧ M' p1 = some ck ∧ (∃ z, z.length = 6 ∧ M' p2 = some z) ∧ Kp H' ck ((l.take j2).foldl foldRec k) ∧ FoldB ((l.take j2).foldl foldRec k) l j2 ∧ ∀ b, M b ≠ none → M' b = M b) ∧
        l.length - (IntKind.i64.wrap ((j : Int) + 1)).toNat < l.length - (j : Int).toNat := fun {w'} {H'} {M'} {ck'} h1 h2 h3 h4 h5 h6 =>
    ⟨⟨j + 1, H', M', ck', by rw [ewrap hjl], hjl, h1, hle3.trans h2, h3, ⟨z2, hz2, h4⟩, by rw [hstep]; exact h6, by rw [hstep]; exact hfbn, h5⟩, by rw [ewrap hjl]; omega⟩
  have kput : ∀ {cs : List Value}, ∀ b, M b ≠ none → M3.put p1 cs b = M b := fun b hb => by
    rw [Mp.put_other fun e => hb (by rw [e]; exact hM1)]; exact hkeep b hb
  have p2put : ∀ {cs : List Value}, M3.put p1 cs p2 = some z2 := (Mp.put_other (Ne.symm hne)).trans m2
  have hl3 := hl.mono hle3 (Rc.mono hle3)
  obtain ⟨b, o, cs, ha, hcs, hat⟩ := Sl.elem Rc.len hl3 hp3 (List.getElem?_eq_getElem hjl) (by omega)
  have hlen := Rc.len _ _ hcs
  have hat1 := hat _ _ hp3 0 9 (by omega)
  rw [Nat.add_zero, List.drop_zero, List.take_of_length_le (by omega)] at hat1
  obtain ⟨xa, xn, xc, xa2, xn2, xc2, rfl, hxe, hxs2⟩ := hcs
  refine ⟨_, ha, ⟨by omega, by omega⟩, ?_⟩
  simp only [add_mk, Int.toNat_natCast]
  (refine wp_load (hat1) ?_; (repeat apply Exists.intro); refine ⟨rfl, ?_⟩)
  refine wp_keep hp3 (by rfl) (by simp [Value.oneCell']) fun p16 w5 H5 hp5 hle5 f16 => ?_
  have hsa5 := hsa.mono hle5
  have hea5 := hea.mono hle5 (En.mono hle5)
  have hen := hea5.1
  have hec := hea5.2.1
  (refine wp_load (hp5.loadH f16 (by simp)) ?_; (repeat apply Exists.intro); refine ⟨rfl, ?_⟩)
  refine wp_bif (fun h1 => ?_) fun h1 => ?_
  · have k1 : l[j].kind = 1 := by simpa using h1
    (refine wp_load (hp5.loadH f16 (by simp)) ?_; (repeat apply Exists.intro); refine ⟨rfl, ?_⟩)
    refine wp_store hp5 m1 (by simp) (by simp [Value.oneCell']) fun w6 hp6 => ?_
    refine again hp6 hle5 (Mp.put_same _ _ _) p2put kput ⟨sa, ea, ?_, ?_, ?_⟩
    all_goals unfold foldRec
    all_goals rw [if_pos k1]
    · rfl
    · exact hsa5
    · exact hea5
  have k1 : ¬ l[j].kind = 1 := by simpa using h1
  refine wp_bif (fun h2 => ?_) fun h2 => ?_
  · have k2 : l[j].kind = 2 := by simpa using h2
    have ek : foldRec K l[j] = { K with entries := K.entries ++ [l[j].ent] } := by unfold foldRec; rw [if_neg k1, if_pos k2]
    have hp6 := hp5.drew
    (refine wp_load (hp6.loadM m1 (by simp)) ?_; (repeat apply Exists.intro); refine ⟨rfl, ?_⟩)
    (refine wp_load (hp6.loadH f16 (by simp)) ?_; (repeat apply Exists.intro); refine ⟨rfl, ?_⟩)
    have fin : ∀ {w' : World} {H' : Mp} {s' : Sl3}, Hp w0 w' H' M3 → H5.le H' → Sl H' (En H') s'.a s'.n s'.c (K.entries ++ [l[j].ent]) →
        (VC.store ⟨p1, 5, none⟩ [.slice s'.a s'.n s'.c] <| .again 0 [.int .i64 (IntKind.i64.wrap ((j : Int) + 1))]).wp Try.prog (fun v w' => ∃ cs' H', v = .agg cs'.toArray ∧ Kp H' cs' (l.foldl foldRec k) ∧ Hp w0 w' H' M ∧ H.le H')
          (upd (fun _ _ _ => False) 0 fun vs' w'' => (∃ (j2 : Nat) (H' M' : Mp) (ck : List Value), vs' = [.int .i64 j2] ∧ j2 ≤ l.length ∧ Hp w0 w'' H' M' ∧ H.le H' ∧ M' p1 = some ck ∧ (∃ z, z.length = 6 ∧ M' p2 = some z) ∧ Kp H' ck ((l.take j2).foldl foldRec k) ∧ FoldB ((l.take j2).foldl foldRec k) l j2 ∧ ∀ b, M b ≠ none → M' b = M b) ∧
            (match vs' with | [.int _ q] => l.length - q.toNat | _ => 0) < l.length - (j : Int).toNat) w' := by
      intro w' H' s' h1 h2 h3
      refine wp_store h1 m1 (by simp) (by simp [Value.oneCell']) fun w7 hp7 => ?_
      exact again hp7 (hle5.trans h2) (Mp.put_same _ _ _) p2put kput (by rw [ek]; exact ⟨sa, s', rfl, hsa5.mono h2, h3⟩)
    refine ⟨?_, ?_⟩
    · refine wp_new hp6 fun p27 w7 hp7 hM7 _ => ?_
      obtain ⟨hn', hc', cells, hsl, hll⟩ := hea5
      have hcl := LL.length En.len hll
      refine ⟨?_, ?_⟩
      · refine wp_append hp7 (own_fresh _ 2 p27) rfl (hsl.read hp7 (by rw [hcl, hn'])) (by rw [hcl, hn']) (one_of En.one hll) (by omega) (by show (0 + ea.n) * 32 ≤ _; omega) fun s' M' o' w8 hp8 ho8 hn8 ha8 => ?_
        refine ⟨fun h hh => ?_, ?_⟩
        · simp only [List.mem_singleton] at hh; subst hh; exact hp8.loadH f16 (by simp)
        refine wp_newH hp8 fun p29 w9 H9 hp9 hle9 f29 => ?_
        refine wp_oneE (e := l[j].ent) (es := K.entries) hp9 (by simpa using ho8) (hll.mono (En.mono hle9)) (Adv.of_put hM7 ha8) (by omega) f29 ((hxe.mono hle5).mono hle9) fun s2 H2 w2 h1 h2 h3 => ?_
        exact fin h1 (hle9.trans h2) h3
      · refine wp_newH hp7 fun p31 w8 H8 hp8 hle8 f31 => ?_
        refine wp_append hp8 (own_fresh _ 2 p27) rfl ((hsl.mono hle8).read hp8 (by rw [hcl, hn'])) (by rw [hcl, hn']) (one_of En.one hll) (by omega) (by show (0 + ea.n) * 32 ≤ _; omega) fun s' M' o' w9 hp9 ho9 hn9 ha9 => ?_
        refine wp_oneE (e := l[j].ent) (es := K.entries) hp9 (by simpa using ho9) (hll.mono (En.mono hle8)) (Adv.of_put hM7 ha9) (by omega) f31 ((hxe.mono hle5).mono hle8) fun s2 H2 w2 h1 h2 h3 => ?_
        exact fin h1 (hle8.trans h2) h3
    · refine wp_newH hp6 fun p34 w8 H8 hp8 hle8 f34 => ?_
      refine wp_copyE hp8 (hea5.mono hle8 (En.mono hle8)) (by omega) fun s' M' o' w9 cells hp9 ho9 hll9 ha9 => ?_
      refine wp_oneE (e := l[j].ent) (es := K.entries) hp9 ho9 hll9 ha9 (by omega) f34 ((hxe.mono hle5).mono hle8) fun s2 H2 w2 h1 h2 h3 => ?_
      exact fin h1 (hle8.trans h2) h3
  have k2 : ¬ l[j].kind = 2 := by simpa using h2
  refine wp_bif (fun h3 => ?_) fun h3 => ?_
  · have k3 : l[j].kind = 3 := by simpa using h3
    have ek : foldRec K l[j] = { K with entries := K.entries.take (cutN K l[j].idx) } := by unfold foldRec; rw [if_neg k1, if_neg k2, if_pos k3]
    have hcl := cutN_le (k := K) (i := l[j].idx)
    refine ⟨fun vs w' => ∃ n : Nat, vs = [.int .i64 n] ∧ n ≤ cutN K l[j].idx ∧ Hp w0 w' H5 M3, fun vs _ => match vs with | [.int _ q] => K.entries.length - q.toNat | _ => 0, ⟨0, rfl, Nat.zero_le _, hp5⟩, ?_⟩
    rintro vs w6 ⟨n, rfl, hn, hp6⟩
    have nwrap : IntKind.i64.wrap ((n : Int) + 1) = ((n + 1 : Nat) : Int) := by rw [wrap_i64 (by omega) (by omega)]; rfl
    ((repeat apply Exists.intro); refine ⟨rfl, ?_⟩)
    have exit : ∀ {w' : World}, Hp w0 w' H5 M3 → n = cutN K l[j].idx →
        (VC.new 57 [] fun p => .load ⟨p1, 5, none⟩ 1 fun v => .exS fun a n' c => .isL v [.slice a n' c] <| .need ((0 : Int) ≤ (n : Int) ∧ (n : Int) ≤ (c : Int)) <| .append 57 2 32 [.int .u64 0, .slice none 0 0] (some ⟨p, 0, none⟩) 0 0 (if c = 0 then a else Option.map (fun x => x) a) ((n : Int).toNat - 0) fun a2 n2 c2 =>
          .store ⟨p1, 5, none⟩ [.slice a2 n2 c2] <| .again 0 [.int .i64 (IntKind.i64.wrap ((j : Int) + 1))]).wp Try.prog (fun v w' => ∃ cs' H', v = .agg cs'.toArray ∧ Kp H' cs' (l.foldl foldRec k) ∧ Hp w0 w' H' M ∧ H.le H')
          (upd (upd (fun _ _ _ => False) 0 fun vs' w'' => (∃ (j2 : Nat) (H' M' : Mp) (ck : List Value), vs' = [.int .i64 j2] ∧ j2 ≤ l.length ∧ Hp w0 w'' H' M' ∧ H.le H' ∧ M' p1 = some ck ∧ (∃ z, z.length = 6 ∧ M' p2 = some z) ∧ Kp H' ck ((l.take j2).foldl foldRec k) ∧ FoldB ((l.take j2).foldl foldRec k) l j2 ∧ ∀ b, M b ≠ none → M' b = M b) ∧
            (match vs' with | [.int _ q] => l.length - q.toNat | _ => 0) < l.length - (j : Int).toNat) 1 fun vs' w'' => (∃ n : Nat, vs' = [.int .i64 n] ∧ n ≤ cutN K l[j].idx ∧ Hp w0 w'' H5 M3) ∧ (match vs' with | [.int _ q] => K.entries.length - q.toNat | _ => 0) < K.entries.length - (n : Int).toNat) w' := by
      intro w' h1 h2
      refine wp_new h1 fun p w7 hp7 hM7 _ => ?_
      have hpne : p1 ≠ p := fun e => by rw [e, hM7] at m1; cases m1
      (refine wp_load (hp7.loadM ((Mp.put_other hpne).trans m1) (by simp)) ?_; (repeat apply Exists.intro); refine ⟨rfl, ?_⟩)
      refine ⟨⟨by omega, by omega⟩, ?_⟩
      rw [slice_id]
      obtain ⟨hn', hc', cells, hsl, hll⟩ := Sl.take (k := n) En.len hea5 (by omega)
      have hcl := LL.length En.len hll
      rw [List.length_take, Nat.min_eq_left (by omega)] at hcl
      refine wp_append hp7 (own_fresh _ 2 p) (cells := []) (news := cells) rfl (hsl.read hp7 (by rw [hcl]; simp)) (by rw [hcl]; simp) (one_of En.one hll) (by omega) (by show (0 + _) * 32 ≤ _; simp; omega) fun s' M' o' w8 hp8 ho8 hn8 ha8 => ?_
      obtain ⟨H9, hp9, hle9, hs9⟩ := giveE hp8 (by simpa using ho8) hll (Adv.of_put hM7 ha8)
      refine wp_store hp9 m1 (by simp) (by simp [Value.oneCell']) fun w9 hp10 => ?_
      refine again hp10 (hle5.trans hle9) (Mp.put_same _ _ _) p2put kput ?_
      rw [ek, ← h2]
      exact ⟨sa, s', rfl, hsa5.mono hle9, hs9⟩
    (refine wp_load (hp6.loadM m1 (by simp)) ?_; (repeat apply Exists.intro); refine ⟨rfl, ?_⟩)
    refine wp_bif (fun h4 => ?_) fun h4 => ?_
    · have g4 : n < K.entries.length := by
        have : (n : Int) < ea.n := of_decide_eq_true h4
        omega
      (refine wp_load (hp6.loadH f16 (by simp)) ?_; (repeat apply Exists.intro); refine ⟨rfl, ?_⟩)
      (refine wp_load (hp6.loadM m1 (by simp)) ?_; (repeat apply Exists.intro); refine ⟨rfl, ?_⟩)
      refine wp_bif (fun h6 => ?_) fun h6 => ?_
      · have g6 : l[j].idx > K.snap.idx := of_decide_eq_true h6
        (refine wp_load (hp6.loadH f16 (by simp)) ?_; (repeat apply Exists.intro); refine ⟨rfl, ?_⟩)
        (refine wp_load (hp6.loadM m1 (by simp)) ?_; (repeat apply Exists.intro); refine ⟨rfl, ?_⟩)
        rw [wrap_u64 (x := (n : Int)) (by omega) (by omega), wrap_u64 (x := l[j].idx - K.snap.idx) (by omega) (by omega), wrap_u64 (x := l[j].idx - K.snap.idx - 1) (by omega) (by omega)]
        have ec : cutN K l[j].idx = min K.entries.length (l[j].idx - K.snap.idx - 1).toNat := by unfold cutN; rw [if_pos (by omega)]
        refine wp_bif (fun h7 => ?_) fun h7 => ?_
        · have g7 : (n : Int) < l[j].idx - K.snap.idx - 1 := of_decide_eq_true h7
          refine ⟨⟨n + 1, by rw [nwrap], by omega, hp6⟩, ?_⟩
          show K.entries.length - (IntKind.i64.wrap ((n : Int) + 1)).toNat < K.entries.length - (n : Int).toNat
          rw [nwrap]; omega
        · have g7 : ¬ (n : Int) < l[j].idx - K.snap.idx - 1 := of_decide_eq_false h7
          exact exit hp6 (by omega)
      · have g6 : ¬ l[j].idx > K.snap.idx := of_decide_eq_false h6
        have ec : cutN K l[j].idx = 0 := by unfold cutN; rw [if_neg (by omega)]
        exact exit hp6 (by omega)
    · have g4 : ¬ n < K.entries.length := by
        have : ¬ (n : Int) < ea.n := of_decide_eq_false h4
        omega
      exact exit hp6 (by omega)
  have k3 : ¬ l[j].kind = 3 := by simpa using h3
  refine wp_bif (fun h4 => ?_) fun h4 => ?_
  rotate_left
  · have k4 : ¬ l[j].kind = 4 := by simpa using h4
    have ek : foldRec K l[j] = K := by unfold foldRec; rw [if_neg k1, if_neg k2, if_neg k3, if_neg k4]
    exact again hp5 hle5 m1 m2 hkeep (by rw [ek]; exact ⟨sa, ea, rfl, hsa5, hea5⟩)
  have k4 : l[j].kind = 4 := by simpa using h4
  (refine wp_load (hp5.loadH f16 (by simp)) ?_; (repeat apply Exists.intro); refine ⟨rfl, ?_⟩)
  (refine wp_load (hp5.loadM m1 (by simp)) ?_; (repeat apply Exists.intro); refine ⟨rfl, ?_⟩)
  refine wp_bif (fun h5 => ?_) fun h5 => ?_
  rotate_left
  · have g5 : ¬ K.snap.idx < l[j].snap.idx := of_decide_eq_false h5
    have ek : foldRec K l[j] = K := by unfold foldRec; rw [if_neg k1, if_neg k2, if_neg k3, if_pos k4, if_neg g5]
    exact again hp5 hle5 m1 m2 hkeep (by rw [ek]; exact ⟨sa, ea, rfl, hsa5, hea5⟩)
  have g5 : K.snap.idx < l[j].snap.idx := of_decide_eq_true h5
  have ek : foldRec K l[j] = { K with snap := l[j].snap, entries := if l[j].snap.idx - K.snap.idx ≤ K.entries.length ∧ (K.entries.getD (l[j].snap.idx - K.snap.idx - 1).toNat Ent.none).term = l[j].snap.term then K.entries.drop (l[j].snap.idx - K.snap.idx).toNat else [] } := by
    unfold foldRec; rw [if_neg k1, if_neg k2, if_neg k3, if_pos k4, if_pos g5]
  obtain ⟨xs0, xs1, xs2, xs3⟩ := hxs
  -- the end of each way
  have fin : ∀ {w' : World} {H' : Mp} {s' : Sl3} {es : List Ent}, Hp w0 w' H' M3 → H5.le H' → Sl H' (En H') s'.a s'.n s'.c es → foldRec K l[j] = { K with snap := l[j].snap, entries := es } →
      (VC.load ⟨p16, 6, none⟩ 3 fun v => .exI fun i1 => .exI fun i2 => .exS fun a n c => .isL v [.int .u64 i1, .int .u64 i2, .slice a n c] <| .store ⟨p1, 2, none⟩ [.int .u64 i1, .int .u64 i2, .slice a n c] <| .store ⟨p1, 5, none⟩ [.slice s'.a s'.n s'.c] <| .again 0 [.int .i64 (IntKind.i64.wrap ((j : Int) + 1))]).wp Try.prog (fun v w' => ∃ cs' H', v = .agg cs'.toArray ∧ Kp H' cs' (l.foldl foldRec k) ∧ Hp w0 w' H' M ∧ H.le H')
        (upd (fun _ _ _ => False) 0 fun vs' w'' => (∃ (j2 : Nat) (H' M' : Mp) (ck : List Value), vs' = [.int .i64 j2] ∧ j2 ≤ l.length ∧ Hp w0 w'' H' M' ∧ H.le H' ∧ M' p1 = some ck ∧ (∃ z, z.length = 6 ∧ M' p2 = some z) ∧ Kp H' ck ((l.take j2).foldl foldRec k) ∧ FoldB ((l.take j2).foldl foldRec k) l j2 ∧ ∀ b, M b ≠ none → M' b = M b) ∧
          (match vs' with | [.int _ q] => l.length - q.toNat | _ => 0) < l.length - (j : Int).toNat) w' := by
    intro w' H' s' es h1 h2 h3 h4
    (refine wp_load (h1.loadH (h2 _ _ f16) (by simp)) ?_; (repeat apply Exists.intro); refine ⟨rfl, ?_⟩)
    refine wp_store h1 m1 (by simp) (by simp [Value.oneCell']) fun w7 hp7 => ?_
    refine wp_store1 hp7 (by simp [splice]) (by simp [Value.oneCell']) fun w8 hp8 => ?_
    exact again hp8 (hle5.trans h2) (Mp.put_same _ _ _) p2put kput (by rw [h4]; exact ⟨⟨xa2, xn2, xc2⟩, s', rfl, (hxs2.mono hle5).mono h2, h3⟩)
  (refine wp_load (hp5.loadH f16 (by simp)) ?_; (repeat apply Exists.intro); refine ⟨rfl, ?_⟩)
  (refine wp_load (hp5.loadM m1 (by simp)) ?_; (repeat apply Exists.intro); refine ⟨rfl, ?_⟩)
  have hp6 := hp5.drew
  refine wp_draw ?_
  (refine wp_load (hp6.loadM m1 (by simp)) ?_; (repeat apply Exists.intro); refine ⟨rfl, ?_⟩)
  rw [wrap_u64 (x := l[j].snap.idx - K.snap.idx) (by omega) (by omega), wrap_u64 (x := (ea.n : Int)) (by omega) (by omega)]
  refine wp_bif (fun h7 => ?_) fun h7 => ?_
  · have g7 : l[j].snap.idx - K.snap.idx ≤ K.entries.length := by
      have : l[j].snap.idx - K.snap.idx ≤ (ea.n : Int) := of_decide_eq_true h7
      omega
    (refine wp_load (hp6.loadM m1 (by simp)) ?_; (repeat apply Exists.intro); refine ⟨rfl, ?_⟩)
    rw [wrap_u64 (x := l[j].snap.idx - K.snap.idx - 1) (by omega) (by omega)]
    refine wp_idx En.len (by omega) hp6 hp6.le_uni hea5 Ent.none 1 (by omega) (by omega) (by omega) fun cs hcs => ?_
    obtain ⟨_, _, _, rfl, _⟩ := hcs
    ((repeat apply Exists.intro); refine ⟨rfl, ?_⟩)
    (refine wp_load (hp6.loadH f16 (by simp)) ?_; (repeat apply Exists.intro); refine ⟨rfl, ?_⟩)
    refine wp_bif (fun h8 => ?_) fun h8 => ?_
    · have g8 : (K.entries.getD (l[j].snap.idx - K.snap.idx - 1).toNat Ent.none).term = l[j].snap.term := by simpa using h8
      (refine wp_load (hp6.loadM m1 (by simp)) ?_; (repeat apply Exists.intro); refine ⟨rfl, ?_⟩)
      refine ⟨⟨by omega, by omega⟩, ?_⟩
      obtain ⟨hn', hc', cells, hsl, hll⟩ := Sl.drop (k := (l[j].snap.idx - K.snap.idx).toNat) En.len hea5
      have hcl := LL.length En.len hll
      rw [List.length_drop] at hcl
      refine wp_append (kk := 2) hp6 (Own.nil _ 2) (cells := []) (news := cells) (m := ea.n - (l[j].snap.idx - K.snap.idx).toNat) rfl (hsl.read hp6 (by rw [hcl, hen])) (by rw [hcl, hen]) (one_of En.one hll) (by omega) (by show (0 + (ea.n - (l[j].snap.idx - K.snap.idx).toNat)) * 32 ≤ _; omega) fun s' M' o' w8 hp8 ho8 hn8 ha8 => ?_
      obtain ⟨H9, hp9, hle9, hs9⟩ := giveE hp8 (by simpa using ho8) hll ha8
      exact fin hp9 hle9 hs9 (by rw [ek, if_pos ⟨g7, g8⟩])
    · have g8 : ¬ (K.entries.getD (l[j].snap.idx - K.snap.idx - 1).toNat Ent.none).term = l[j].snap.term := by simpa using h8
      exact fin (s' := ⟨none, 0, 0⟩) hp6 (Mp.le.refl _) (Sl.nil _ _) (by rw [ek, if_neg fun hh => g8 hh.2])
  · have g7 : ¬ l[j].snap.idx - K.snap.idx ≤ K.entries.length := by
      have : ¬ l[j].snap.idx - K.snap.idx ≤ (ea.n : Int) := of_decide_eq_false h7
      omega
    exact fin (s' := ⟨none, 0, 0⟩) hp6 (Mp.le.refl _) (Sl.nil _ _) (by rw [ek, if_neg fun hh => g7 hh.1])

theorem kept_law {r A : Raft} {q : Out} {c1 c2 cq : List Value} (hp : Hp w0 w H M) (h1 : Ra H c1 r) (h2 : Ra H c2 A) (h3 : Ou H cq q) (h0 : 0 ≤ r.snap.idx) (hi : r.snap.idx ≤ 5000000000000) (hl : r.log.length ≤ 1000000)
    (hS : q.save.foldl foldRec (kof r) = kof A) (hs : ∀ e ∈ q.save, 0 ≤ e.idx ∧ e.idx ≤ 4000000000000 ∧ 0 ≤ e.snap.idx ∧ e.snap.idx ≤ 4000000000000) (hql : q.save.length ≤ 1000) (hA : A.log.length ≤ 4398046511104) :
    Runs Try.prog 45 [.agg c1.toArray, .agg c2.toArray, .agg cq.toArray] w fun v w' => v = .bool true ∧ Hp w0 w' H M := by
  obtain ⟨x1, x2, x3, x4, x5, x6, x7, rfl, hx⟩ := h1
  obtain ⟨y1, y2, y3, y4, y5, y6, y7, rfl, hy⟩ := h2
  obtain ⟨z1, z2, z3, rfl, hz, _⟩ := h3
  apply r45
  refine wp_newH hp fun p1 w1 H1 hp1 hle1 f1 => wp_newH hp1 fun p2 w2 H2 hp2 hle2 f2 => wp_newH hp2 fun p3 w3 H3 hp3 hle3 f3 => ?_
  replace f1 := hle3 _ _ (hle2 _ _ f1)
  replace f2 := hle3 _ _ f2
  have hle := (hle1.trans hle2).trans hle3
  (refine wp_load (hp3.loadH f1 (by simp)) ?_; (repeat apply Exists.intro); refine ⟨rfl, ?_⟩)
  (refine wp_load (hp3.loadH f1 (by simp)) ?_; (repeat apply Exists.intro); refine ⟨rfl, ?_⟩)
  (refine wp_load (hp3.loadH f1 (by simp)) ?_; (repeat apply Exists.intro); refine ⟨rfl, ?_⟩)
  (refine wp_load (hp3.loadH f3 (by simp)) ?_; (repeat apply Exists.intro); refine ⟨rfl, ?_⟩)
  refine wp_call (fold_runs (k := kof r) (l := q.save) hp3 ⟨x1, x2, rfl, hx.state.mono hle, hx.log.mono hle (En.mono hle)⟩ (hz.mono hle (Rc.mono hle)) ⟨h0, hi, by show r.log.length ≤ _; omega⟩ hs hql) fun v4 w4 h4 => ?_
  obtain ⟨cs4, H4, rfl, hk4, hp4, hle4⟩ := h4
  rw [hS] at hk4
  obtain ⟨s4, e4, rfl, hs4, he4⟩ := hk4
  ((repeat apply Exists.intro); refine ⟨rfl, ?_⟩)
  refine wp_keep hp4 (by rfl) (by simp [Value.oneCell']) fun p5 w5 H5 hp5 hle5 f5 => ?_
  have l45 := hle4.trans hle5
  (refine wp_load (hp5.loadH f5 (by simp)) ?_; (repeat apply Exists.intro); refine ⟨rfl, ?_⟩)
  (refine wp_load (hp5.loadH (l45 _ _ f2) (by simp)) ?_; (repeat apply Exists.intro); refine ⟨rfl, ?_⟩)
  (refine wp_load (hp5.loadH (l45 _ _ f2) (by simp)) ?_; (repeat apply Exists.intro); refine ⟨rfl, ?_⟩)
  (refine wp_load (hp5.loadH (l45 _ _ f2) (by simp)) ?_; (repeat apply Exists.intro); refine ⟨rfl, ?_⟩)
  refine wp_call (sameKept_runs (k := kof A) hp5 ⟨s4, e4, rfl, hs4.mono hle5, he4.mono hle5 (En.mono hle5)⟩ ⟨y1, y2, rfl, hy.state.mono (hle.trans l45), hy.log.mono (hle.trans l45) (En.mono (hle.trans l45))⟩ hA) fun v6 w6 h6 => ?_
  obtain ⟨rfl, hp6⟩ := h6
  ((repeat apply Exists.intro); refine ⟨rfl, ?_⟩)
  exact ⟨rfl, hp6.lessH (hle.trans l45)⟩
end
end Go.Proofs.Ytnbfffmdplcajaa
