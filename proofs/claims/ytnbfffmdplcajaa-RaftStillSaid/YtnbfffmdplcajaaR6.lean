/- Contracts: leads, elects. -/
import Derived.Test.YtnbfffmdplcajaaR5
namespace Go.Proofs.Ytnbfffmdplcajaa
open Go.Vc Go.Vc.Rf

section
variable {w0 w : World} {H M U : Mp} {s : Nat} {o : List Nat} {x : Sp} {k : Nat}

def led0 (r : Raft) (j : Nat) : Raft := { bare r with role := 2, lead := r.id, round := 0, next := List.replicate j (lastI r + 1), mat := List.replicate j 0, acks := List.replicate j 0 }

theorem Bd.lead (h : Bd k x) : Bd k { x with r := Rf.lead x.r } := by
  have h1 := h.last
  have h2 := h.idx
  refine ⟨h.idx, h.last, h.term0, h.term, by simp [Rf.lead], by simp [Rf.lead]; omega, fun y hy => ?_, fun y hy => ?_, h.log, by simp [Rf.lead, bare], h.n, h.save, h.send, h.ready⟩
  · have := List.eq_of_mem_replicate (show y ∈ List.replicate _ (0 : Int) from hy)
    omega
  · have := List.eq_of_mem_replicate (show y ∈ List.replicate _ (lastI x.r + 1) from hy)
    unfold lastI at *
    omega

theorem leads_runs (hp : Hp w0 w H M) (st : St H M s o x.r x.q) (hb : Bd k x) (hk : k ≤ 800) (hn0 : 0 ≤ x.r.n) :
    Runs Try.prog 100 [.pointer (some ⟨s, 0, none⟩)] w fun v w' => v = .tuple #[] ∧ Dd w0 H M s o x.leads w' := by
  have st0 := st
  obtain ⟨ss, g, rfl, low, sem⟩ := st.ex
  have hn := hb.n
  have hi0 := hb.idx
  have hla := hb.last
  apply r100
  (refine wp_load (hp.loadM low.var (by simp [cells20])) ?_; (repeat apply Exists.intro); refine ⟨rfl, ?_⟩)
  refine wp_call (last_runs hp (Mp.le.refl _) ⟨_, _, _, _, _, _, _, rfl, Low.ra hp low sem⟩ hi0 (by omega)) fun v1 w1 h1 => ?_
  obtain ⟨rfl, hp1⟩ := h1
  ((repeat apply Exists.intro); refine ⟨rfl, ?_⟩)
  refine wp_call (bare_runs hp1 st0) fun v2 w2 h2 => ?_
  obtain ⟨rfl, H2, M2, o2, hp2, hle2, ha2, st2⟩ := h2
  ((repeat apply Exists.intro); refine ⟨rfl, ?_⟩)
  obtain ⟨ss2, g2, rfl, low2, sem2⟩ := st2.ex
  (refine wp_load (hp2.loadM low2.var (by simp [cells20])) ?_; (repeat apply Exists.intro); refine ⟨rfl, ?_⟩)
  refine wp_storeL hp2 low2 (by simp [cells20]) (by simp [Value.oneCell']) fun w3 M3 hp3 low3 a3 => ?_
  refine wp_storeL hp3 low3 (by simp [cells20, splice]) (by simp [Value.oneCell']) fun w4 M4 hp4 low4 a4 => ?_
  refine wp_storeL hp4 low4 (by simp [cells20, splice]) (by simp [Value.oneCell']) fun w5 M5 hp5 low5 a5 => ?_
  have st5 : St H2 M5 s _ (led0 x.r 0) x.q := St.of (ss := ss2) low5 rfl ⟨sem2.state, sem2.log, sem2.votes, sem2.next, sem2.mat, sem2.acks, sem2.reads, sem2.save, sem2.send, sem2.ready⟩
  have a25 := ha2.trans ((a3.trans a4).trans a5)
  clear low5 low4 low3 low2 sem2
  obtain ⟨ssX, gX, eX, lowX, semX⟩ := id st5.ex
  rw [eX] at st5 a25
  (refine wp_load (hp5.loadM lowX.var (by simp [cells20])) ?_; (repeat apply Exists.intro); refine ⟨rfl, ?_⟩)
  refine ⟨fun vs w' => ∃ (j : Nat) (H' M' : Mp) (o' : List Nat), vs = [.int .i64 j] ∧ j ≤ x.r.n.toNat ∧ Hp w0 w' H' M' ∧ H2.le H' ∧ Adv M (g.own s) M' o' ∧ St H' M' s o' (led0 x.r j) x.q,
    fun vs _ => match vs with | [.int _ q] => 9 - q.toNat | _ => 0, ⟨0, H2, M5, _, rfl, Nat.zero_le _, hp5, Mp.le.refl _, a25, st5⟩, ?_⟩
  clear lowX semX eX hp5 st5
  rintro vs w6 ⟨j, H6, M6, o6, rfl, hj, hp6, hle6, ha6, st6⟩
  obtain ⟨ss3, g2, rfl, low2, sem2⟩ := st6.ex
  ((repeat apply Exists.intro); refine ⟨rfl, ?_⟩)
  refine wp_bif (fun h => ?_) fun h => ?_
  · have hjn : (j : Int) < x.r.n := of_decide_eq_true h
    have hpd := hp6.drew
    (refine wp_load (hpd.loadM low2.var (by simp [cells20])) ?_; (repeat apply Exists.intro); refine ⟨rfl, ?_⟩)
    (refine wp_load (hpd.loadM low2.var (by simp [cells20])) ?_; (repeat apply Exists.intro); refine ⟨rfl, ?_⟩)
    (refine wp_load (hpd.loadM low2.var (by simp [cells20])) ?_; (repeat apply Exists.intro); refine ⟨rfl, ?_⟩)
    have n2 := low2.n (i := 2) (by omega) Nu.len (by decide) sem2.next
    have n3 := low2.n (i := 3) (by omega) Nu.len (by decide) sem2.mat
    have n4 := low2.n (i := 4) (by omega) Nu.len (by decide) sem2.acks
    simp only [led0, List.length_replicate] at n2 n3 n4
    have hs2 : ((g2 2).sl.n + 1) * 8 ≤ 140737488355328 := by omega
    have hs3 : ((g2 3).sl.n + 1) * 8 ≤ 140737488355328 := by omega
    have hs4 : ((g2 4).sl.n + 1) * 8 ≤ 140737488355328 := by omega
    have ewrap : IntKind.i64.wrap ((j : Int) + 1) = ((j + 1 : Nat) : Int) := by rw [wrap_i64 (by omega) (by omega)]; rfl
    have el : IntKind.u64.wrap (lastI x.r + 1) = lastI x.r + 1 := wrap_u64 (by unfold lastI; omega) (by omega)
    rw [el, ewrap]
    have fin : ∀ {w' : World} {H' M' : Mp} {t2 t3 t4 : Sl3} {q2 q3 q4 : List Nat}, Hp w0 w' H' M' → H6.le H' →
        Adv M6 (g2.own s) M' ((((g2.upd 2 ⟨t2, (g2 2).cells ++ [.int .u64 (lastI x.r + 1)], q2⟩).upd 3 ⟨t3, (g2 3).cells ++ [.int .u64 0], q3⟩).upd 4 ⟨t4, (g2 4).cells ++ [.int .u64 0], q4⟩).own s) →
        Low M' s (splice (splice (splice (cells20 (led0 x.r j) ss3 g2) 12 [.slice t2.a t2.n t2.c]) 13 [.slice t3.a t3.n t3.c]) 14 [.slice t4.a t4.n t4.c]) (((g2.upd 2 ⟨t2, (g2 2).cells ++ [.int .u64 (lastI x.r + 1)], q2⟩).upd 3 ⟨t3, (g2 3).cells ++ [.int .u64 0], q3⟩).upd 4 ⟨t4, (g2 4).cells ++ [.int .u64 0], q4⟩) →
        (∃ (j2 : Nat) (H' M' : Mp) (o' : List Nat), [Value.int .i64 ((j + 1 : Nat) : Int)] = [.int .i64 j2] ∧ j2 ≤ x.r.n.toNat ∧ Hp w0 w' H' M' ∧ H2.le H' ∧ Adv M (g.own s) M' o' ∧ St H' M' s o' (led0 x.r j2) x.q) ∧ 9 - ((j + 1 : Nat) : Int).toNat < 9 - (j : Int).toNat := by
      intro w' H' M' t2 t3 t4 q2 q3 q4 hp' hl' ha' low'
      refine ⟨⟨j + 1, H', M', _, rfl, by omega, hp', hle6.trans hl', ha6.trans ha', St.of (ss := ss3) low' rfl ?_⟩, by omega⟩
      have sm := sem2.mono hl'
      have rp : ∀ (v : Int), List.replicate (j + 1) v = List.replicate j v ++ [v] := fun v => List.replicate_succ'
      refine ⟨sm.state, sm.log, sm.votes, ?_, ?_, ?_, sm.reads, sm.save, sm.send, sm.ready⟩
      · show LL Nu ((g2 2).cells ++ [.int .u64 (lastI x.r + 1)]) (List.replicate (j + 1) (lastI x.r + 1))
        rw [rp]; exact sm.next.append (LL.one rfl)
      · show LL Nu ((g2 3).cells ++ [.int .u64 0]) (List.replicate (j + 1) 0)
        rw [rp]; exact sm.mat.append (LL.one rfl)
      · show LL Nu ((g2 4).cells ++ [.int .u64 0]) (List.replicate (j + 1) 0)
        rw [rp]; exact sm.acks.append (LL.one rfl)
    refine ⟨?_, ?_⟩
    · refine wp_newH hpd fun p102 w102 H102 hp102 hl102 f102 => ?_
      refine ⟨?_, ?_⟩
      · refine wp_appendL 2 (by omega) hp102 low2 rfl (hp102.read1 f102 rfl) rfl (by simp [Value.oneCell']) (by omega) hs2 fun t104 M104 o104 w104 hp104 low104 hn104 ad104 => ?_
        refine ⟨fun h hh => ?_, ?_⟩
        · simp only [List.mem_cons, List.not_mem_nil, or_false] at hh; rcases hh with rfl | rfl <;> exact hp104.loadM low104.var (by simp [cells20])
        refine ⟨?_, ?_⟩
        · refine wp_newH hp104 fun p107 w107 H107 hp107 hl107 f107 => ?_
          refine ⟨?_, ?_⟩
          · refine wp_appendL 3 (by omega) hp107 low104 rfl (hp107.read1 f107 rfl) rfl (by simp [Value.oneCell']) (by omega) hs3 fun t109 M109 o109 w109 hp109 low109 hn109 ad109 => ?_
            refine ⟨fun h hh => ?_, ?_⟩
            · simp only [List.mem_singleton] at hh; subst hh; exact hp109.loadM low109.var (by simp [cells20])
            refine wp_newH hp109 fun p111 w111 H111 hp111 hl111 f111 => ?_
            refine wp_appendL 4 (by omega) hp111 low109 rfl (hp111.read1 f111 rfl) rfl (by simp [Value.oneCell']) (by omega) hs4 fun t112 M112 o112 w112 hp112 low112 hn112 ad112 => ?_
            refine wp_storeL hp112 low112 (by simp [cells20]) (by simp [Value.oneCell']) fun w113 M113 hp113 low113 ad113 => ?_
            refine wp_storeL hp113 low113 (by simp [cells20, splice]) (by simp [Value.oneCell']) fun w114 M114 hp114 low114 ad114 => ?_
            refine wp_storeL hp114 low114 (by simp [cells20, splice]) (by simp [Value.oneCell']) fun w115 M115 hp115 low115 ad115 => ?_
            exact fin hp115 ((((Mp.le.refl _).trans hl102).trans hl107).trans hl111) (((((ad104.trans ad109).trans ad112).trans ad113).trans ad114).trans ad115) low115
          · refine wp_newH hp107 fun p117 w117 H117 hp117 hl117 f117 => ?_
            refine wp_appendL 3 (by omega) hp117 low104 rfl (hp117.read1 (hl117 _ _ f107) rfl) rfl (by simp [Value.oneCell']) (by omega) hs3 fun t118 M118 o118 w118 hp118 low118 hn118 ad118 => ?_
            refine ⟨fun h hh => ?_, ?_⟩
            · simp only [List.mem_singleton] at hh; subst hh; exact hp118.loadM low118.var (by simp [cells20])
            refine wp_appendL 4 (by omega) hp118 low118 rfl (hp118.read1 f117 rfl) rfl (by simp [Value.oneCell']) (by omega) hs4 fun t120 M120 o120 w120 hp120 low120 hn120 ad120 => ?_
            refine wp_storeL hp120 low120 (by simp [cells20]) (by simp [Value.oneCell']) fun w121 M121 hp121 low121 ad121 => ?_
            refine wp_storeL hp121 low121 (by simp [cells20, splice]) (by simp [Value.oneCell']) fun w122 M122 hp122 low122 ad122 => ?_
            refine wp_storeL hp122 low122 (by simp [cells20, splice]) (by simp [Value.oneCell']) fun w123 M123 hp123 low123 ad123 => ?_
            exact fin hp123 ((((Mp.le.refl _).trans hl102).trans hl107).trans hl117) (((((ad104.trans ad118).trans ad120).trans ad121).trans ad122).trans ad123) low123
        · refine wp_newH hp104 fun p125 w125 H125 hp125 hl125 f125 => ?_
          refine wp_newH hp125 fun p126 w126 H126 hp126 hl126 f126 => ?_
          refine wp_appendL 3 (by omega) hp126 low104 rfl (hp126.read1 f126 rfl) rfl (by simp [Value.oneCell']) (by omega) hs3 fun t127 M127 o127 w127 hp127 low127 hn127 ad127 => ?_
          refine ⟨fun h hh => ?_, ?_⟩
          · simp only [List.mem_singleton] at hh; subst hh; exact hp127.loadM low127.var (by simp [cells20])
          refine wp_appendL 4 (by omega) hp127 low127 rfl (hp127.read1 (hl126 _ _ f125) rfl) rfl (by simp [Value.oneCell']) (by omega) hs4 fun t129 M129 o129 w129 hp129 low129 hn129 ad129 => ?_
          refine wp_storeL hp129 low129 (by simp [cells20]) (by simp [Value.oneCell']) fun w130 M130 hp130 low130 ad130 => ?_
          refine wp_storeL hp130 low130 (by simp [cells20, splice]) (by simp [Value.oneCell']) fun w131 M131 hp131 low131 ad131 => ?_
          refine wp_storeL hp131 low131 (by simp [cells20, splice]) (by simp [Value.oneCell']) fun w132 M132 hp132 low132 ad132 => ?_
          exact fin hp132 ((((Mp.le.refl _).trans hl102).trans hl125).trans hl126) (((((ad104.trans ad127).trans ad129).trans ad130).trans ad131).trans ad132) low132
      · refine ⟨?_, ?_⟩
        · refine wp_newH hp102 fun p135 w135 H135 hp135 hl135 f135 => ?_
          refine ⟨?_, ?_⟩
          · refine wp_appendL 2 (by omega) hp135 low2 rfl (hp135.read1 (hl135 _ _ f102) rfl) rfl (by simp [Value.oneCell']) (by omega) hs2 fun t137 M137 o137 w137 hp137 low137 hn137 ad137 => ?_
            refine ⟨fun h hh => ?_, ?_⟩
            · simp only [List.mem_cons, List.not_mem_nil, or_false] at hh; rcases hh with rfl | rfl <;> exact hp137.loadM low137.var (by simp [cells20])
            refine ⟨?_, ?_⟩
            · refine wp_appendL 3 (by omega) hp137 low137 rfl (hp137.read1 f135 rfl) rfl (by simp [Value.oneCell']) (by omega) hs3 fun t140 M140 o140 w140 hp140 low140 hn140 ad140 => ?_
              refine ⟨fun h hh => ?_, ?_⟩
              · simp only [List.mem_singleton] at hh; subst hh; exact hp140.loadM low140.var (by simp [cells20])
              refine wp_newH hp140 fun p142 w142 H142 hp142 hl142 f142 => ?_
              refine wp_appendL 4 (by omega) hp142 low140 rfl (hp142.read1 f142 rfl) rfl (by simp [Value.oneCell']) (by omega) hs4 fun t143 M143 o143 w143 hp143 low143 hn143 ad143 => ?_
              refine wp_storeL hp143 low143 (by simp [cells20]) (by simp [Value.oneCell']) fun w144 M144 hp144 low144 ad144 => ?_
              refine wp_storeL hp144 low144 (by simp [cells20, splice]) (by simp [Value.oneCell']) fun w145 M145 hp145 low145 ad145 => ?_
              refine wp_storeL hp145 low145 (by simp [cells20, splice]) (by simp [Value.oneCell']) fun w146 M146 hp146 low146 ad146 => ?_
              exact fin hp146 ((((Mp.le.refl _).trans hl102).trans hl135).trans hl142) (((((ad137.trans ad140).trans ad143).trans ad144).trans ad145).trans ad146) low146
            · refine wp_newH hp137 fun p148 w148 H148 hp148 hl148 f148 => ?_
              refine wp_appendL 3 (by omega) hp148 low137 rfl (hp148.read1 (hl148 _ _ f135) rfl) rfl (by simp [Value.oneCell']) (by omega) hs3 fun t149 M149 o149 w149 hp149 low149 hn149 ad149 => ?_
              refine ⟨fun h hh => ?_, ?_⟩
              · simp only [List.mem_singleton] at hh; subst hh; exact hp149.loadM low149.var (by simp [cells20])
              refine wp_appendL 4 (by omega) hp149 low149 rfl (hp149.read1 f148 rfl) rfl (by simp [Value.oneCell']) (by omega) hs4 fun t151 M151 o151 w151 hp151 low151 hn151 ad151 => ?_
              refine wp_storeL hp151 low151 (by simp [cells20]) (by simp [Value.oneCell']) fun w152 M152 hp152 low152 ad152 => ?_
              refine wp_storeL hp152 low152 (by simp [cells20, splice]) (by simp [Value.oneCell']) fun w153 M153 hp153 low153 ad153 => ?_
              refine wp_storeL hp153 low153 (by simp [cells20, splice]) (by simp [Value.oneCell']) fun w154 M154 hp154 low154 ad154 => ?_
              exact fin hp154 ((((Mp.le.refl _).trans hl102).trans hl135).trans hl148) (((((ad137.trans ad149).trans ad151).trans ad152).trans ad153).trans ad154) low154
          · refine wp_newH hp135 fun p156 w156 H156 hp156 hl156 f156 => ?_
            refine wp_appendL 2 (by omega) hp156 low2 rfl (hp156.read1 (hl156 _ _ (hl135 _ _ f102)) rfl) rfl (by simp [Value.oneCell']) (by omega) hs2 fun t157 M157 o157 w157 hp157 low157 hn157 ad157 => ?_
            refine ⟨fun h hh => ?_, ?_⟩
            · simp only [List.mem_cons, List.not_mem_nil, or_false] at hh; rcases hh with rfl | rfl <;> exact hp157.loadM low157.var (by simp [cells20])
            refine wp_appendL 3 (by omega) hp157 low157 rfl (hp157.read1 (hl156 _ _ f135) rfl) rfl (by simp [Value.oneCell']) (by omega) hs3 fun t159 M159 o159 w159 hp159 low159 hn159 ad159 => ?_
            refine ⟨fun h hh => ?_, ?_⟩
            · simp only [List.mem_singleton] at hh; subst hh; exact hp159.loadM low159.var (by simp [cells20])
            refine wp_appendL 4 (by omega) hp159 low159 rfl (hp159.read1 f156 rfl) rfl (by simp [Value.oneCell']) (by omega) hs4 fun t161 M161 o161 w161 hp161 low161 hn161 ad161 => ?_
            refine wp_storeL hp161 low161 (by simp [cells20]) (by simp [Value.oneCell']) fun w162 M162 hp162 low162 ad162 => ?_
            refine wp_storeL hp162 low162 (by simp [cells20, splice]) (by simp [Value.oneCell']) fun w163 M163 hp163 low163 ad163 => ?_
            refine wp_storeL hp163 low163 (by simp [cells20, splice]) (by simp [Value.oneCell']) fun w164 M164 hp164 low164 ad164 => ?_
            exact fin hp164 ((((Mp.le.refl _).trans hl102).trans hl135).trans hl156) (((((ad157.trans ad159).trans ad161).trans ad162).trans ad163).trans ad164) low164
        · refine wp_newH hp102 fun p166 w166 H166 hp166 hl166 f166 => ?_
          refine ⟨?_, ?_⟩
          · refine wp_appendL 2 (by omega) hp166 low2 rfl (hp166.read1 (hl166 _ _ f102) rfl) rfl (by simp [Value.oneCell']) (by omega) hs2 fun t168 M168 o168 w168 hp168 low168 hn168 ad168 => ?_
            refine ⟨fun h hh => ?_, ?_⟩
            · simp only [List.mem_cons, List.not_mem_nil, or_false] at hh; rcases hh with rfl | rfl <;> exact hp168.loadM low168.var (by simp [cells20])
            refine wp_newH hp168 fun p170 w170 H170 hp170 hl170 f170 => ?_
            refine wp_appendL 3 (by omega) hp170 low168 rfl (hp170.read1 f170 rfl) rfl (by simp [Value.oneCell']) (by omega) hs3 fun t171 M171 o171 w171 hp171 low171 hn171 ad171 => ?_
            refine ⟨fun h hh => ?_, ?_⟩
            · simp only [List.mem_singleton] at hh; subst hh; exact hp171.loadM low171.var (by simp [cells20])
            refine wp_appendL 4 (by omega) hp171 low171 rfl (hp171.read1 (hl170 _ _ f166) rfl) rfl (by simp [Value.oneCell']) (by omega) hs4 fun t173 M173 o173 w173 hp173 low173 hn173 ad173 => ?_
            refine wp_storeL hp173 low173 (by simp [cells20]) (by simp [Value.oneCell']) fun w174 M174 hp174 low174 ad174 => ?_
            refine wp_storeL hp174 low174 (by simp [cells20, splice]) (by simp [Value.oneCell']) fun w175 M175 hp175 low175 ad175 => ?_
            refine wp_storeL hp175 low175 (by simp [cells20, splice]) (by simp [Value.oneCell']) fun w176 M176 hp176 low176 ad176 => ?_
            exact fin hp176 ((((Mp.le.refl _).trans hl102).trans hl166).trans hl170) (((((ad168.trans ad171).trans ad173).trans ad174).trans ad175).trans ad176) low176
          · refine wp_newH hp166 fun p178 w178 H178 hp178 hl178 f178 => ?_
            refine wp_appendL 2 (by omega) hp178 low2 rfl (hp178.read1 (hl178 _ _ (hl166 _ _ f102)) rfl) rfl (by simp [Value.oneCell']) (by omega) hs2 fun t179 M179 o179 w179 hp179 low179 hn179 ad179 => ?_
            refine ⟨fun h hh => ?_, ?_⟩
            · simp only [List.mem_cons, List.not_mem_nil, or_false] at hh; rcases hh with rfl | rfl <;> exact hp179.loadM low179.var (by simp [cells20])
            refine wp_appendL 3 (by omega) hp179 low179 rfl (hp179.read1 f178 rfl) rfl (by simp [Value.oneCell']) (by omega) hs3 fun t181 M181 o181 w181 hp181 low181 hn181 ad181 => ?_
            refine ⟨fun h hh => ?_, ?_⟩
            · simp only [List.mem_singleton] at hh; subst hh; exact hp181.loadM low181.var (by simp [cells20])
            refine wp_appendL 4 (by omega) hp181 low181 rfl (hp181.read1 (hl178 _ _ f166) rfl) rfl (by simp [Value.oneCell']) (by omega) hs4 fun t183 M183 o183 w183 hp183 low183 hn183 ad183 => ?_
            refine wp_storeL hp183 low183 (by simp [cells20]) (by simp [Value.oneCell']) fun w184 M184 hp184 low184 ad184 => ?_
            refine wp_storeL hp184 low184 (by simp [cells20, splice]) (by simp [Value.oneCell']) fun w185 M185 hp185 low185 ad185 => ?_
            refine wp_storeL hp185 low185 (by simp [cells20, splice]) (by simp [Value.oneCell']) fun w186 M186 hp186 low186 ad186 => ?_
            exact fin hp186 ((((Mp.le.refl _).trans hl102).trans hl166).trans hl178) (((((ad179.trans ad181).trans ad183).trans ad184).trans ad185).trans ad186) low186
    · refine ⟨?_, ?_⟩
      · refine wp_newH hpd fun p189 w189 H189 hp189 hl189 f189 => ?_
        refine ⟨?_, ?_⟩
        · refine wp_newH hp189 fun p191 w191 H191 hp191 hl191 f191 => ?_
          refine ⟨?_, ?_⟩
          · refine wp_appendL 2 (by omega) hp191 low2 rfl (hp191.read1 f191 rfl) rfl (by simp [Value.oneCell']) (by omega) hs2 fun t193 M193 o193 w193 hp193 low193 hn193 ad193 => ?_
            refine ⟨fun h hh => ?_, ?_⟩
            · simp only [List.mem_cons, List.not_mem_nil, or_false] at hh; rcases hh with rfl | rfl <;> exact hp193.loadM low193.var (by simp [cells20])
            refine ⟨?_, ?_⟩
            · refine wp_appendL 3 (by omega) hp193 low193 rfl (hp193.read1 (hl191 _ _ f189) rfl) rfl (by simp [Value.oneCell']) (by omega) hs3 fun t196 M196 o196 w196 hp196 low196 hn196 ad196 => ?_
              refine ⟨fun h hh => ?_, ?_⟩
              · simp only [List.mem_singleton] at hh; subst hh; exact hp196.loadM low196.var (by simp [cells20])
              refine wp_newH hp196 fun p198 w198 H198 hp198 hl198 f198 => ?_
              refine wp_appendL 4 (by omega) hp198 low196 rfl (hp198.read1 f198 rfl) rfl (by simp [Value.oneCell']) (by omega) hs4 fun t199 M199 o199 w199 hp199 low199 hn199 ad199 => ?_
              refine wp_storeL hp199 low199 (by simp [cells20]) (by simp [Value.oneCell']) fun w200 M200 hp200 low200 ad200 => ?_
              refine wp_storeL hp200 low200 (by simp [cells20, splice]) (by simp [Value.oneCell']) fun w201 M201 hp201 low201 ad201 => ?_
              refine wp_storeL hp201 low201 (by simp [cells20, splice]) (by simp [Value.oneCell']) fun w202 M202 hp202 low202 ad202 => ?_
              exact fin hp202 ((((Mp.le.refl _).trans hl189).trans hl191).trans hl198) (((((ad193.trans ad196).trans ad199).trans ad200).trans ad201).trans ad202) low202
            · refine wp_newH hp193 fun p204 w204 H204 hp204 hl204 f204 => ?_
              refine wp_appendL 3 (by omega) hp204 low193 rfl (hp204.read1 (hl204 _ _ (hl191 _ _ f189)) rfl) rfl (by simp [Value.oneCell']) (by omega) hs3 fun t205 M205 o205 w205 hp205 low205 hn205 ad205 => ?_
              refine ⟨fun h hh => ?_, ?_⟩
              · simp only [List.mem_singleton] at hh; subst hh; exact hp205.loadM low205.var (by simp [cells20])
              refine wp_appendL 4 (by omega) hp205 low205 rfl (hp205.read1 f204 rfl) rfl (by simp [Value.oneCell']) (by omega) hs4 fun t207 M207 o207 w207 hp207 low207 hn207 ad207 => ?_
              refine wp_storeL hp207 low207 (by simp [cells20]) (by simp [Value.oneCell']) fun w208 M208 hp208 low208 ad208 => ?_
              refine wp_storeL hp208 low208 (by simp [cells20, splice]) (by simp [Value.oneCell']) fun w209 M209 hp209 low209 ad209 => ?_
              refine wp_storeL hp209 low209 (by simp [cells20, splice]) (by simp [Value.oneCell']) fun w210 M210 hp210 low210 ad210 => ?_
              exact fin hp210 ((((Mp.le.refl _).trans hl189).trans hl191).trans hl204) (((((ad193.trans ad205).trans ad207).trans ad208).trans ad209).trans ad210) low210
          · refine wp_newH hp191 fun p212 w212 H212 hp212 hl212 f212 => ?_
            refine wp_appendL 2 (by omega) hp212 low2 rfl (hp212.read1 (hl212 _ _ f191) rfl) rfl (by simp [Value.oneCell']) (by omega) hs2 fun t213 M213 o213 w213 hp213 low213 hn213 ad213 => ?_
            refine ⟨fun h hh => ?_, ?_⟩
            · simp only [List.mem_cons, List.not_mem_nil, or_false] at hh; rcases hh with rfl | rfl <;> exact hp213.loadM low213.var (by simp [cells20])
            refine wp_appendL 3 (by omega) hp213 low213 rfl (hp213.read1 (hl212 _ _ (hl191 _ _ f189)) rfl) rfl (by simp [Value.oneCell']) (by omega) hs3 fun t215 M215 o215 w215 hp215 low215 hn215 ad215 => ?_
            refine ⟨fun h hh => ?_, ?_⟩
            · simp only [List.mem_singleton] at hh; subst hh; exact hp215.loadM low215.var (by simp [cells20])
            refine wp_appendL 4 (by omega) hp215 low215 rfl (hp215.read1 f212 rfl) rfl (by simp [Value.oneCell']) (by omega) hs4 fun t217 M217 o217 w217 hp217 low217 hn217 ad217 => ?_
            refine wp_storeL hp217 low217 (by simp [cells20]) (by simp [Value.oneCell']) fun w218 M218 hp218 low218 ad218 => ?_
            refine wp_storeL hp218 low218 (by simp [cells20, splice]) (by simp [Value.oneCell']) fun w219 M219 hp219 low219 ad219 => ?_
            refine wp_storeL hp219 low219 (by simp [cells20, splice]) (by simp [Value.oneCell']) fun w220 M220 hp220 low220 ad220 => ?_
            exact fin hp220 ((((Mp.le.refl _).trans hl189).trans hl191).trans hl212) (((((ad213.trans ad215).trans ad217).trans ad218).trans ad219).trans ad220) low220
        · refine wp_newH hp189 fun p222 w222 H222 hp222 hl222 f222 => ?_
          refine wp_newH hp222 fun p223 w223 H223 hp223 hl223 f223 => ?_
          refine wp_appendL 2 (by omega) hp223 low2 rfl (hp223.read1 f223 rfl) rfl (by simp [Value.oneCell']) (by omega) hs2 fun t224 M224 o224 w224 hp224 low224 hn224 ad224 => ?_
          refine ⟨fun h hh => ?_, ?_⟩
          · simp only [List.mem_cons, List.not_mem_nil, or_false] at hh; rcases hh with rfl | rfl <;> exact hp224.loadM low224.var (by simp [cells20])
          refine wp_appendL 3 (by omega) hp224 low224 rfl (hp224.read1 (hl223 _ _ (hl222 _ _ f189)) rfl) rfl (by simp [Value.oneCell']) (by omega) hs3 fun t226 M226 o226 w226 hp226 low226 hn226 ad226 => ?_
          refine ⟨fun h hh => ?_, ?_⟩
          · simp only [List.mem_singleton] at hh; subst hh; exact hp226.loadM low226.var (by simp [cells20])
          refine wp_appendL 4 (by omega) hp226 low226 rfl (hp226.read1 (hl223 _ _ f222) rfl) rfl (by simp [Value.oneCell']) (by omega) hs4 fun t228 M228 o228 w228 hp228 low228 hn228 ad228 => ?_
          refine wp_storeL hp228 low228 (by simp [cells20]) (by simp [Value.oneCell']) fun w229 M229 hp229 low229 ad229 => ?_
          refine wp_storeL hp229 low229 (by simp [cells20, splice]) (by simp [Value.oneCell']) fun w230 M230 hp230 low230 ad230 => ?_
          refine wp_storeL hp230 low230 (by simp [cells20, splice]) (by simp [Value.oneCell']) fun w231 M231 hp231 low231 ad231 => ?_
          exact fin hp231 ((((Mp.le.refl _).trans hl189).trans hl222).trans hl223) (((((ad224.trans ad226).trans ad228).trans ad229).trans ad230).trans ad231) low231
      · refine wp_newH hpd fun p233 w233 H233 hp233 hl233 f233 => ?_
        refine ⟨?_, ?_⟩
        · refine wp_newH hp233 fun p235 w235 H235 hp235 hl235 f235 => ?_
          refine ⟨?_, ?_⟩
          · refine wp_appendL 2 (by omega) hp235 low2 rfl (hp235.read1 f235 rfl) rfl (by simp [Value.oneCell']) (by omega) hs2 fun t237 M237 o237 w237 hp237 low237 hn237 ad237 => ?_
            refine ⟨fun h hh => ?_, ?_⟩
            · simp only [List.mem_cons, List.not_mem_nil, or_false] at hh; rcases hh with rfl | rfl <;> exact hp237.loadM low237.var (by simp [cells20])
            refine wp_newH hp237 fun p239 w239 H239 hp239 hl239 f239 => ?_
            refine wp_appendL 3 (by omega) hp239 low237 rfl (hp239.read1 f239 rfl) rfl (by simp [Value.oneCell']) (by omega) hs3 fun t240 M240 o240 w240 hp240 low240 hn240 ad240 => ?_
            refine ⟨fun h hh => ?_, ?_⟩
            · simp only [List.mem_singleton] at hh; subst hh; exact hp240.loadM low240.var (by simp [cells20])
            refine wp_appendL 4 (by omega) hp240 low240 rfl (hp240.read1 (hl239 _ _ (hl235 _ _ f233)) rfl) rfl (by simp [Value.oneCell']) (by omega) hs4 fun t242 M242 o242 w242 hp242 low242 hn242 ad242 => ?_
            refine wp_storeL hp242 low242 (by simp [cells20]) (by simp [Value.oneCell']) fun w243 M243 hp243 low243 ad243 => ?_
            refine wp_storeL hp243 low243 (by simp [cells20, splice]) (by simp [Value.oneCell']) fun w244 M244 hp244 low244 ad244 => ?_
            refine wp_storeL hp244 low244 (by simp [cells20, splice]) (by simp [Value.oneCell']) fun w245 M245 hp245 low245 ad245 => ?_
            exact fin hp245 ((((Mp.le.refl _).trans hl233).trans hl235).trans hl239) (((((ad237.trans ad240).trans ad242).trans ad243).trans ad244).trans ad245) low245
          · refine wp_newH hp235 fun p247 w247 H247 hp247 hl247 f247 => ?_
            refine wp_appendL 2 (by omega) hp247 low2 rfl (hp247.read1 (hl247 _ _ f235) rfl) rfl (by simp [Value.oneCell']) (by omega) hs2 fun t248 M248 o248 w248 hp248 low248 hn248 ad248 => ?_
            refine ⟨fun h hh => ?_, ?_⟩
            · simp only [List.mem_cons, List.not_mem_nil, or_false] at hh; rcases hh with rfl | rfl <;> exact hp248.loadM low248.var (by simp [cells20])
            refine wp_appendL 3 (by omega) hp248 low248 rfl (hp248.read1 f247 rfl) rfl (by simp [Value.oneCell']) (by omega) hs3 fun t250 M250 o250 w250 hp250 low250 hn250 ad250 => ?_
            refine ⟨fun h hh => ?_, ?_⟩
            · simp only [List.mem_singleton] at hh; subst hh; exact hp250.loadM low250.var (by simp [cells20])
            refine wp_appendL 4 (by omega) hp250 low250 rfl (hp250.read1 (hl247 _ _ (hl235 _ _ f233)) rfl) rfl (by simp [Value.oneCell']) (by omega) hs4 fun t252 M252 o252 w252 hp252 low252 hn252 ad252 => ?_
            refine wp_storeL hp252 low252 (by simp [cells20]) (by simp [Value.oneCell']) fun w253 M253 hp253 low253 ad253 => ?_
            refine wp_storeL hp253 low253 (by simp [cells20, splice]) (by simp [Value.oneCell']) fun w254 M254 hp254 low254 ad254 => ?_
            refine wp_storeL hp254 low254 (by simp [cells20, splice]) (by simp [Value.oneCell']) fun w255 M255 hp255 low255 ad255 => ?_
            exact fin hp255 ((((Mp.le.refl _).trans hl233).trans hl235).trans hl247) (((((ad248.trans ad250).trans ad252).trans ad253).trans ad254).trans ad255) low255
        · refine wp_newH hp233 fun p257 w257 H257 hp257 hl257 f257 => ?_
          refine wp_newH hp257 fun p258 w258 H258 hp258 hl258 f258 => ?_
          refine wp_appendL 2 (by omega) hp258 low2 rfl (hp258.read1 f258 rfl) rfl (by simp [Value.oneCell']) (by omega) hs2 fun t259 M259 o259 w259 hp259 low259 hn259 ad259 => ?_
          refine ⟨fun h hh => ?_, ?_⟩
          · simp only [List.mem_cons, List.not_mem_nil, or_false] at hh; rcases hh with rfl | rfl <;> exact hp259.loadM low259.var (by simp [cells20])
          refine wp_appendL 3 (by omega) hp259 low259 rfl (hp259.read1 (hl258 _ _ f257) rfl) rfl (by simp [Value.oneCell']) (by omega) hs3 fun t261 M261 o261 w261 hp261 low261 hn261 ad261 => ?_
          refine ⟨fun h hh => ?_, ?_⟩
          · simp only [List.mem_singleton] at hh; subst hh; exact hp261.loadM low261.var (by simp [cells20])
          refine wp_appendL 4 (by omega) hp261 low261 rfl (hp261.read1 (hl258 _ _ (hl257 _ _ f233)) rfl) rfl (by simp [Value.oneCell']) (by omega) hs4 fun t263 M263 o263 w263 hp263 low263 hn263 ad263 => ?_
          refine wp_storeL hp263 low263 (by simp [cells20]) (by simp [Value.oneCell']) fun w264 M264 hp264 low264 ad264 => ?_
          refine wp_storeL hp264 low264 (by simp [cells20, splice]) (by simp [Value.oneCell']) fun w265 M265 hp265 low265 ad265 => ?_
          refine wp_storeL hp265 low265 (by simp [cells20, splice]) (by simp [Value.oneCell']) fun w266 M266 hp266 low266 ad266 => ?_
          exact fin hp266 ((((Mp.le.refl _).trans hl233).trans hl257).trans hl258) (((((ad259.trans ad261).trans ad263).trans ad264).trans ad265).trans ad266) low266
  · have h' : ¬ (j : Int) < x.r.n := of_decide_eq_false h
    have hje : j = x.r.n.toNat := by omega
    subst hje
    have hb0 : Bd k { x with r := Rf.lead x.r } := Bd.lead hb
    change St H6 M6 s _ ({ x with r := Rf.lead x.r } : Sp).r ({ x with r := Rf.lead x.r } : Sp).q at st6
    refine wp_call (put_runs hp6 st6 (Bs.nil _) hb0 (by omega)) fun v7 w7 h7 => ?_
    obtain ⟨rfl, H7, M7, o7, hp7, hle7, ha7, st7⟩ := h7
    ((repeat apply Exists.intro); refine ⟨rfl, ?_⟩)
    have hlr : Lr (Rf.lead x.r) := ⟨by simp [Rf.lead, bare]; omega, by simp [Rf.lead, bare]; omega, by simp [Rf.lead, bare]; omega⟩
    refine wp_call (counts_runs hp7 st7 hb0.put (by omega) hlr.mat) fun v8 w8 h8 => ?_
    obtain ⟨rfl, H8, M8, o8, hp8, hle8, ha8, st8⟩ := h8
    ((repeat apply Exists.intro); refine ⟨rfl, ?_⟩)
    refine wp_call (calls_runs hp8 st8 hb0.put.counts (by omega) ⟨hlr.next, hlr.mat, hlr.acks⟩) fun v9 w9 h9 => ?_
    obtain ⟨rfl, h9⟩ := h9
    ((repeat apply Exists.intro); refine ⟨rfl, ?_⟩)
    exact ⟨rfl, Dd.more (((hle2.trans hle6).trans hle7).trans hle8) ((ha6.trans ha7).trans ha8) h9⟩

theorem elects_runs (hp : Hp w0 w H M) (st : St H M s o x.r x.q) (hb : Bd k x) (hk : k ≤ 800) (hv : (x.r.votes.length : Int) = x.r.n) (h1 : 1 ≤ x.r.id) (h2 : x.r.id ≤ x.r.n) :
    Runs Try.prog 62 [.pointer (some ⟨s, 0, none⟩)] w fun v w' => v = .tuple #[] ∧ Dd w0 H M s o x.elects w' := by
  have st0 := st
  obtain ⟨ss, g, rfl, low, sem⟩ := st.ex
  have hn := hb.n
  apply r62
  refine wp_newH hp fun p1 w1 H1 hp1 hle1 f1 => ?_
  have hpd := hp1.drew
  (refine wp_load (hpd.loadH f1 (by simp)) ?_; (repeat apply Exists.intro); refine ⟨rfl, ?_⟩)
  (refine wp_load (hpd.loadH f1 (by simp)) ?_; (repeat apply Exists.intro); refine ⟨rfl, ?_⟩)
  (refine wp_load (hpd.loadM low.var (by simp [cells20])) ?_; (repeat apply Exists.intro); refine ⟨rfl, ?_⟩)
  (refine wp_load (hpd.loadH f1 (by simp)) ?_; (repeat apply Exists.intro); refine ⟨rfl, ?_⟩)
  (refine wp_load (hpd.loadM low.var (by simp [cells20])) ?_; (repeat apply Exists.intro); refine ⟨rfl, ?_⟩)
  have e1 : IntKind.i64.wrap (x.r.id - 1) = x.r.id - 1 := wrap_i64 (by omega) (by omega)
  rw [e1]
  refine wp_idx Bo.len (by omega) hpd (Mp.le.refl _) (Low.ra hpd low (sem.mono hle1)).votes false 1 (by omega) (by omega) (by omega) fun cs hcs => ?_
  cases hcs
  ((repeat apply Exists.intro); refine ⟨rfl, ?_⟩)
  refine wp_call (most_runs hpd (st0.mono hle1) hn (asks99 (st0.mono hle1) f1 hv)) fun v3 w3 h3 => ?_
  obtain ⟨rfl, hp3⟩ := h3
  ((repeat apply Exists.intro); refine ⟨rfl, ?_⟩)
  refine wp_bif (fun h => ?_) fun h => ?_
  · (refine wp_load (hp3.loadH f1 (by simp)) ?_; (repeat apply Exists.intro); refine ⟨rfl, ?_⟩)
    refine wp_call (leads_runs hp3 (st0.mono hle1) hb hk (by omega)) fun v4 w4 h4 => ?_
    obtain ⟨rfl, h4⟩ := h4
    ((repeat apply Exists.intro); refine ⟨rfl, ?_⟩)
    refine ⟨rfl, ?_⟩
    unfold Sp.elects
    rw [if_pos h]
    exact Dd.of hle1 h4
  · refine ⟨rfl, ?_⟩
    unfold Sp.elects
    rw [if_neg (by rw [h]; simp)]
    exact ⟨H1, M, _, hp3, hle1, Adv.refl _ _, st0.mono hle1⟩
end
end Go.Proofs.Ytnbfffmdplcajaa
