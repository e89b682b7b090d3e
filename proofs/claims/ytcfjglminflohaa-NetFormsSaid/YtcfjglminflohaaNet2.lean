/- Contracts of the net's functions: Take, Drop, Put, Double. -/
import Derived.Test.YtcfjglminflohaaNet1
namespace Go.Proofs.Ytcfjglminflohaa
open Go.Vc Go.Vc.Rf

section
variable {w0 w : World} {H M : Mp}

def rest (ms : List Msg) (i : Int) : List Msg := if inr ms i = true then ms.take i.toNat ++ ms.drop (i.toNat + 1) else ms

theorem take_runs {n : Nat} {o : List Nat} {ms : List Msg} {i : Int} (hp : Hp w0 w H M) (hn : Nt H M n o ms) (hfit : Fit ms) (hm : ms.length ≤ 1000000) :
    Runs Try.prog 8 [.pointer (some ⟨n, 0, none⟩), .int .i64 i] w fun v w' => ∃ cs H' M' o', v = .tuple #[.agg cs.toArray, .int .i64 (code ms i)] ∧ Ms H' cs (getm ms i) ∧ Hp w0 w' H' M' ∧ H.le H' ∧ Adv M o M' o' ∧ Nt H' M' n o' (rest ms i) := by
  apply r8
  refine wp_new hp fun p1 w1 hp1 hM1 _ => ?_
  have hn1 := hn.put (cs := Z21) hM1
  refine wp_call (at_runs hp1 hn1 hfit) fun v2 w2 h2 => ?_
  obtain ⟨cs2, H2, rfl, hms2, hp2, hle2⟩ := h2
  obtain ⟨d1, m1, k1, d2, m2, q2, rfl, hes2, hst2⟩ := id hms2
  ((repeat apply Exists.intro); refine ⟨rfl, ?_⟩)
  refine wp_keep hp2 (by rfl) (Ms.one _ _ hms2) fun p25 w3 H3 hp3 hle3 f3 => ?_
  have hn3 := hn1.mono (hle2.trans hle3)
  have np1 : p1 ∉ o := fun h => hn.ne p1 h hM1
  refine wp_bif (fun hc => ?_) fun hc => ?_
  · have hi : inr ms i = true := by
      cases hi : inr ms i
      · simp [code, hi] at hc
      · rfl
    have hi' : 0 ≤ i ∧ i < ms.length := by simpa [inr] using hi
    obtain ⟨j, rfl⟩ : ∃ j : Nat, i = (j : Int) := ⟨i.toNat, by omega⟩
    have hj : j < ms.length := by omega
    obtain ⟨s, cells, o', e1, k2, k3, k4, k5⟩ := hn3
    subst e1
    have hl := LL.length Ms.len k5
    have hl2 := k3.1
    (refine wp_load (hp3.loadM k2 (by simp)) ?_; (repeat apply Exists.intro); refine ⟨rfl, ?_⟩)
    rw [wrap_i64 (by omega) (by omega)]
    refine wp_call (delete_runs hp3 k3 (one_of Ms.one k5) (by omega)) fun v4 w4 h4 => ?_
    obtain ⟨s', M4, rfl, hp4, ha4, ho4⟩ := h4
    ((repeat apply Exists.intro); refine ⟨rfl, ?_⟩)
    have kn : M4 n = _ := (ha4.keep n (Mp.ne_of k2) k4).trans k2
    have kp : M4 p1 = _ := (ha4.keep p1 (by rw [Mp.put_same]; simp) fun h => np1 (by simp [h])).trans (Mp.put_same _ _ _)
    have hne : p1 ≠ n := fun e => np1 (by simp [e])
    refine wp_store hp4 kn (by simp) (by simp [Value.oneCell']) fun w5 hp5 => ?_
    (refine wp_load (hp5.loadH f3 (by simp)) ?_; (repeat apply Exists.intro); refine ⟨rfl, ?_⟩)
    refine wp_store hp5 ((Mp.put_other hne).trans kp) (by simp [Z21]) (by simp [Value.oneCell']) fun w6 hp6 => ?_
    (refine wp_load (hp6.loadM (Mp.put_same _ _ _) (by simp [splice, Z21])) ?_; (repeat apply Exists.intro); refine ⟨rfl, ?_⟩)
    refine ⟨_, H3, _, n :: o', rfl, hms2.mono hle3, hp6, hle2.trans hle3, ⟨fun b hb hbo => ?_, fun b hb => .inl hb⟩, ⟨s', cells.take (j * 21) ++ cells.drop ((j + 1) * 21), o', rfl, ?_, ?_, k4, ?_⟩⟩
    · have e1 : b ≠ p1 := fun e => hb (e ▸ hM1)
      have e2 : b ≠ n := fun e => hbo (by simp [e])
      rw [Mp.put_other e1, Mp.put_other e2, ha4.keep b (by rw [Mp.put_other e1]; exact hb) fun h => hbo (by simp [h]), Mp.put_other e1]
    · rw [Mp.put_other (Ne.symm hne), Mp.put_same]; simp [splice]
    · refine ho4.frame fun b hb => ?_
      rw [Mp.put_other (fun e : b = p1 => np1 (by simp [← e, hb])), Mp.put_other (fun e : b = n => k4 (e ▸ hb))]
    · have e : rest ms (j : Int) = ms.take j ++ ms.drop (j + 1) := by unfold rest; rw [if_pos hi]; rfl
      rw [e]
      exact (LL.take Ms.len j k5).append (LL.drop Ms.len (j + 1) k5)
  · have hi : inr ms i = false := by
      cases hi : inr ms i
      · rfl
      · simp [code, hi] at hc
    (refine wp_load (hp3.loadH f3 (by simp)) ?_; (repeat apply Exists.intro); refine ⟨rfl, ?_⟩)
    refine wp_store hp3 (Mp.put_same _ _ _) (by simp) (by simp [Value.oneCell']) fun w6 hp6 => ?_
    (refine wp_load (hp6.loadM (Mp.put_same _ _ _) (by simp [splice])) ?_; (repeat apply Exists.intro); refine ⟨rfl, ?_⟩)
    refine ⟨_, H3, _, o, rfl, hms2.mono hle3, hp6, hle2.trans hle3, ⟨fun b hb hbo => ?_, fun b hb => .inl hb⟩, ?_⟩
    · have e1 : b ≠ p1 := fun e => hb (e ▸ hM1)
      rw [Mp.put_other e1, Mp.put_other e1]
    · have e : rest ms i = ms := by unfold rest; rw [if_neg (by simp [hi])]
      rw [e]
      exact hn3.frame fun b hb => Mp.put_other fun e => np1 (e ▸ hb)

theorem drop_runs {n : Nat} {o : List Nat} {ms : List Msg} {i : Int} (hp : Hp w0 w H M) (hn : Nt H M n o ms) (hfit : Fit ms) (hm : ms.length ≤ 1000000) :
    Runs Try.prog 13 [.pointer (some ⟨n, 0, none⟩), .int .i64 i] w fun v w' => v = .int .i64 (code ms i) ∧ NDid w0 H M n o (rest ms i) w' := by
  apply r13
  refine wp_call (take_runs hp hn hfit hm) fun v2 w2 h2 => ?_
  obtain ⟨cs2, H2, M2, o2, rfl, hms2, hp2, hle2, ha2, hn2⟩ := h2
  obtain ⟨d1, m1, k1, d2, m2, q2, rfl, hes2, hst2⟩ := id hms2
  ((repeat apply Exists.intro); refine ⟨rfl, ?_⟩)
  refine wp_keep hp2 (by rfl) (Ms.one _ _ hms2) fun p25 w3 H3 hp3 hle3 f3 => ?_
  exact ⟨rfl, H3, M2, o2, hp3, hle2.trans hle3, ha2, hn2.mono hle3⟩

/-- How many of 'l' find room. -/
def room (ms l : List Msg) : Nat := min l.length (400 - ms.length)

theorem put_runs {n : Nat} {o : List Nat} {ms l : List Msg} {la : Option Addr} {ln lc : Nat} (hp : Hp w0 w H M) (hn : Nt H M n o ms) (hl : Sl H (Ms H) la ln lc l) (hfit : Fit l) (hm : ms.length ≤ 1000000) (hlm : l.length ≤ 1000000) :
    Runs Try.prog 7 [.pointer (some ⟨n, 0, none⟩), .slice la ln lc] w fun v w' => v = .int .i64 (room ms l) ∧ NDid w0 H M n o (ms ++ l.take (room ms l)) w' := by
  obtain ⟨s, cells, o', e1, k2, k3, k4, k5⟩ := id hn
  have hcl := LL.length Ms.len k5
  have hcl2 := k3.1
  have hln := hl.1
  have hlc := hl.2.1
  apply r7
  (refine wp_load (hp.loadM k2 (by simp)) ?_; (repeat apply Exists.intro); refine ⟨rfl, ?_⟩)
  have hcnt : (if (if (0 : Int) > IntKind.i64.wrap (400 - (↑s.n : Int)) then 0 else IntKind.i64.wrap (400 - (↑s.n : Int))) < (↑ln : Int) then (if (0 : Int) > IntKind.i64.wrap (400 - (↑s.n : Int)) then 0 else IntKind.i64.wrap (400 - (↑s.n : Int))) else (↑ln : Int)) = (room ms l : Nat) := by
    rw [wrap_i64 (by omega) (by omega)]
    unfold room
    split <;> split <;> omega
  simp only [hcnt, Int.toNat_natCast, Nat.sub_zero]
  have hr : room ms l ≤ l.length := Nat.min_le_left _ _
  have ela : (if lc = 0 then la else Option.map (fun x => x) la) = la := by simp
  rw [ela]
  refine ⟨⟨by omega, by omega⟩, fun vs w' => ∃ k : Nat, vs = [.int .i64 k] ∧ k ≤ room ms l ∧ NDid w0 H M n o (ms ++ l.take k) w', fun vs _ => match vs with | [.int _ q] => room ms l - q.toNat | _ => 0, ⟨0, rfl, Nat.zero_le _, H, M, o, hp, Mp.le.refl _, Adv.refl _ _, by simpa using hn⟩, ?_⟩
  rintro vs w1 ⟨k, rfl, hk, H1, M1, o1, hp1, hle1, ha1, hn1⟩
  refine ⟨_, rfl, wp_bif (fun h => ?_) fun h => ?_⟩
  · have hkr : k < room ms l := by simpa using h
    obtain ⟨b, o2, cs, ha, hcs, hat⟩ := Sl.elem Ms.len hl hp (List.getElem?_eq_getElem (show k < l.length by omega)) (by omega)
    have hat1 := hat _ _ (hp1.lessH hle1) 0 21 (by omega)
    have hlen := Ms.len _ _ hcs
    rw [Nat.add_zero, List.drop_zero, List.take_of_length_le (by omega)] at hat1
    refine ⟨_, ha, ⟨by omega, by omega⟩, ?_⟩
    simp only [add_mk]
    obtain ⟨a1, n1, c1, a2, n2, c2, rfl, hes, hst⟩ := id hcs
    (refine wp_load (hat1) ?_; (repeat apply Exists.intro); refine ⟨rfl, ?_⟩)
    refine wp_keep hp1 (by rfl) (Ms.one _ _ hcs) fun p28 w2 H2 hp2 hle2 f2 => ?_
    have hpd := hp2.drew
    obtain ⟨s1, cells1, o1', rfl, g2, g3, g4, g5⟩ := hn1.mono hle2
    have hcl1 := LL.length Ms.len g5
    have hcl3 := g3.1
    have hlk : (ms ++ l.take k).length = ms.length + k := by simp; omega
    (refine wp_load (hpd.loadM g2 (by simp)) ?_; (repeat apply Exists.intro); refine ⟨rfl, ?_⟩)
    (refine wp_load (hpd.loadH f2 (by simp)) ?_; (repeat apply Exists.intro); refine ⟨rfl, ?_⟩)
    refine wp_call (own_runs hpd (hcs.mono (hle1.trans hle2)) (hfit _ (List.getElem_mem _))) fun v3 w3 h3 => ?_
    obtain ⟨cs3, H3, rfl, hp3, hle3, hms3⟩ := h3
    obtain ⟨d1, m1, k1, d2, m2, q2, rfl, hes3, hst3⟩ := id hms3
    ((repeat apply Exists.intro); refine ⟨rfl, ?_⟩)
    refine ⟨fun h hh => ?_, ?_⟩
    · simp only [List.mem_singleton] at hh
      subst hh
      exact hp3.loadM g2 (by simp)
    refine wp_newH hp3 fun p75 w4 H4 hp4 hle4 f4 => ?_
    refine wp_append hp4 g3 rfl (m := 1) (hp4.read1 f4 rfl) rfl (Ms.one _ _ hms3) (by omega) (by omega) fun s' M' o' w5 hp5 ho5 hn5 ha5 => ?_
    have nk : M' n = _ := (ha5.keep n (by rw [g2]; simp) g4).trans g2
    refine wp_store hp5 nk (by simp) (by simp [Value.oneCell']) fun w6 hp6 => ?_
    have hno : n ∉ o' := fun h => by
      rcases ha5.fresh n h with e | e
      · exact g4 e
      · rw [g2] at e; cases e
    have hF : ∃ cF, Own M' 21 s' cF o' ∧ LL (Ms H4) cF (ms ++ l.take (k + 1)) := by
      refine ⟨_, ho5, ?_⟩
      rw [List.take_succ_eq_append_getElem (by omega), ← List.append_assoc]
      exact (g5.mono (Ms.mono (hle3.trans hle4))).append (LL.one (hms3.mono hle4))
    obtain ⟨cF, hoF, hlF⟩ := hF
    refine ⟨⟨k + 1, ?_, by omega, H4, _, n :: o', hp6, ((hle1.trans hle2).trans hle3).trans hle4, ha1.trans ((Adv.more ha5).trans ⟨fun b _ hbo => Mp.put_other fun e => hbo (by simp [e]), fun b hb => .inl hb⟩), s', cF, o', rfl, ?_, ?_, hno, hlF⟩, ?_⟩
    · rw [wrap_i64 (by omega) (by omega)]; rfl
    · rw [Mp.put_same]; simp [splice]
    · exact hoF.frame fun b hb => Mp.put_other fun e => hno (e ▸ hb)
    · show room ms l - (IntKind.i64.wrap ((k : Int) + 1)).toNat < room ms l - (k : Int).toNat
      rw [wrap_i64 (by omega) (by omega)]; omega
  · have hkr : k = room ms l := by
      have : ¬ ((k : Int) < (room ms l : Nat)) := by simpa using h
      omega
    subst hkr
    exact ⟨rfl, H1, M1, o1, hp1, hle1, ha1, hn1⟩

/-- What Double tells. -/
def dcode (ms : List Msg) (i : Int) : Int := if inr ms i = true then (if 400 ≤ ms.length then 12 else 0) else 10
def dbl (ms : List Msg) (i : Int) : List Msg := if inr ms i = true ∧ ms.length < 400 then ms ++ [getm ms i] else ms

theorem double_runs {n : Nat} {o : List Nat} {ms : List Msg} {i : Int} (hp : Hp w0 w H M) (hn : Nt H M n o ms) (hfit : Fit ms) (hm : ms.length ≤ 1000000) :
    Runs Try.prog 12 [.pointer (some ⟨n, 0, none⟩), .int .i64 i] w fun v w' => v = .int .i64 (dcode ms i) ∧ NDid w0 H M n o (dbl ms i) w' := by
  apply r12
  refine wp_call (at_runs hp hn hfit) fun v2 w2 h2 => ?_
  obtain ⟨cs2, H2, rfl, hms2, hp2, hle2⟩ := h2
  obtain ⟨d1, m1, k1, d2, m2, q2, rfl, hes2, hst2⟩ := id hms2
  ((repeat apply Exists.intro); refine ⟨rfl, ?_⟩)
  refine wp_keep hp2 (by rfl) (Ms.one _ _ hms2) fun p24 w3 H3 hp3 hle3 f3 => ?_
  have hn3 := hn.mono (hle2.trans hle3)
  refine wp_bif (fun hc => ?_) fun hc => ?_
  · have hi : inr ms i = true := by
      cases hi : inr ms i
      · simp [code, hi] at hc
      · rfl
    have hi' : 0 ≤ i ∧ i < ms.length := by simpa [inr] using hi
    (refine wp_load (hp3.loadH f3 (by simp)) ?_; (repeat apply Exists.intro); refine ⟨rfl, ?_⟩)
    refine wp_newH hp3 fun p47 w4 H4 hp4 hle4 f4 => ?_
    have hfg : Fit [getm ms i] := fun x hx => by
      rw [List.mem_singleton] at hx
      subst hx
      unfold getm
      rw [if_pos hi, List.getD_eq_getElem?_getD, List.getElem?_eq_getElem (show i.toNat < ms.length by omega)]
      exact hfit _ (List.getElem_mem _)
    refine wp_call (put_runs (l := [getm ms i]) hp4 (hn3.mono hle4) ⟨rfl, Nat.le_refl _, _, .inr ⟨p47, 0, _, rfl, f4, rfl⟩, LL.one (hms2.mono (hle3.trans hle4))⟩ hfg hm (by simp)) fun v5 w5 h5 => ?_
    obtain ⟨rfl, H5, M5, o5, hp5, hle5, ha5, hn5⟩ := h5
    ((repeat apply Exists.intro); refine ⟨rfl, ?_⟩)
    have hcode : code ms i = 0 := by simp [code, hi]
    refine wp_bif (fun hr => ?_) fun hr => ?_
    · have hr' : room ms [getm ms i] = 0 := by simpa using hr
      have hfull : 400 ≤ ms.length := by simp [room] at hr'; omega
      refine ⟨by simp [dcode, hi, hfull], H5, M5, o5, hp5, ((hle2.trans hle3).trans hle4).trans hle5, ha5, ?_⟩
      rw [hr'] at hn5
      have e : dbl ms i = ms := by unfold dbl; rw [if_neg (by omega)]
      rw [e]
      simpa using hn5
    · have hr' : room ms [getm ms i] = 1 := by
        have : ¬ room ms [getm ms i] = 0 := by simpa using hr
        have h2 : room ms [getm ms i] ≤ 1 := Nat.min_le_left _ _
        omega
      have hfull : ms.length < 400 := by simp [room] at hr'; omega
      refine ⟨by rw [hcode]; simp [dcode, hi, Nat.not_le.2 hfull], H5, M5, o5, hp5, ((hle2.trans hle3).trans hle4).trans hle5, ha5, ?_⟩
      rw [hr'] at hn5
      have e : dbl ms i = ms ++ [getm ms i] := by unfold dbl; rw [if_pos ⟨hi, hfull⟩]
      rw [e]
      simpa using hn5
  · have hi : inr ms i = false := by
      cases hi : inr ms i
      · rfl
      · simp [code, hi] at hc
    refine ⟨by simp [dcode, code, hi], H3, M, o, hp3, hle2.trans hle3, Adv.refl _ _, ?_⟩
    have e : dbl ms i = ms := by unfold dbl; rw [if_neg (by simp [hi])]
    rw [e]
    exact hn3
end
end Go.Proofs.Ytcfjglminflohaa
