/- The net does what it should: begun, NetOrder. -/
import Derived.Test.YtcfjglminflohaaNet2
namespace Go.Proofs.Ytcfjglminflohaa
open Go.Vc Go.Vc.Rf

section
variable {w0 w : World} {H M : Mp}

def mk (k : Int) : Msg := { Msg.none with kind := k }
theorem mk_Ms (k : Int) : Ms H [.int .i64 k, .int .i64 0, .int .i64 0, .int .u64 0, .int .u64 0, .int .u64 0, .slice none 0 0, .int .u64 0, .int .u64 0, .bool false, .int .u64 0, .int .u64 0, .slice none 0 0, .int .i64 0, .int .i64 0, .int .u64 0, .string .empty, .string .empty, .int .u64 0, .int .i64 0, .string .empty] (mk k) :=
  ⟨none, 0, 0, none, 0, 0, rfl, Sl.nil _ _, Bs.nil _⟩

theorem fit_mk2 (a b : Int) : Fit [mk a, mk b] := by intro x hx; simp at hx; rcases hx with rfl | rfl <;> simp [mk, Msg.none]
theorem fit_mk1 (a : Int) : Fit [mk a] := by intro x hx; simp at hx; subst hx; simp [mk, Msg.none]

theorem begun_runs (hp : Hp w0 w H M) : Runs Try.prog 5 [] w fun v w' => v = .bool true ∧ Hp w0 w' H M := by
  apply r5
  refine wp_call (new_runs hp) fun v1 w1 h1 => ?_
  obtain ⟨n, M1, rfl, hp1, ha1, hn1⟩ := h1
  ((repeat apply Exists.intro); refine ⟨rfl, ?_⟩)
  refine wp_newH hp1 fun p3 w2 H2 hp2 hle2 f2 => ?_
  refine wp_call (put_runs (l := [mk 1, mk 2]) hp2 (hn1.mono hle2) ⟨rfl, Nat.le_refl _, _, .inr ⟨p3, 0, _, rfl, f2, rfl⟩, LL.append (LL.one (mk_Ms 1)) (LL.one (mk_Ms 2))⟩ (fit_mk2 1 2) (by simp) (by simp)) fun v3 w3 h3 => ?_
  obtain ⟨rfl, H3, M3, o3, hp3, hle3, ha3, hn3⟩ := h3
  ((repeat apply Exists.intro); refine ⟨rfl, ?_⟩)
  refine wp_call (len_runs hp3 hn3) fun v4 w4 h4 => ?_
  obtain ⟨rfl, hp4⟩ := h4
  ((repeat apply Exists.intro); refine ⟨rfl, ?_⟩)
  refine wp_call (take_runs (i := 0) hp4 hn3 (fit_mk2 1 2) (by simp [room])) fun v5 w5 h5 => ?_
  obtain ⟨cs5, H5, M5, o5, rfl, hms5, hp5, hle5, ha5, hn5⟩ := h5
  obtain ⟨d1, m1, k1, d2, m2, q2, rfl, hes5, hst5⟩ := id hms5
  ((repeat apply Exists.intro); refine ⟨rfl, ?_⟩)
  refine wp_keep hp5 (by rfl) (Ms.one _ _ hms5) fun p31 w6 H6 hp6 hle6 f6 => ?_
  refine wp_call (at_runs (i := 0) hp6 (hn5.mono hle6) (fit_mk1 2)) fun v7 w7 h7 => ?_
  obtain ⟨cs7, H7, rfl, hms7, hp7, hle7⟩ := h7
  obtain ⟨d1', m1', k1', d2', m2', q2', rfl, hes7, hst7⟩ := id hms7
  ((repeat apply Exists.intro); refine ⟨rfl, ?_⟩)
  refine wp_keep hp7 (by rfl) (Ms.one _ _ hms7) fun p55 w8 H8 hp8 hle8 f8 => ?_
  (refine wp_load (hp8.loadH (hle8 _ _ (hle7 _ _ f6)) (by simp)) ?_; (repeat apply Exists.intro); refine ⟨rfl, ?_⟩)
  (refine wp_load (hp8.loadH f8 (by simp)) ?_; (repeat apply Exists.intro); refine ⟨rfl, ?_⟩)
  refine wp_call (double_runs (i := 0) hp8 (hn5.mono ((hle6.trans hle7).trans hle8)) (fit_mk1 2) (by decide)) fun v9 w9 h9 => ?_
  obtain ⟨rfl, H9, M9, o9, hp9, hle9, ha9, hn9⟩ := h9
  ((repeat apply Exists.intro); refine ⟨rfl, ?_⟩)
  refine wp_call (drop_runs (i := 1) hp9 hn9 (fit_mk2 2 2) (by decide)) fun v10 w10 h10 => ?_
  obtain ⟨rfl, H10, M10, o10, hp10, hle10, ha10, hn10⟩ := h10
  ((repeat apply Exists.intro); refine ⟨rfl, ?_⟩)
  refine wp_call (drop_runs (i := 1) hp10 hn10 (fit_mk1 2) (by decide)) fun v11 w11 h11 => ?_
  obtain ⟨rfl, H11, M11, o11, hp11, hle11, ha11, hn11⟩ := h11
  ((repeat apply Exists.intro); refine ⟨rfl, ?_⟩)
  exact ⟨rfl, hp11.back (((((((hle2.trans hle3).trans hle5).trans hle6).trans hle7).trans hle8).trans hle9).trans (hle10.trans hle11)) (((((ha1.trans ha3).trans ha5).trans ha9).trans ha10).trans ha11)⟩

theorem order_runs {l : List Msg} {la : Option Addr} {ln lc : Nat} {cut : Int} (hp : Hp w0 w H M) (hl : Sl H (Ms H) la ln lc l) (hfit : Fit l) (hlm : l.length ≤ 1000000000000) (h0 : 0 ≤ cut) (h1 : cut ≤ 255) :
    Runs Try.prog 3 [.slice la ln lc, .int .u8 cut] w fun v w' => v = .bool true ∧ Hp w0 w' H M := by
  have hln := hl.1
  have hlc := hl.2.1
  apply r3
  refine wp_call (begun_runs hp) fun v1 w1 h1 => ?_
  obtain ⟨rfl, hp1⟩ := h1
  ((repeat apply Exists.intro); refine ⟨rfl, ?_⟩)
  refine wp_bif (fun h => (by cases h)) fun _ => wp_bif (fun _ => ⟨rfl, hp1⟩) fun hle => ?_
  have hle' : ln ≤ 30 := by simp at hle; omega
  obtain ⟨k, hk, hkl⟩ : ∃ k : Nat, (IntKind.i64.wrap cut).tmod (IntKind.i64.wrap ((↑ln : Int) + 1)) = (k : Int) ∧ k ≤ ln := by
    rw [wrap_i64 (by omega) (by omega), wrap_i64 (by omega) (by omega)]
    have h2 := Int.tmod_nonneg ((ln : Int) + 1) h0
    have h3 := Int.tmod_lt_of_pos cut (show (0 : Int) < (ln : Int) + 1 by omega)
    exact ⟨(cut.tmod ((ln : Int) + 1)).toNat, by omega, by omega⟩
  refine wp_call (new_runs hp1) fun v2 w2 h2 => ?_
  obtain ⟨n, M2, rfl, hp2, ha2, hn2⟩ := h2
  ((repeat apply Exists.intro); refine ⟨rfl, ?_⟩)
  simp only [hk, Int.toNat_natCast, Nat.sub_zero]
  refine ⟨by rw [wrap_i64 (by omega) (by omega)]; omega, ⟨by omega, by omega⟩, ?_⟩
  have ela : (if lc = 0 then la else Option.map (fun x => x) la) = la := by simp
  rw [ela]
  have hr2 : room [] (l.take k) = k := by unfold room; simp; omega
  refine wp_call (put_runs hp2 hn2 (Sl.take Ms.len hl hkl) (fun x hx => hfit x (List.mem_of_mem_take hx)) (by simp) (by simp; omega)) fun v3 w3 h3 => ?_
  obtain ⟨rfl, H3, M3, o3, hp3, hle3, ha3, hn3⟩ := h3
  ((repeat apply Exists.intro); refine ⟨rfl, ?_⟩)
  rw [hr2] at hn3 ⊢
  refine wp_bif (fun h => by simp at h) fun _ => ?_
  refine ⟨⟨by omega, by omega⟩, ?_⟩
  rw [List.nil_append, List.take_take, Nat.min_self] at hn3
  have hr3 : room (l.take k) (l.drop k) = ln - k := by unfold room; simp; omega
  refine wp_call (put_runs hp3 hn3 (Sl.mono hle3 (Ms.mono hle3) (Sl.drop Ms.len hl)) (fun x hx => hfit x (List.mem_of_mem_drop hx)) (by simp; omega) (by simp; omega)) fun v4 w4 h4 => ?_
  obtain ⟨rfl, H4, M4, o4, hp4, hle4, ha4, hn4⟩ := h4
  ((repeat apply Exists.intro); refine ⟨rfl, ?_⟩)
  rw [hr3] at hn4 ⊢
  refine wp_bif (fun h => ?_) fun _ => ?_
  · rw [wrap_i64 (by omega) (by omega)] at h
    simp at h
    omega
  rw [List.take_of_length_le (l := l.drop k) (by rw [List.length_drop]; omega), List.take_append_drop] at hn4
  refine wp_call (put_runs (l := []) hp4 hn4 (Sl.nil _ _) (fun x hx => (by cases hx)) (by omega) (by simp)) fun v5 w5 h5 => ?_
  obtain ⟨rfl, H5, M5, o5, hp5, hle5, ha5, hn5⟩ := h5
  ((repeat apply Exists.intro); refine ⟨rfl, ?_⟩)
  refine wp_bif (fun h => by simp [room] at h) fun _ => ?_
  rw [List.take_nil, List.append_nil] at hn5
  refine ⟨fun vs w' => ∃ j : Nat, vs = [.int .i64 j] ∧ j ≤ ln ∧ ∃ H' M' o', Hp w0 w' H' M' ∧ H.le H' ∧ Adv M [] M' o' ∧ Nt H' M' n o' (l.drop j), fun vs _ => match vs with | [.int _ q] => ln - q.toNat | _ => 0,
    ⟨0, rfl, Nat.zero_le _, H5, M5, o5, hp5, (hle3.trans hle4).trans hle5, ((ha2.trans ha3).trans ha4).trans ha5, hn5⟩, ?_⟩
  rintro vs w6 ⟨j, rfl, hj, H6, M6, o6, hp6, hle6, ha6, hn6⟩
  refine ⟨_, rfl, wp_bif (fun h => ?_) fun h => ?_⟩
  · have hjl : j < l.length := by simp at h; omega
    have hi : inr (l.drop j) 0 = true := by simp [inr]; omega
    refine wp_call (take_runs (i := 0) hp6 hn6 (fun x hx => hfit x (List.mem_of_mem_drop hx)) (by simp; omega)) fun v7 w7 h7 => ?_
    obtain ⟨cs7, H7, M7, o7, rfl, hms7, hp7, hle7, ha7, hn7⟩ := h7
    have e1 : getm (l.drop j) 0 = l[j] := by
      unfold getm
      rw [if_pos hi, List.getD_eq_getElem?_getD]
      simp [List.getElem?_eq_getElem hjl]
    have e2 : rest (l.drop j) 0 = l.drop (j + 1) := by
      unfold rest
      rw [if_pos hi]
      simp
    have e3 : code (l.drop j) 0 = 0 := by simp [code, hi]
    rw [e1] at hms7
    rw [e2] at hn7
    rw [e3]
    obtain ⟨d1, m1, k1, d2, m2, q2, rfl, hes7, hst7⟩ := id hms7
    ((repeat apply Exists.intro); refine ⟨rfl, ?_⟩)
    refine wp_keep hp7 (by rfl) (Ms.one _ _ hms7) fun p36 w8 H8 hp8 hle8 f8 => ?_
    have hpd := hp8.drew
    refine wp_bif (fun h => by simp at h) fun _ => ?_
    (refine wp_load (hpd.loadH f8 (by simp)) ?_; (repeat apply Exists.intro); refine ⟨rfl, ?_⟩)
    obtain ⟨b, o2, cs, ha, hcs, hat⟩ := Sl.elem Ms.len hl hp (List.getElem?_eq_getElem hjl) (by omega)
    have hat1 := hat _ _ (hpd.lessH ((hle6.trans hle7).trans hle8)) 0 21 (by omega)
    have hlen := Ms.len _ _ hcs
    rw [Nat.add_zero, List.drop_zero, List.take_of_length_le (by omega)] at hat1
    refine ⟨_, ha, ⟨by omega, by omega⟩, ?_⟩
    simp only [add_mk, Int.toNat_natCast]
    obtain ⟨a1, n1, c1, a2, n2, c2, rfl, hes, hst⟩ := id hcs
    (refine wp_load (hat1) ?_; (repeat apply Exists.intro); refine ⟨rfl, ?_⟩)
    refine wp_call (sameMsg hpd (hms7.mono hle8) (hcs.mono ((hle6.trans hle7).trans hle8)) (hfit _ (List.getElem_mem _))) fun v9 w9 h9 => ?_
    obtain ⟨b9, rfl, i9, hp9⟩ := h9
    rw [i9.2 rfl]
    ((repeat apply Exists.intro); refine ⟨rfl, ?_⟩)
    refine wp_bif (fun h => by cases h) fun _ => ?_
    refine ⟨⟨j + 1, ?_, by omega, H8, M7, o7, hp9, (hle6.trans hle7).trans hle8, ha6.trans ha7, hn7.mono hle8⟩, ?_⟩
    · rw [wrap_i64 (by omega) (by omega)]; rfl
    · show ln - (IntKind.i64.wrap ((j : Int) + 1)).toNat < ln - (j : Int).toNat
      rw [wrap_i64 (by omega) (by omega)]; omega
  · have hjl : l.drop j = [] := List.drop_eq_nil_of_le (by simp at h; omega)
    refine wp_call (len_runs hp6 hn6) fun v7 w7 h7 => ?_
    obtain ⟨rfl, hp7⟩ := h7
    ((repeat apply Exists.intro); refine ⟨rfl, ?_⟩)
    rw [hjl]
    exact ⟨rfl, hp7.back hle6 ha6⟩
end
end Go.Proofs.Ytcfjglminflohaa
