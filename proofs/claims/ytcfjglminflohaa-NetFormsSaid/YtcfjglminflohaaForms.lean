/- NetForms' walk: how many letters there may be. -/
import Derived.Test.YtcfjglminflohaaNet3
import Derived.Test.YtcfjglminflohaaTreeF
namespace Go.Proofs.Ytcfjglminflohaa
open Go.Vc Go.Vc.Rf

section
variable {w0 w : World} {H M : Mp}

/-- A letter of the statement's own. -/
def mi (k : Int) (i : Int) : Msg := { Msg.none with kind := k, index := i }
def mcells (k : Int) (i : Int) : List Value := [.int .i64 k, .int .i64 0, .int .i64 0, .int .u64 0, .int .u64 i, .int .u64 0, .slice none 0 0, .int .u64 0, .int .u64 0, .bool false, .int .u64 0, .int .u64 0, .slice none 0 0, .int .i64 0, .int .i64 0, .int .u64 0, .string .empty, .string .empty, .int .u64 0, .int .i64 0, .string .empty]
theorem mi_Ms (k i : Int) : Ms H (mcells k i) (mi k i) := ⟨none, 0, 0, none, 0, 0, rfl, Sl.nil _ _, Bs.nil _⟩

def first (m : Nat) : List Msg := (List.range m).map fun i : Nat => mi 1 i

theorem zeros_length (z : List Value) (n : Nat) : (zeros z n).toList.length = n * z.length := by
  rw [Array.length_toList]; exact length_zeros

theorem fit_first (m : Nat) : Fit (first m) := by
  intro x hx
  simp [first] at hx
  obtain ⟨a, _, rfl⟩ := hx
  simp [mi, Msg.none]

theorem wrap_u64 {x : Int} (h0 : 0 ≤ x) (h1 : x ≤ 18446744073709551615) : IntKind.u64.wrap x = x := by rw [IntKind.wrap_u64]; omega

set_option maxRecDepth 100000 in
theorem forms_runs (hp : Hp w0 w H M) : Runs Try.prog 4 [] w fun v w' => v = .bool true ∧ Hp w0 w' H M := by
  apply r4
  refine wp_call (begun_runs hp) fun v1 w1 h1 => ?_
  obtain ⟨rfl, hp1⟩ := h1
  ((repeat apply Exists.intro); refine ⟨rfl, ?_⟩)
  refine wp_bif (fun h => (by cases h)) fun _ => ?_
  refine wp_call (new_runs hp1) fun v2 w2 h2 => ?_
  obtain ⟨n, M2, rfl, hp2, ha2, hn2⟩ := h2
  ((repeat apply Exists.intro); refine ⟨rfl, ?_⟩)
  refine ⟨rfl, by omega, by omega, by omega, ?_⟩
  have hp3 := hp2.alloc (zeros Z21 399).toList 38
  have hf := hp2.fresh
  generalize hp5 : w2.heap.size = p5 at hp3 hf
  have hn3 := hn2.put (cs := (zeros Z21 399).toList) hf.2
  have hz : (zeros Z21 399).toList.length = 399 * 21 := by rw [zeros_length]; rfl
  refine ⟨fun vs w' => ∃ k : Nat, vs = [.int .i64 k] ∧ k ≤ 399 ∧ ∃ cs, Hp w0 w' H (M2.put p5 cs) ∧ cs.length = 399 * 21 ∧ LL (Ms H) (cs.take (k * 21)) (first k), fun vs _ => match vs with | [.int _ q] => 399 - q.toNat | _ => 0,
    ⟨0, rfl, Nat.zero_le _, (zeros Z21 399).toList, ?_, hz, by rw [Nat.zero_mul, List.take_zero]; rfl⟩, ?_⟩
  · rw [Array.toArray_toList] at hp3
    exact hp3
  rintro vs w4 ⟨k, rfl, hk, cs, hp4, hcs, hll⟩
  refine ⟨_, rfl, wp_bif (fun h => ?_) fun h => ?_⟩
  · have hk2 : k < 399 := by simp at h; omega
    refine ⟨_, rfl, ⟨by omega, by simp; omega⟩, ?_⟩
    simp only [add_mk, Int.toNat_natCast, Nat.zero_add]
    refine wp_store hp4 (Mp.put_same _ _ _) (by simp; omega) (by simp [Value.oneCell']) fun w5 hp5' => ?_
    have e : ∀ c : List Value, (M2.put p5 cs).put p5 c = M2.put p5 c := fun c => by
      funext x
      by_cases hx : x = p5
      · subst hx; simp
      · rw [Mp.put_other hx, Mp.put_other hx, Mp.put_other hx]
    rw [e, wrap_u64 (by omega) (by omega)] at hp5'
    refine ⟨⟨k + 1, ?_, hk2, _, hp5', ?_, ?_⟩, ?_⟩
    · rw [wrap_i64 (by omega) (by omega)]; rfl
    · rw [splice_length (by simp; omega)]; exact hcs
    · have e1 : first (k + 1) = first k ++ [mi 1 k] := by simp [first, List.range_succ]
      rw [e1]
      unfold splice
      rw [show (k + 1) * 21 = k * 21 + 21 by omega, List.append_assoc, List.take_append, List.take_of_length_le (by simp; omega)]
      refine hll.append ?_
      rw [show k * 21 + 21 - (cs.take (k * 21)).length = 21 by simp; omega]
      exact LL.one (mi_Ms 1 k)
    · show 399 - (IntKind.i64.wrap ((k : Int) + 1)).toNat < 399 - (k : Int).toNat
      rw [wrap_i64 (by omega) (by omega)]; omega
  · have hk2 : k = 399 := by simp at h; omega
    subst hk2
    rw [List.take_of_length_le (by omega)] at hll
    have hp5' := hp4.freeze [p5]
    have e1 : (M2.put p5 cs).thaw [p5] = M2 := by
      funext x
      by_cases hx : x = p5
      · subst hx; simp [Mp.thaw, hf.2]
      · simp [Mp.thaw, Mp.put, hx]
    have e2 : (H.froz (M2.put p5 cs) [p5]) p5 = some cs := by simp [Mp.froz]
    have hle := hp4.froz_le [p5]
    rw [e1] at hp5'
    generalize H.froz (M2.put p5 cs) [p5] = H5 at hp5' e2 hle
    have hn5 := hn2.mono hle
    have hlen : (first 399).length = 399 := by simp [first]
    refine wp_call (put_runs (l := first 399) hp5' hn5 ⟨hlen.symm, Nat.le_refl _, cs, .inr ⟨p5, 0, cs, rfl, e2, by simp⟩, hll.mono (Ms.mono hle)⟩ (fit_first _) (by simp) (by rw [hlen]; omega)) fun v6 w6 h6 => ?_
    obtain ⟨rfl, H6, M6, o6, hp6, hle6, ha6, hn6⟩ := h6
    have hr6 : room [] (first 399) = 399 := by simp [room, hlen]
    rw [hr6, List.nil_append, List.take_of_length_le (by omega)] at hn6
    rw [hr6]
    ((repeat apply Exists.intro); refine ⟨rfl, ?_⟩)
    refine wp_newH hp6 fun p11 w7 H7 hp7 hle7 f7 => ?_
    refine wp_call (put_runs (l := [mk 2, mk 3, mk 4]) hp7 (hn6.mono hle7) ⟨rfl, Nat.le_refl _, _, .inr ⟨p11, 0, _, rfl, f7, rfl⟩, LL.append (LL.one (mk_Ms 2)) (LL.append (LL.one (mk_Ms 3)) (LL.one (mk_Ms 4)))⟩ (by
      intro x hx; simp at hx; rcases hx with rfl | rfl | rfl <;> simp [mk, Msg.none]) (by rw [hlen]; omega) (by simp)) fun v8 w8 h8 => ?_
    obtain ⟨rfl, H8, M8, o8, hp8, hle8, ha8, hn8⟩ := h8
    have hr8 : room (first 399) [mk 2, mk 3, mk 4] = 1 := by simp [room, hlen]
    rw [hr8] at hn8
    rw [hr8]
    ((repeat apply Exists.intro); refine ⟨rfl, ?_⟩)
    simp only [List.take_succ_cons, List.take_zero] at hn8
    have hl8 : (first 399 ++ [mk 2]).length = 400 := by simp [first]
    have hfit8 : Fit (first 399 ++ [mk 2]) := by
      intro x hx
      rcases List.mem_append.1 hx with h | h
      · exact fit_first _ x h
      · exact fit_mk1 2 x h
    have hc8 : ∀ i : Int, 0 ≤ i → i < 400 → inr (first 399 ++ [mk 2]) i = true := fun i h0 h1 => by simp only [inr, hl8]; simp; omega
    refine wp_call (at_runs (i := 399) hp8 hn8 hfit8) fun v9 w9 h9 => ?_
    obtain ⟨cs9, H9, rfl, hms9, hp9, hle9⟩ := h9
    have hg9 : getm (first 399 ++ [mk 2]) 399 = mk 2 := by
      unfold getm
      rw [if_pos (hc8 399 (by omega) (by omega)), List.getD_eq_getElem?_getD, List.getElem?_append_right (by rw [hlen]; decide), hlen]
      rfl
    rw [hg9] at hms9
    obtain ⟨d1, m1, k1, d2, m2, q2, rfl, _, _⟩ := id hms9
    ((repeat apply Exists.intro); refine ⟨rfl, ?_⟩)
    refine wp_keep hp9 (by rfl) (Ms.one _ _ hms9) fun p37 w10 H10 hp10 hle10 f10 => ?_
    refine wp_call (double_runs (i := 0) hp10 (hn8.mono (hle9.trans hle10)) hfit8 (by omega)) fun v11 w11 h11 => ?_
    obtain ⟨rfl, H11, M11, o11, hp11, hle11, ha11, hn11⟩ := h11
    have hd11 : dbl (first 399 ++ [mk 2]) 0 = first 399 ++ [mk 2] := by unfold dbl; rw [if_neg (by rw [hl8]; omega)]
    rw [hd11] at hn11
    ((repeat apply Exists.intro); refine ⟨rfl, ?_⟩)
    refine wp_call (drop_runs (i := 0) hp11 hn11 hfit8 (by omega)) fun v12 w12 h12 => ?_
    obtain ⟨rfl, H12, M12, o12, hp12, hle12, ha12, hn12⟩ := h12
    have hr12 : rest (first 399 ++ [mk 2]) 0 = (first 399 ++ [mk 2]).drop 1 := by unfold rest; rw [if_pos (hc8 0 (by omega) (by omega))]; simp
    rw [hr12] at hn12
    ((repeat apply Exists.intro); refine ⟨rfl, ?_⟩)
    have hl12 : ((first 399 ++ [mk 2]).drop 1).length = 399 := by rw [List.length_drop, hl8]
    have hfit12 : Fit ((first 399 ++ [mk 2]).drop 1) := fun x hx => hfit8 x (List.mem_of_mem_drop hx)
    have hc12 : inr ((first 399 ++ [mk 2]).drop 1) 0 = true := by simp only [inr, hl12]; decide
    refine wp_call (double_runs (i := 0) hp12 hn12 hfit12 (by omega)) fun v13 w13 h13 => ?_
    obtain ⟨rfl, H13, M13, o13, hp13, hle13, ha13, hn13⟩ := h13
    have hg13 : getm ((first 399 ++ [mk 2]).drop 1) 0 = mi 1 1 := by
      unfold getm
      rw [if_pos hc12, List.getD_eq_getElem?_getD, List.getElem?_drop, List.getElem?_append_left (by rw [hlen]; decide)]
      simp [first]
    have hd13 : dbl ((first 399 ++ [mk 2]).drop 1) 0 = (first 399 ++ [mk 2]).drop 1 ++ [mi 1 1] := by
      unfold dbl
      rw [if_pos ⟨hc12, by rw [hl12]; omega⟩, hg13]
    rw [hd13] at hn13
    ((repeat apply Exists.intro); refine ⟨rfl, ?_⟩)
    have hl13 : ((first 399 ++ [mk 2]).drop 1 ++ [mi 1 1]).length = 400 := by rw [List.length_append, hl12]; rfl
    have hfit13 : Fit ((first 399 ++ [mk 2]).drop 1 ++ [mi 1 1]) := by
      intro x hx
      rcases List.mem_append.1 hx with h | h
      · exact hfit12 x h
      · simp at h; subst h; simp [mi, Msg.none]
    have hc13 : inr ((first 399 ++ [mk 2]).drop 1 ++ [mi 1 1]) 399 = true := by simp only [inr, hl13]; decide
    refine wp_call (take_runs (i := 399) hp13 hn13 hfit13 (by omega)) fun v14 w14 h14 => ?_
    obtain ⟨cs14, H14, M14, o14, rfl, hms14, hp14, hle14, ha14, hn14⟩ := h14
    have hg14 : getm ((first 399 ++ [mk 2]).drop 1 ++ [mi 1 1]) 399 = mi 1 1 := by
      unfold getm
      rw [if_pos hc13, List.getD_eq_getElem?_getD, List.getElem?_append_right (by rw [hl12]; decide), hl12]
      rfl
    rw [hg14] at hms14
    obtain ⟨b1, b2, b3, b4, b5, b6, rfl, _, _⟩ := id hms14
    ((repeat apply Exists.intro); refine ⟨rfl, ?_⟩)
    refine wp_keep hp14 (by rfl) (Ms.one _ _ hms14) fun p67 w15 H15 hp15 hle15 f15 => ?_
    have c9 : code (first 399 ++ [mk 2]) 399 = 0 := by simp [code, hc8 399 (by omega) (by omega)]
    have c11 : dcode (first 399 ++ [mk 2]) 0 = 12 := by unfold dcode; rw [if_pos (hc8 0 (by omega) (by omega)), if_pos (by omega)]
    have c12 : code (first 399 ++ [mk 2]) 0 = 0 := by simp [code, hc8 0 (by omega) (by omega)]
    have c13 : dcode ((first 399 ++ [mk 2]).drop 1) 0 = 0 := by unfold dcode; rw [if_pos hc12, if_neg (by omega)]
    have c14 : code ((first 399 ++ [mk 2]).drop 1 ++ [mi 1 1]) 399 = 0 := by unfold code; rw [if_pos hc13]
    rw [c9, c11, c12, c13, c14]
    (refine wp_load (hp15.loadH (hle15 _ _ (hle14 _ _ (hle13 _ _ (hle12 _ _ (hle11 _ _ f10))))) (by simp)) ?_; (repeat apply Exists.intro); refine ⟨rfl, ?_⟩)
    (refine wp_load (hp15.loadH f15 (by simp)) ?_; (repeat apply Exists.intro); refine ⟨rfl, ?_⟩)
    refine wp_call (len_runs hp15 (hn14.mono hle15)) fun v16 w16 h16 => ?_
    obtain ⟨rfl, hp16⟩ := h16
    ((repeat apply Exists.intro); refine ⟨rfl, ?_⟩)
    have hr14 : ∀ L : List Msg, L.length = 400 → inr L 399 = true → (rest L 399).length = 399 := fun L h h2 => by
      unfold rest
      rw [if_pos h2, List.length_append, List.length_take, List.length_drop, h]
      decide
    rw [hr14 _ hl13 hc13]
    exact ⟨rfl, hp16.back ((((((((((hle.trans hle6).trans hle7).trans hle8).trans hle9).trans hle10).trans hle11).trans hle12).trans hle13).trans hle14).trans hle15) ((((((ha2.trans ha6).trans ha8).trans ha11).trans ha12).trans ha13).trans ha14)⟩
end
end Go.Proofs.Ytcfjglminflohaa
