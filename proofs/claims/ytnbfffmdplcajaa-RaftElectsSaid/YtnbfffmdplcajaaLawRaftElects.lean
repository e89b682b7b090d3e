/- The walk of RaftElects: it returns true. -/
import Derived.Test.YtnbfffmdplcajaaElect
import Derived.Test.YtnbfffmdplcajaaVars
import Derived.Test.YtnbfffmdplcajaaPre
import Derived.Test.YtnbfffmdplcajaaTreeW18
namespace Go.Proofs.Ytnbfffmdplcajaa
open Go.Vc Go.Vc.Rf

section
variable {w0 w : World} {H M U : Mp}

/-- A step's results, given up and taken apart. -/
theorem top_apart {x : Sp} {R : Raft} {S : List Msg} {v : Value} {w' : World} (h : Top w0 H M x v w') (hr : x.r = R) (hs : x.q.send = S) :
    ∃ (y1 y2 y3 y4 y5 y6 y7 z1 z2 z3 : Sl3) (H' : Mp), v = .tuple #[.agg (cells17 R y1 y2 y3 y4 y5 y6 y7).toArray, .agg #[.slice z1.a z1.n z1.c, .slice z2.a z2.n z2.c, .slice z3.a z3.n z3.c]] ∧ RaS H' R y1 y2 y3 y4 y5 y6 y7 ∧ Ra H' (cells17 R y1 y2 y3 y4 y5 y6 y7) R ∧
      Sl H' (Ms H') z2.a z2.n z2.c S ∧ Hp w0 w' H' M ∧ H.le H' := by
  subst hr; subst hs
  obtain ⟨cs, cq, H', rfl, hr, hq, hp, hle⟩ := top_give h
  have hr' := hr
  obtain ⟨y1, y2, y3, y4, y5, y6, y7, rfl, hx⟩ := hr
  obtain ⟨z1, z2, z3, rfl, _, hs, _⟩ := hq
  exact ⟨y1, y2, y3, y4, y5, y6, y7, z1, z2, z3, H', rfl, hx, hr', hs, hp, hle⟩
/-- A letter among others: its place, all its cells. -/
theorem msgIn {a : Option Addr} {n c : Nat} {l : List Msg} (hs : Sl H (Ms H) a n c l) {i : Nat} {x : Msg} (hi : l[i]? = some x) : ∃ b o cs, a = some ⟨b, o, none⟩ ∧ i < n ∧ Ms H cs x ∧
    ∀ {w' : World} {M' : Mp}, Hp w0 w' H M' → ∀ j m, j + m ≤ 21 → cellsAt w' ⟨b, o + i * 21 + j, none⟩ 0 m = some ((cs.drop j).take m) := by
  obtain ⟨b, o, cs, ha, hcs, hat⟩ := Sl.elemU Ms.len hs hi (by omega)
  have := (List.getElem?_eq_some_iff.1 hi).1
  exact ⟨b, o, cs, ha, by rw [hs.1]; omega, hcs, fun hp j m hjm => hat _ _ _ hp hp.le_uni j m hjm⟩

set_option maxRecDepth 100000 in
set_option maxHeartbeats 16000000 in
theorem raftElects_runs {la : Option Addr} {ln lc : Nat} {L : List Ent} {second : Bool} (hp : Hp w0 w H M) (hl : Sl H (En H) la ln lc L) (_ : L.length ≤ 4398046511104) (_ : ∀ e ∈ L, e.Ok) :
    Runs Try.prog 18 [.slice la ln lc, .bool second] w fun v w' => v = .bool true ∧ Hp w0 w' H M := by
  have hln := hl.1
  apply r18
  refine wp_call (begun_runs hp) fun v1 w1 h1 => ?_
  obtain ⟨rfl, hp1⟩ := h1
  ((repeat apply Exists.intro); refine ⟨rfl, ?_⟩)
  refine wp_bif (fun h => by simp at h) fun _ => ?_
  refine wp_bif (fun _ => ⟨rfl, hp1⟩) fun h => ?_
  have hlen : L.length ≤ 10 := by
    have : ¬ (ln : Int) > 10 := of_decide_eq_false h
    omega
  refine wp_keep hp1 (by rfl) (by simp [Value.oneCell']) fun p3 w2 H2 hp2 hle2 f3 => ?_
  have hl2 := hl.mono hle2 (En.mono hle2)
  refine ⟨fun vs w' => ∃ j : Nat, vs = [.int .i64 j] ∧ j ≤ L.length ∧ (∀ k, k < j → ∀ e, L[k]? = some e → e.term ≤ 9) ∧ Hp w0 w' H2 M, fun vs _ => match vs with | [.int _ q] => 30 - q.toNat | _ => 0, ⟨0, rfl, Nat.zero_le _, fun k hk => absurd hk (Nat.not_lt_zero k), hp2⟩, ?_⟩
  rintro vs w3 ⟨j, rfl, hj, hall, hp3⟩
  ((repeat apply Exists.intro); refine ⟨rfl, ?_⟩)
  refine wp_bif (fun h => ?_) fun h => ?_
  · have hjl : j < L.length := by simp at h; omega
    refine wp_idx En.len (by omega) hp3 hp3.le_uni hl2 Ent.none 1 (by omega) (by omega) (by omega) fun cs hcs => ?_
    obtain ⟨ea, en, ec, rfl, _⟩ := hcs
    ((repeat apply Exists.intro); refine ⟨rfl, ?_⟩)
    refine wp_bif (fun _ => ⟨rfl, hp3.lessH hle2⟩) fun h9 => ?_
    have ewrap : IntKind.i64.wrap ((j : Int) + 1) = ((j + 1 : Nat) : Int) := by rw [wrap_i64 (by omega) (by omega)]; rfl
    refine ⟨⟨j + 1, by rw [ewrap], hjl, fun k hk e he => ?_, hp3⟩, ?_⟩
    · by_cases ek : k = j
      · subst ek
        have : ¬ (L.getD (k : Int).toNat Ent.none).term > 9 := of_decide_eq_false h9
        rw [Int.toNat_natCast, List.getD_eq_getElem?_getD, he] at this
        have e9 : (some e).getD Ent.none = e := rfl
        rw [e9] at this
        omega
      · exact hall k (by omega) e he
    · show 30 - (IntKind.i64.wrap ((j : Int) + 1)).toNat < 30 - (j : Int).toNat
      rw [ewrap]; omega
  have hL : ∀ e ∈ L, e.term ≤ 9 := fun e he => by
    obtain ⟨k, hk⟩ := List.getElem?_of_mem he
    have hk2 := (List.getElem?_eq_some_iff.1 hk).1
    have : ¬ (j : Int) < ln := of_decide_eq_false h
    exact hall k (by omega) e hk
  clear hall hj h
  have hk : Kp H2 [.int .u64 9, .int .i64 0, .int .u64 0, .int .u64 0, .slice none 0 0, .slice la ln lc] (kpL L) := ⟨⟨none, 0, 0⟩, ⟨la, ln, lc⟩, rfl, Bs.nil _, hl2⟩
  have hkl : (kpL L).entries.length ≤ 4398046511104 := by show L.length ≤ _; omega
  have fnew : ∀ {id : Int}, Fit (newR id 3 (kpL L)) := fun {id} => fit_new (by omega) (by show (0 : Int) ≤ 0; omega) (by show (0 : Int) + L.length ≤ _; omega) (by show (0 : Int) ≤ 9; omega) (by show (9 : Int) ≤ _; omega) (by show L.length ≤ _; omega)
  have hlenA : (L ++ [eT]).length = L.length + 1 := by simp
  have hwn : IntKind.u64.wrap (IntKind.u64.wrap (ln : Int) + 1) = (L.length : Int) + 1 := by rw [hln, wrap_u64 (x := (L.length : Int)) (by omega) (by omega), wrap_u64 (by omega) (by omega)]
  have hwi : IntKind.i64.wrap ((ln : Int) + 1) = (L.length : Int) + 1 := by rw [hln, wrap_i64 (by omega) (by omega)]
  refine wp_bif (fun _ => ?_) fun _ => ?_
  · have who : (3 : Int) = 2 ∨ (3 : Int) = 3 := .inr rfl
    have hwi2 : IntKind.i64.wrap ((3 : Int) - 2) = 1 := by rw [wrap_i64 (by omega) (by omega)]; rfl
    (refine wp_load (hp3.loadH f3 (by simp)) ?_; (repeat apply Exists.intro); refine ⟨rfl, ?_⟩)
    refine wp_call (new_runs hp3 hk hkl) fun v4 w4 h4 => ?_
    obtain ⟨cs4, H4, rfl, hr4, hp4, le4⟩ := h4
    have hr4' := hr4
    obtain ⟨x1, x2, x3, x4, x5, x6, x7, rfl, hx⟩ := hr4
    ((repeat apply Exists.intro); refine ⟨rfl, ?_⟩)
    refine wp_call ((timeout_runs hp4 hr4' fnew).mono fun v w' h => top_apart h (el_timeout L).1 (el_timeout L).2) fun v5 w5 h5 => ?_
    obtain ⟨a1, a2, a3, a4, a5, a6, a7, o1, o2, o3, H5, rfl, hA, hrA, hsO, hp5, le5⟩ := h5
    ((repeat apply Exists.intro); refine ⟨rfl, ?_⟩)
    refine wp_newV hp5 (Vr.nil M) fun pA w6 M6 hp6 v6 => wp_newV hp6 v6 fun pO w7 M7 hp7 v7 => ?_
    refine wp_storeV0 hp7 v7 0 rfl (by rfl) (by simp [Value.oneCell']) fun w8 M8 hp8 v8 => ?_
    refine wp_storeV0 hp8 v8 1 rfl (by rfl) (by simp [Value.oneCell']) fun w9 M9 hp9 v9 => ?_
    have le9 := le4.trans le5
    (refine wp_load (hp9.loadH (le9 _ _ f3) (by simp)) ?_; (repeat apply Exists.intro); refine ⟨rfl, ?_⟩)
    refine wp_call (new_runs hp9 (hk.mono le9) hkl) fun v10 w10 h10 => ?_
    obtain ⟨cs10, H10, rfl, hrB, hp10, le10⟩ := h10
    have hrB' := hrB
    obtain ⟨b1, b2, b3, b4, b5, b6, b7, rfl, hB⟩ := hrB
    ((repeat apply Exists.intro); refine ⟨rfl, ?_⟩)
    refine wp_newV hp10 v9 fun pB w11 M11 hp11 v11 => wp_storeV0 hp11 v11 2 rfl (by rfl) (by simp [Value.oneCell']) fun w12 M12 hp12 v12 => ?_
    have leZ := hle2.trans (le9.trans le10)
    replace hrA := hrA.mono le10
    replace hsO := hsO.mono le10 (Ms.mono le10)
    clear hp4 hp5 hp6 hp7 hp8 hp9 hp10 hp11 v6 v7 v8 v9 v11 hA hB hx
    have no2 : o2.n = 2 := hsO.1
    (refine wp_load (hp12.loadM (v12.get 1 rfl) (by simp)) ?_; (repeat apply Exists.intro); refine ⟨rfl, ?_⟩)
    rw [no2]
    refine wp_bif (fun h => absurd h (by decide)) fun _ => ?_
    (refine wp_load (hp12.loadM (v12.get 0 rfl) (by simp)) ?_; (repeat apply Exists.intro); refine ⟨rfl, ?_⟩)
    refine wp_bif (fun h => absurd h (by simp [elA1])) fun _ => ?_
    obtain ⟨mb, mo, mc, rfl_o2, mi, hmc, mat⟩ := msgIn (w0 := w0) hsO (i := 1) (x := elAsk L 3) rfl
    have hmc' := hmc
    obtain ⟨e1, e2, e3, e4, e5, e6, rfl, _⟩ := hmc
    refine ⟨fun vs w' => ∃ (pP : Nat) (y1 y2 y3 y4 y5 y6 y7 z1 z2 z3 : Sl3) (H' M' : Mp), vs = [.pointer (some ⟨pP, 0, none⟩)] ∧ Ra H' (cells17 (elB1 L 3) y1 y2 y3 y4 y5 y6 y7) (elB1 L 3) ∧ Sl H' (Ms H') z2.a z2.n z2.c [elVote 3] ∧ Hp w0 w' H' M' ∧ H10.le H' ∧
      Vr M M' [(pA, cells17 (elA1 L) a1 a2 a3 a4 a5 a6 a7), (pO, [.slice o1.a o1.n o1.c, .slice o2.a o2.n o2.c, .slice o3.a o3.n o3.c]), (pB, cells17 (elB1 L 3) y1 y2 y3 y4 y5 y6 y7), (pP, [.slice z1.a z1.n z1.c, .slice z2.a z2.n z2.c, .slice z3.a z3.n z3.c])], ?_, ?_⟩
    · have hpd := hp12.drew
      (refine wp_load (hpd.loadM (v12.get 2 rfl) (by simp)) ?_; (repeat apply Exists.intro); refine ⟨rfl, ?_⟩)
      (refine wp_load (hpd.loadM (v12.get 1 rfl) (by simp)) ?_; (repeat apply Exists.intro); refine ⟨rfl, ?_⟩)
      refine ⟨_, rfl_o2, ⟨by rw [hwi2]; omega, by rw [hwi2, no2]; omega⟩, ?_⟩
      simp only [add_mk]
      (refine wp_load (mat hpd 0 21 (by omega)) ?_; (repeat apply Exists.intro); refine ⟨rfl, ?_⟩)
      refine ⟨?_, ?_⟩
      · refine wp_call ((got_runs hpd hrB' hmc' fnew (el_lmAsk hlen)).mono fun v w' h => top_apart h (el_vote who).1 (el_vote who).2) fun v13 w13 h13 => ?_
        obtain ⟨y1, y2, y3, y4, y5, y6, y7, z1, z2, z3, H13, rfl, hB, hrB, hsP, hp13, le13⟩ := h13
        ((repeat apply Exists.intro); refine ⟨rfl, ?_⟩)
        refine wp_newV hp13 v12 fun pP w14 M14 hp14 v14 => wp_storeV0 hp14 v14 2 rfl (by rfl) (by simp [Value.oneCell']) fun w15 M15 hp15 v15 => ?_
        refine wp_storeV0 hp15 v15 3 rfl (by rfl) (by simp [Value.oneCell']) fun w16 M16 hp16 v16 => ?_
        exact ⟨pP, y1, y2, y3, y4, y5, y6, y7, z1, z2, z3, H13, M16, rfl, hrB, hsP, hp16, le13, v16⟩
      · refine wp_newV hpd v12 fun pP w14 M14 hp14 v14 => ?_
        refine wp_call ((got_runs hp14 hrB' hmc' fnew (el_lmAsk hlen)).mono fun v w' h => top_apart h (el_vote who).1 (el_vote who).2) fun v13 w13 h13 => ?_
        obtain ⟨y1, y2, y3, y4, y5, y6, y7, z1, z2, z3, H13, rfl, hB, hrB, hsP, hp13, le13⟩ := h13
        ((repeat apply Exists.intro); refine ⟨rfl, ?_⟩)
        refine wp_storeV0 hp13 v14 2 rfl (by rfl) (by simp [Value.oneCell']) fun w15 M15 hp15 v15 => ?_
        refine wp_storeV0 hp15 v15 3 rfl (by rfl) (by simp [Value.oneCell']) fun w16 M16 hp16 v16 => ?_
        exact ⟨pP, y1, y2, y3, y4, y5, y6, y7, z1, z2, z3, H13, M16, rfl, hrB, hsP, hp16, le13, v16⟩
    clear mat hmc' rfl_o2 mi hp12 v12 hrB'
    rintro vs w17 ⟨pP, b1, b2, b3, b4, b5, b6, b7, z1, z2, z3, H17, M17, rfl, hrB, hsP, hp, le17, v⟩
    ((repeat apply Exists.intro); refine ⟨rfl, ?_⟩)
    replace leZ := leZ.trans le17
    replace hrA := hrA.mono le17
    have np : z2.n = 1 := hsP.1
    (refine wp_load (hp.loadM (v.get 3 rfl) (by simp)) ?_; (repeat apply Exists.intro); refine ⟨rfl, ?_⟩)
    rw [np]
    refine wp_bif (fun h => absurd h (by decide)) fun _ => ?_
    obtain ⟨mb, mo, mc, ma, mi, hmc, mat⟩ := msgIn (w0 := w0) hsP (i := 0) (x := (elVote 3)) rfl
    have hmc' := hmc
    obtain ⟨e1, e2, e3, e4, e5, e6, rfl, _⟩ := hmc
    simp only [Nat.zero_mul, Nat.add_zero] at mat
    (refine wp_load (hp.loadM (v.get 3 rfl) (by simp)) ?_; (repeat apply Exists.intro); refine ⟨rfl, ?_⟩)
    refine ⟨_, ma, ⟨by omega, by omega⟩, ?_⟩
    simp only [add_mk]
    (refine wp_load (mat hp 9 1 (by omega)) ?_; (repeat apply Exists.intro); refine ⟨rfl, ?_⟩)
    refine wp_bif (fun h => absurd h (by simp [elVote])) fun _ => ?_
    (refine wp_load (hp.loadM (v.get 2 rfl) (by simp [cells17])) ?_; (repeat apply Exists.intro); refine ⟨rfl, ?_⟩)
    refine wp_bif (fun h => absurd h (by simp [elB1])) fun _ => ?_
    replace hp := hp.drew
    (refine wp_load (hp.loadM (v.get 0 rfl) (by simp [cells17])) ?_; (repeat apply Exists.intro); refine ⟨rfl, ?_⟩)
    (refine wp_load (hp.loadM (v.get 3 rfl) (by simp)) ?_; (repeat apply Exists.intro); refine ⟨rfl, ?_⟩)
    refine ⟨_, ma, ⟨by omega, by omega⟩, ?_⟩
    (refine wp_load (mat hp 0 21 (by omega)) ?_; (repeat apply Exists.intro); refine ⟨rfl, ?_⟩)
    refine wp_call ((got_runs hp hrA hmc' (el_fitA1 hlen) el_lmVote).mono fun v w' h => top_apart h (el_lead who hL).1 (el_lead who hL).2) fun v18 w18 h18 => ?_
    obtain ⟨a1, a2, a3, a4, a5, a6, a7, o1, o2, o3, H18, rfl, _, hrN, hsN, hp18, le18⟩ := h18
    ((repeat apply Exists.intro); refine ⟨rfl, ?_⟩)
    refine wp_storeV0 hp18 v 0 rfl (by rfl) (by simp [Value.oneCell']) fun w19 M19 hp19 v19 => ?_
    refine wp_storeV0 hp19 v19 1 rfl (by rfl) (by simp [Value.oneCell']) fun w20 M20 hp20 v20 => ?_
    clear hp v
    have hp := hp20
    have v := v20
    clear mat hmc'
    replace leZ := leZ.trans le18
    clear hrA hsO hsP
    have hrA := hrN
    have hsO := hsN
    replace hrB := hrB.mono le18
    clear hrN hsN
    have no2 : o2.n = 2 := hsO.1
    (refine wp_load (hp.loadM (v.get 0 rfl) (by simp)) ?_; (repeat apply Exists.intro); refine ⟨rfl, ?_⟩)
    refine wp_bif (fun h => absurd h (by simp [elA2])) fun _ => ?_
    (refine wp_load (hp.loadM (v.get 1 rfl) (by simp)) ?_; (repeat apply Exists.intro); refine ⟨rfl, ?_⟩)
    rw [no2]
    refine wp_bif (fun h => absurd h (by decide)) fun _ => ?_
    (refine wp_load (hp.loadM (v.get 0 rfl) (by simp)) ?_; (repeat apply Exists.intro); refine ⟨rfl, ?_⟩)
    refine wp_bif (fun h => absurd h (by simp [elA2, Raft.none])) fun _ => ?_
    replace hp := hp.drew
    (refine wp_load (hp.loadM (v.get 2 rfl) (by simp [cells17])) ?_; (repeat apply Exists.intro); refine ⟨rfl, ?_⟩)
    (refine wp_load (hp.loadM (v.get 1 rfl) (by simp)) ?_; (repeat apply Exists.intro); refine ⟨rfl, ?_⟩)
    obtain ⟨mb, mo, mc, ma, mi, hmc, mat⟩ := msgIn (w0 := w0) hsO (i := 1) (x := elApp L 3) rfl
    have hmc' := hmc
    obtain ⟨e1, e2, e3, e4, e5, e6, rfl, _⟩ := hmc
    refine ⟨_, ma, ⟨by rw [hwi2]; omega, by rw [hwi2, no2]; omega⟩, ?_⟩
    simp only [add_mk]
    (refine wp_load (mat hp 0 21 (by omega)) ?_; (repeat apply Exists.intro); refine ⟨rfl, ?_⟩)
    refine wp_call ((got_runs hp hrB hmc' (el_fitB1 hlen) (el_lmApp hlen)).mono fun v w' h => top_apart h (el_take who).1 (el_take who).2) fun v18 w18 h18 => ?_
    obtain ⟨b1, b2, b3, b4, b5, b6, b7, z1, z2, z3, H18, rfl, _, hrN, hsN, hp18, le18⟩ := h18
    ((repeat apply Exists.intro); refine ⟨rfl, ?_⟩)
    refine wp_storeV0 hp18 v 2 rfl (by rfl) (by simp [Value.oneCell']) fun w19 M19 hp19 v19 => ?_
    refine wp_storeV0 hp19 v19 3 rfl (by rfl) (by simp [Value.oneCell']) fun w20 M20 hp20 v20 => ?_
    clear hp v
    have hp := hp20
    have v := v20
    clear mat hmc'
    replace leZ := leZ.trans le18
    clear hrB hsO
    have hrB := hrN
    have hsP := hsN
    replace hrA := hrA.mono le18
    clear hrN hsN
    have np : z2.n = 1 := hsP.1
    (refine wp_load (hp.loadM (v.get 3 rfl) (by simp)) ?_; (repeat apply Exists.intro); refine ⟨rfl, ?_⟩)
    rw [np]
    refine wp_bif (fun h => absurd h (by decide)) fun _ => ?_
    obtain ⟨mb, mo, mc, ma, mi, hmc, mat⟩ := msgIn (w0 := w0) hsP (i := 0) (x := (elDone L 3)) rfl
    have hmc' := hmc
    obtain ⟨e1, e2, e3, e4, e5, e6, rfl, _⟩ := hmc
    simp only [Nat.zero_mul, Nat.add_zero] at mat
    (refine wp_load (hp.loadM (v.get 3 rfl) (by simp)) ?_; (repeat apply Exists.intro); refine ⟨rfl, ?_⟩)
    refine ⟨_, ma, ⟨by omega, by omega⟩, ?_⟩
    simp only [add_mk]
    (refine wp_load (mat hp 9 1 (by omega)) ?_; (repeat apply Exists.intro); refine ⟨rfl, ?_⟩)
    refine wp_bif (fun h => absurd h (by simp [elDone])) fun _ => ?_
    (refine wp_load (hp.loadM (v.get 2 rfl) (by simp)) ?_; (repeat apply Exists.intro); refine ⟨rfl, ?_⟩)
    refine wp_bif (fun h => absurd h (by simp [elB2])) fun _ => ?_
    replace hp := hp.drew
    (refine wp_load (hp.loadM (v.get 0 rfl) (by simp)) ?_; (repeat apply Exists.intro); refine ⟨rfl, ?_⟩)
    (refine wp_load (hp.loadM (v.get 3 rfl) (by simp)) ?_; (repeat apply Exists.intro); refine ⟨rfl, ?_⟩)
    refine ⟨_, ma, ⟨by omega, by omega⟩, ?_⟩
    (refine wp_load (mat hp 0 21 (by omega)) ?_; (repeat apply Exists.intro); refine ⟨rfl, ?_⟩)
    refine wp_call ((got_runs hp hrA hmc' (el_fitA2 hlen) (el_lmDone hlen)).mono fun v w' h => top_apart h (el_done who) rfl) fun v18 w18 h18 => ?_
    obtain ⟨a1, a2, a3, a4, a5, a6, a7, o1, o2, o3, H18, rfl, _, hrN, hsN, hp18, le18⟩ := h18
    ((repeat apply Exists.intro); refine ⟨rfl, ?_⟩)
    refine wp_storeV0 hp18 v 0 rfl (by rfl) (by simp [Value.oneCell']) fun w19 M19 hp19 v19 => ?_
    clear hp v
    have hp := hp19
    have v := v19
    clear mat hmc'
    replace leZ := leZ.trans le18
    clear hrA hsP
    have hrA := hrN
    replace hrB := hrB.mono le18
    clear hrN hsN
    (refine wp_load (hp.loadM (v.get 0 rfl) (by simp)) ?_; (repeat apply Exists.intro); refine ⟨rfl, ?_⟩)
    obtain ⟨ls, els, ll2, lget⟩ := (el_beat (L := L) who).2
    refine wp_call ((beat_runs hp hrA (el_fitA3 who hlen)).mono fun v w' h => top_apart h (el_beat who).1 els) fun v18 w18 h18 => ?_
    obtain ⟨a1, a2, a3, a4, a5, a6, a7, o1, o2, o3, H18, rfl, hAA, hrN, hsO, hp18, le18⟩ := h18
    ((repeat apply Exists.intro); refine ⟨rfl, ?_⟩)
    refine wp_storeV0 hp18 v 0 rfl (by rfl) (by simp [Value.oneCell']) fun w19 M19 hp19 v19 => ?_
    refine wp_storeV0 hp19 v19 1 rfl (by rfl) (by simp [Value.oneCell']) fun w20 M20 hp20 v20 => ?_
    clear hp v
    have hp := hp20
    have v := v20
    replace leZ := leZ.trans le18
    clear hrA
    have hrA := hrN
    replace hrB := hrB.mono le18
    have no2 : o2.n = 2 := by rw [hsO.1, ll2]
    (refine wp_load (hp.loadM (v.get 1 rfl) (by simp)) ?_; (repeat apply Exists.intro); refine ⟨rfl, ?_⟩)
    rw [no2]
    refine wp_bif (fun h => absurd h (by decide)) fun _ => ?_
    replace hp := hp.drew
    (refine wp_load (hp.loadM (v.get 2 rfl) (by simp)) ?_; (repeat apply Exists.intro); refine ⟨rfl, ?_⟩)
    (refine wp_load (hp.loadM (v.get 1 rfl) (by simp)) ?_; (repeat apply Exists.intro); refine ⟨rfl, ?_⟩)
    obtain ⟨mb, mo, mc, ma, mi, hmc, mat⟩ := msgIn (w0 := w0) hsO (i := 1) (x := elBeat L 3) lget
    have hmc' := hmc
    obtain ⟨e1, e2, e3, e4, e5, e6, rfl, _⟩ := hmc
    refine ⟨_, ma, ⟨by rw [hwi2]; omega, by rw [hwi2, no2]; omega⟩, ?_⟩
    simp only [add_mk]
    (refine wp_load (mat hp 0 21 (by omega)) ?_; (repeat apply Exists.intro); refine ⟨rfl, ?_⟩)
    refine wp_call ((got_runs hp hrB hmc' (el_fitB2 hlen) (el_lmBeat hlen)).mono fun v w' h => top_apart h (el_end who) rfl) fun v21 w21 h21 => ?_
    obtain ⟨b1, b2, b3, b4, b5, b6, b7, z1, z2, z3, H21, rfl, hBB, _, _, hp21, le21⟩ := h21
    ((repeat apply Exists.intro); refine ⟨rfl, ?_⟩)
    refine wp_storeV0 hp21 v 2 rfl (by rfl) (by simp [Value.oneCell']) fun w22 M22 hp22 v22 => ?_
    replace leZ := leZ.trans le21
    replace hAA := hAA.mono le21
    (refine wp_load (hp22.loadM (v22.get 0 rfl) (by simp)) ?_; (repeat apply Exists.intro); refine ⟨rfl, ?_⟩)
    rw [hwn]
    refine wp_bif (fun _ => ?_) fun h => absurd h (by simp [elA3])
    (refine wp_load (hp22.loadM (v22.get 2 rfl) (by simp)) ?_; (repeat apply Exists.intro); refine ⟨rfl, ?_⟩)
    refine wp_bif (fun _ => ?_) fun h => absurd h (by simp [elB3])
    (refine wp_load (hp22.loadM (v22.get 0 rfl) (by simp)) ?_; (repeat apply Exists.intro); refine ⟨rfl, ?_⟩)
    (refine wp_load (hp22.loadM (v22.get 2 rfl) (by simp)) ?_; (repeat apply Exists.intro); refine ⟨rfl, ?_⟩)
    refine wp_call (sameEntries hp22 hAA.log hBB.log (by show (L ++ [eT]).length ≤ _; omega)) fun v23 w23 h23 => ?_
    obtain ⟨b, rfl, hb, hp23⟩ := h23
    ((repeat apply Exists.intro); refine ⟨rfl, ?_⟩)
    refine wp_bif (fun _ => ?_) fun h => absurd (hb.2 rfl) (by rw [h]; simp)
    (refine wp_load (hp23.loadM (v22.get 0 rfl) (by simp)) ?_; (repeat apply Exists.intro); refine ⟨rfl, ?_⟩)
    refine ⟨?_, (v22.done hp23).lessH leZ⟩
    have hal : a2.n = (L ++ [eT]).length := hAA.log.1
    rw [hwi, hal, hlenA]
    simp
  · have who : (2 : Int) = 2 ∨ (2 : Int) = 3 := .inl rfl
    have hwi2 : IntKind.i64.wrap ((2 : Int) - 2) = 0 := by rw [wrap_i64 (by omega) (by omega)]; rfl
    (refine wp_load (hp3.loadH f3 (by simp)) ?_; (repeat apply Exists.intro); refine ⟨rfl, ?_⟩)
    refine wp_call (new_runs hp3 hk hkl) fun v4 w4 h4 => ?_
    obtain ⟨cs4, H4, rfl, hr4, hp4, le4⟩ := h4
    have hr4' := hr4
    obtain ⟨x1, x2, x3, x4, x5, x6, x7, rfl, hx⟩ := hr4
    ((repeat apply Exists.intro); refine ⟨rfl, ?_⟩)
    refine wp_call ((timeout_runs hp4 hr4' fnew).mono fun v w' h => top_apart h (el_timeout L).1 (el_timeout L).2) fun v5 w5 h5 => ?_
    obtain ⟨a1, a2, a3, a4, a5, a6, a7, o1, o2, o3, H5, rfl, hA, hrA, hsO, hp5, le5⟩ := h5
    ((repeat apply Exists.intro); refine ⟨rfl, ?_⟩)
    refine wp_newV hp5 (Vr.nil M) fun pA w6 M6 hp6 v6 => wp_newV hp6 v6 fun pO w7 M7 hp7 v7 => ?_
    refine wp_storeV0 hp7 v7 0 rfl (by rfl) (by simp [Value.oneCell']) fun w8 M8 hp8 v8 => ?_
    refine wp_storeV0 hp8 v8 1 rfl (by rfl) (by simp [Value.oneCell']) fun w9 M9 hp9 v9 => ?_
    have le9 := le4.trans le5
    (refine wp_load (hp9.loadH (le9 _ _ f3) (by simp)) ?_; (repeat apply Exists.intro); refine ⟨rfl, ?_⟩)
    refine wp_call (new_runs hp9 (hk.mono le9) hkl) fun v10 w10 h10 => ?_
    obtain ⟨cs10, H10, rfl, hrB, hp10, le10⟩ := h10
    have hrB' := hrB
    obtain ⟨b1, b2, b3, b4, b5, b6, b7, rfl, hB⟩ := hrB
    ((repeat apply Exists.intro); refine ⟨rfl, ?_⟩)
    refine wp_newV hp10 v9 fun pB w11 M11 hp11 v11 => wp_storeV0 hp11 v11 2 rfl (by rfl) (by simp [Value.oneCell']) fun w12 M12 hp12 v12 => ?_
    have leZ := hle2.trans (le9.trans le10)
    replace hrA := hrA.mono le10
    replace hsO := hsO.mono le10 (Ms.mono le10)
    clear hp4 hp5 hp6 hp7 hp8 hp9 hp10 hp11 v6 v7 v8 v9 v11 hA hB hx
    have no2 : o2.n = 2 := hsO.1
    (refine wp_load (hp12.loadM (v12.get 1 rfl) (by simp)) ?_; (repeat apply Exists.intro); refine ⟨rfl, ?_⟩)
    rw [no2]
    refine wp_bif (fun h => absurd h (by decide)) fun _ => ?_
    (refine wp_load (hp12.loadM (v12.get 0 rfl) (by simp)) ?_; (repeat apply Exists.intro); refine ⟨rfl, ?_⟩)
    refine wp_bif (fun h => absurd h (by simp [elA1])) fun _ => ?_
    obtain ⟨mb, mo, mc, rfl_o2, mi, hmc, mat⟩ := msgIn (w0 := w0) hsO (i := 0) (x := elAsk L 2) rfl
    have hmc' := hmc
    obtain ⟨e1, e2, e3, e4, e5, e6, rfl, _⟩ := hmc
    refine ⟨fun vs w' => ∃ (pP : Nat) (y1 y2 y3 y4 y5 y6 y7 z1 z2 z3 : Sl3) (H' M' : Mp), vs = [.pointer (some ⟨pP, 0, none⟩)] ∧ Ra H' (cells17 (elB1 L 2) y1 y2 y3 y4 y5 y6 y7) (elB1 L 2) ∧ Sl H' (Ms H') z2.a z2.n z2.c [elVote 2] ∧ Hp w0 w' H' M' ∧ H10.le H' ∧
      Vr M M' [(pA, cells17 (elA1 L) a1 a2 a3 a4 a5 a6 a7), (pO, [.slice o1.a o1.n o1.c, .slice o2.a o2.n o2.c, .slice o3.a o3.n o3.c]), (pB, cells17 (elB1 L 2) y1 y2 y3 y4 y5 y6 y7), (pP, [.slice z1.a z1.n z1.c, .slice z2.a z2.n z2.c, .slice z3.a z3.n z3.c])], ?_, ?_⟩
    · have hpd := hp12.drew
      (refine wp_load (hpd.loadM (v12.get 2 rfl) (by simp)) ?_; (repeat apply Exists.intro); refine ⟨rfl, ?_⟩)
      (refine wp_load (hpd.loadM (v12.get 1 rfl) (by simp)) ?_; (repeat apply Exists.intro); refine ⟨rfl, ?_⟩)
      refine ⟨_, rfl_o2, ⟨by rw [hwi2]; omega, by rw [hwi2, no2]; omega⟩, ?_⟩
      simp only
      (refine wp_load (mat hpd 0 21 (by omega)) ?_; (repeat apply Exists.intro); refine ⟨rfl, ?_⟩)
      refine ⟨?_, ?_⟩
      · refine wp_call ((got_runs hpd hrB' hmc' fnew (el_lmAsk hlen)).mono fun v w' h => top_apart h (el_vote who).1 (el_vote who).2) fun v13 w13 h13 => ?_
        obtain ⟨y1, y2, y3, y4, y5, y6, y7, z1, z2, z3, H13, rfl, hB, hrB, hsP, hp13, le13⟩ := h13
        ((repeat apply Exists.intro); refine ⟨rfl, ?_⟩)
        refine wp_newV hp13 v12 fun pP w14 M14 hp14 v14 => wp_storeV0 hp14 v14 2 rfl (by rfl) (by simp [Value.oneCell']) fun w15 M15 hp15 v15 => ?_
        refine wp_storeV0 hp15 v15 3 rfl (by rfl) (by simp [Value.oneCell']) fun w16 M16 hp16 v16 => ?_
        exact ⟨pP, y1, y2, y3, y4, y5, y6, y7, z1, z2, z3, H13, M16, rfl, hrB, hsP, hp16, le13, v16⟩
      · refine wp_newV hpd v12 fun pP w14 M14 hp14 v14 => ?_
        refine wp_call ((got_runs hp14 hrB' hmc' fnew (el_lmAsk hlen)).mono fun v w' h => top_apart h (el_vote who).1 (el_vote who).2) fun v13 w13 h13 => ?_
        obtain ⟨y1, y2, y3, y4, y5, y6, y7, z1, z2, z3, H13, rfl, hB, hrB, hsP, hp13, le13⟩ := h13
        ((repeat apply Exists.intro); refine ⟨rfl, ?_⟩)
        refine wp_storeV0 hp13 v14 2 rfl (by rfl) (by simp [Value.oneCell']) fun w15 M15 hp15 v15 => ?_
        refine wp_storeV0 hp15 v15 3 rfl (by rfl) (by simp [Value.oneCell']) fun w16 M16 hp16 v16 => ?_
        exact ⟨pP, y1, y2, y3, y4, y5, y6, y7, z1, z2, z3, H13, M16, rfl, hrB, hsP, hp16, le13, v16⟩
    clear mat hmc' rfl_o2 mi hp12 v12 hrB'
    rintro vs w17 ⟨pP, b1, b2, b3, b4, b5, b6, b7, z1, z2, z3, H17, M17, rfl, hrB, hsP, hp, le17, v⟩
    ((repeat apply Exists.intro); refine ⟨rfl, ?_⟩)
    replace leZ := leZ.trans le17
    replace hrA := hrA.mono le17
    have np : z2.n = 1 := hsP.1
    (refine wp_load (hp.loadM (v.get 3 rfl) (by simp)) ?_; (repeat apply Exists.intro); refine ⟨rfl, ?_⟩)
    rw [np]
    refine wp_bif (fun h => absurd h (by decide)) fun _ => ?_
    obtain ⟨mb, mo, mc, ma, mi, hmc, mat⟩ := msgIn (w0 := w0) hsP (i := 0) (x := (elVote 2)) rfl
    have hmc' := hmc
    obtain ⟨e1, e2, e3, e4, e5, e6, rfl, _⟩ := hmc
    simp only [Nat.zero_mul, Nat.add_zero] at mat
    (refine wp_load (hp.loadM (v.get 3 rfl) (by simp)) ?_; (repeat apply Exists.intro); refine ⟨rfl, ?_⟩)
    refine ⟨_, ma, ⟨by omega, by omega⟩, ?_⟩
    simp only [add_mk]
    (refine wp_load (mat hp 9 1 (by omega)) ?_; (repeat apply Exists.intro); refine ⟨rfl, ?_⟩)
    refine wp_bif (fun h => absurd h (by simp [elVote])) fun _ => ?_
    (refine wp_load (hp.loadM (v.get 2 rfl) (by simp [cells17])) ?_; (repeat apply Exists.intro); refine ⟨rfl, ?_⟩)
    refine wp_bif (fun h => absurd h (by simp [elB1])) fun _ => ?_
    replace hp := hp.drew
    (refine wp_load (hp.loadM (v.get 0 rfl) (by simp [cells17])) ?_; (repeat apply Exists.intro); refine ⟨rfl, ?_⟩)
    (refine wp_load (hp.loadM (v.get 3 rfl) (by simp)) ?_; (repeat apply Exists.intro); refine ⟨rfl, ?_⟩)
    refine ⟨_, ma, ⟨by omega, by omega⟩, ?_⟩
    (refine wp_load (mat hp 0 21 (by omega)) ?_; (repeat apply Exists.intro); refine ⟨rfl, ?_⟩)
    refine wp_call ((got_runs hp hrA hmc' (el_fitA1 hlen) el_lmVote).mono fun v w' h => top_apart h (el_lead who hL).1 (el_lead who hL).2) fun v18 w18 h18 => ?_
    obtain ⟨a1, a2, a3, a4, a5, a6, a7, o1, o2, o3, H18, rfl, _, hrN, hsN, hp18, le18⟩ := h18
    ((repeat apply Exists.intro); refine ⟨rfl, ?_⟩)
    refine wp_storeV0 hp18 v 0 rfl (by rfl) (by simp [Value.oneCell']) fun w19 M19 hp19 v19 => ?_
    refine wp_storeV0 hp19 v19 1 rfl (by rfl) (by simp [Value.oneCell']) fun w20 M20 hp20 v20 => ?_
    clear hp v
    have hp := hp20
    have v := v20
    clear mat hmc'
    replace leZ := leZ.trans le18
    clear hrA hsO hsP
    have hrA := hrN
    have hsO := hsN
    replace hrB := hrB.mono le18
    clear hrN hsN
    have no2 : o2.n = 2 := hsO.1
    (refine wp_load (hp.loadM (v.get 0 rfl) (by simp)) ?_; (repeat apply Exists.intro); refine ⟨rfl, ?_⟩)
    refine wp_bif (fun h => absurd h (by simp [elA2])) fun _ => ?_
    (refine wp_load (hp.loadM (v.get 1 rfl) (by simp)) ?_; (repeat apply Exists.intro); refine ⟨rfl, ?_⟩)
    rw [no2]
    refine wp_bif (fun h => absurd h (by decide)) fun _ => ?_
    (refine wp_load (hp.loadM (v.get 0 rfl) (by simp)) ?_; (repeat apply Exists.intro); refine ⟨rfl, ?_⟩)
    refine wp_bif (fun h => absurd h (by simp [elA2, Raft.none])) fun _ => ?_
    replace hp := hp.drew
    (refine wp_load (hp.loadM (v.get 2 rfl) (by simp [cells17])) ?_; (repeat apply Exists.intro); refine ⟨rfl, ?_⟩)
    (refine wp_load (hp.loadM (v.get 1 rfl) (by simp)) ?_; (repeat apply Exists.intro); refine ⟨rfl, ?_⟩)
    obtain ⟨mb, mo, mc, ma, mi, hmc, mat⟩ := msgIn (w0 := w0) hsO (i := 0) (x := elApp L 2) rfl
    have hmc' := hmc
    obtain ⟨e1, e2, e3, e4, e5, e6, rfl, _⟩ := hmc
    simp only [Nat.zero_mul, Nat.add_zero] at mat
    refine ⟨_, ma, ⟨by rw [hwi2]; omega, by rw [hwi2, no2]; omega⟩, ?_⟩
    (refine wp_load (mat hp 0 21 (by omega)) ?_; (repeat apply Exists.intro); refine ⟨rfl, ?_⟩)
    refine wp_call ((got_runs hp hrB hmc' (el_fitB1 hlen) (el_lmApp hlen)).mono fun v w' h => top_apart h (el_take who).1 (el_take who).2) fun v18 w18 h18 => ?_
    obtain ⟨b1, b2, b3, b4, b5, b6, b7, z1, z2, z3, H18, rfl, _, hrN, hsN, hp18, le18⟩ := h18
    ((repeat apply Exists.intro); refine ⟨rfl, ?_⟩)
    refine wp_storeV0 hp18 v 2 rfl (by rfl) (by simp [Value.oneCell']) fun w19 M19 hp19 v19 => ?_
    refine wp_storeV0 hp19 v19 3 rfl (by rfl) (by simp [Value.oneCell']) fun w20 M20 hp20 v20 => ?_
    clear hp v
    have hp := hp20
    have v := v20
    clear mat hmc'
    replace leZ := leZ.trans le18
    clear hrB hsO
    have hrB := hrN
    have hsP := hsN
    replace hrA := hrA.mono le18
    clear hrN hsN
    have np : z2.n = 1 := hsP.1
    (refine wp_load (hp.loadM (v.get 3 rfl) (by simp)) ?_; (repeat apply Exists.intro); refine ⟨rfl, ?_⟩)
    rw [np]
    refine wp_bif (fun h => absurd h (by decide)) fun _ => ?_
    obtain ⟨mb, mo, mc, ma, mi, hmc, mat⟩ := msgIn (w0 := w0) hsP (i := 0) (x := (elDone L 2)) rfl
    have hmc' := hmc
    obtain ⟨e1, e2, e3, e4, e5, e6, rfl, _⟩ := hmc
    simp only [Nat.zero_mul, Nat.add_zero] at mat
    (refine wp_load (hp.loadM (v.get 3 rfl) (by simp)) ?_; (repeat apply Exists.intro); refine ⟨rfl, ?_⟩)
    refine ⟨_, ma, ⟨by omega, by omega⟩, ?_⟩
    simp only [add_mk]
    (refine wp_load (mat hp 9 1 (by omega)) ?_; (repeat apply Exists.intro); refine ⟨rfl, ?_⟩)
    refine wp_bif (fun h => absurd h (by simp [elDone])) fun _ => ?_
    (refine wp_load (hp.loadM (v.get 2 rfl) (by simp)) ?_; (repeat apply Exists.intro); refine ⟨rfl, ?_⟩)
    refine wp_bif (fun h => absurd h (by simp [elB2])) fun _ => ?_
    replace hp := hp.drew
    (refine wp_load (hp.loadM (v.get 0 rfl) (by simp)) ?_; (repeat apply Exists.intro); refine ⟨rfl, ?_⟩)
    (refine wp_load (hp.loadM (v.get 3 rfl) (by simp)) ?_; (repeat apply Exists.intro); refine ⟨rfl, ?_⟩)
    refine ⟨_, ma, ⟨by omega, by omega⟩, ?_⟩
    (refine wp_load (mat hp 0 21 (by omega)) ?_; (repeat apply Exists.intro); refine ⟨rfl, ?_⟩)
    refine wp_call ((got_runs hp hrA hmc' (el_fitA2 hlen) (el_lmDone hlen)).mono fun v w' h => top_apart h (el_done who) rfl) fun v18 w18 h18 => ?_
    obtain ⟨a1, a2, a3, a4, a5, a6, a7, o1, o2, o3, H18, rfl, _, hrN, hsN, hp18, le18⟩ := h18
    ((repeat apply Exists.intro); refine ⟨rfl, ?_⟩)
    refine wp_storeV0 hp18 v 0 rfl (by rfl) (by simp [Value.oneCell']) fun w19 M19 hp19 v19 => ?_
    clear hp v
    have hp := hp19
    have v := v19
    clear mat hmc'
    replace leZ := leZ.trans le18
    clear hrA hsP
    have hrA := hrN
    replace hrB := hrB.mono le18
    clear hrN hsN
    (refine wp_load (hp.loadM (v.get 0 rfl) (by simp)) ?_; (repeat apply Exists.intro); refine ⟨rfl, ?_⟩)
    obtain ⟨ls, els, ll2, lget⟩ := (el_beat (L := L) who).2
    refine wp_call ((beat_runs hp hrA (el_fitA3 who hlen)).mono fun v w' h => top_apart h (el_beat who).1 els) fun v18 w18 h18 => ?_
    obtain ⟨a1, a2, a3, a4, a5, a6, a7, o1, o2, o3, H18, rfl, hAA, hrN, hsO, hp18, le18⟩ := h18
    ((repeat apply Exists.intro); refine ⟨rfl, ?_⟩)
    refine wp_storeV0 hp18 v 0 rfl (by rfl) (by simp [Value.oneCell']) fun w19 M19 hp19 v19 => ?_
    refine wp_storeV0 hp19 v19 1 rfl (by rfl) (by simp [Value.oneCell']) fun w20 M20 hp20 v20 => ?_
    clear hp v
    have hp := hp20
    have v := v20
    replace leZ := leZ.trans le18
    clear hrA
    have hrA := hrN
    replace hrB := hrB.mono le18
    have no2 : o2.n = 2 := by rw [hsO.1, ll2]
    (refine wp_load (hp.loadM (v.get 1 rfl) (by simp)) ?_; (repeat apply Exists.intro); refine ⟨rfl, ?_⟩)
    rw [no2]
    refine wp_bif (fun h => absurd h (by decide)) fun _ => ?_
    replace hp := hp.drew
    (refine wp_load (hp.loadM (v.get 2 rfl) (by simp)) ?_; (repeat apply Exists.intro); refine ⟨rfl, ?_⟩)
    (refine wp_load (hp.loadM (v.get 1 rfl) (by simp)) ?_; (repeat apply Exists.intro); refine ⟨rfl, ?_⟩)
    obtain ⟨mb, mo, mc, ma, mi, hmc, mat⟩ := msgIn (w0 := w0) hsO (i := 0) (x := elBeat L 2) lget
    have hmc' := hmc
    obtain ⟨e1, e2, e3, e4, e5, e6, rfl, _⟩ := hmc
    simp only [Nat.zero_mul, Nat.add_zero] at mat
    refine ⟨_, ma, ⟨by rw [hwi2]; omega, by rw [hwi2, no2]; omega⟩, ?_⟩
    (refine wp_load (mat hp 0 21 (by omega)) ?_; (repeat apply Exists.intro); refine ⟨rfl, ?_⟩)
    refine wp_call ((got_runs hp hrB hmc' (el_fitB2 hlen) (el_lmBeat hlen)).mono fun v w' h => top_apart h (el_end who) rfl) fun v21 w21 h21 => ?_
    obtain ⟨b1, b2, b3, b4, b5, b6, b7, z1, z2, z3, H21, rfl, hBB, _, _, hp21, le21⟩ := h21
    ((repeat apply Exists.intro); refine ⟨rfl, ?_⟩)
    refine wp_storeV0 hp21 v 2 rfl (by rfl) (by simp [Value.oneCell']) fun w22 M22 hp22 v22 => ?_
    replace leZ := leZ.trans le21
    replace hAA := hAA.mono le21
    (refine wp_load (hp22.loadM (v22.get 0 rfl) (by simp)) ?_; (repeat apply Exists.intro); refine ⟨rfl, ?_⟩)
    rw [hwn]
    refine wp_bif (fun _ => ?_) fun h => absurd h (by simp [elA3])
    (refine wp_load (hp22.loadM (v22.get 2 rfl) (by simp)) ?_; (repeat apply Exists.intro); refine ⟨rfl, ?_⟩)
    refine wp_bif (fun _ => ?_) fun h => absurd h (by simp [elB3])
    (refine wp_load (hp22.loadM (v22.get 0 rfl) (by simp)) ?_; (repeat apply Exists.intro); refine ⟨rfl, ?_⟩)
    (refine wp_load (hp22.loadM (v22.get 2 rfl) (by simp)) ?_; (repeat apply Exists.intro); refine ⟨rfl, ?_⟩)
    refine wp_call (sameEntries hp22 hAA.log hBB.log (by show (L ++ [eT]).length ≤ _; omega)) fun v23 w23 h23 => ?_
    obtain ⟨b, rfl, hb, hp23⟩ := h23
    ((repeat apply Exists.intro); refine ⟨rfl, ?_⟩)
    refine wp_bif (fun _ => ?_) fun h => absurd (hb.2 rfl) (by rw [h]; simp)
    (refine wp_load (hp23.loadM (v22.get 0 rfl) (by simp)) ?_; (repeat apply Exists.intro); refine ⟨rfl, ?_⟩)
    refine ⟨?_, (v22.done hp23).lessH leZ⟩
    have hal : a2.n = (L ++ [eT]).length := hAA.log.1
    rw [hwi, hal, hlenA]
    simp
end
end Go.Proofs.Ytnbfffmdplcajaa
