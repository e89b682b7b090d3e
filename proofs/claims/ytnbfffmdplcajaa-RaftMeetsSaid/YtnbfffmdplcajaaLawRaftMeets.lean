/- The walk of RaftMeets: it returns true. -/
import Derived.Test.YtnbfffmdplcajaaMeet
import Derived.Test.YtnbfffmdplcajaaVars
import Derived.Test.YtnbfffmdplcajaaTreeW19
namespace Go.Proofs.Ytnbfffmdplcajaa
open Go.Vc Go.Vc.Rf

section
variable {w0 w : World} {H M : Mp}

theorem wp_yesM {P : Program} {R : Value → World → Prop} {env : Nat → List Value → World → Prop} {c : Bool} {x y : VC} (h : c = true) (ht : x.wp P R env w) : (bif c then x else y : VC).wp P R env w := by rw [h]; exact ht
theorem wp_noM {P : Program} {R : Value → World → Prop} {env : Nat → List Value → World → Prop} {c : Bool} {x y : VC} (h : c = false) (ht : y.wp P R env w) : (bif c then x else y : VC).wp P R env w := by rw [h]; exact ht
/-- Cells of an element, from one of them on. -/
theorem wp_idxM {P : Program} {R : Value → World → Prop} {env : Nat → List Value → World → Prop} {α : Type} {p : List Value → α → Prop} {k : Nat} (hk : ∀ c x, p c x → c.length = k) (h0k : 0 < k) {U : Mp} (hp : Hp w0 w H M) (hU : U.le (uni H M)) {a : Option Addr} {n c : Nat} {l : List α} (hs : Sl U p a n c l) {i : Int} (d : α) (off m : Nat)
    (h0 : 0 ≤ i) (h1 : i < l.length) (hm : off + m ≤ k) {kk : List Value → VC} (hK : ∀ cs, p cs (l.getD i.toNat d) → (kk ((cs.drop off).take m)).wp P R env w) :
    (VC.some a fun x => .need ((0 : Int) ≤ i ∧ i < (n : Int)) <| .load ((x.add (i.toNat * k)).add off) m kk).wp P R env w := by
  have hn := hs.1
  have hil : i.toNat < l.length := by omega
  obtain ⟨b, o, cs, ha, hcs, hat⟩ := Sl.elemU hk hs (List.getElem?_eq_getElem hil) h0k
  have hat1 := hat _ _ _ hp hU off m (by omega)
  refine ⟨_, ha, ⟨h0, by omega⟩, ?_⟩
  simp only [add_mk]
  refine ⟨_, hat1, hK _ ?_⟩
  rw [List.getD_eq_getElem?_getD, List.getElem?_eq_getElem hil]
  exact hcs

/-- Two nodes, and what one has to send. -/
def MtSt (w0 : World) (H M : Mp) (pa pb po : Nat) (A B : Raft) (S : List Msg) (w' : World) : Prop :=
  ∃ (a1 a2 a3 a4 a5 a6 a7 b1 b2 b3 b4 b5 b6 b7 o1 o2 o3 : Sl3) (H' M' : Mp), Ra H' (cells17 A a1 a2 a3 a4 a5 a6 a7) A ∧ Ra H' (cells17 B b1 b2 b3 b4 b5 b6 b7) B ∧ Sl H' (Ms H') o2.a o2.n o2.c S ∧ Hp w0 w' H' M' ∧ H.le H' ∧
    Vr M M' [(pa, cells17 A a1 a2 a3 a4 a5 a6 a7), (pb, cells17 B b1 b2 b3 b4 b5 b6 b7), (po, [.slice o1.a o1.n o1.c, .slice o2.a o2.n o2.c, .slice o3.a o3.n o3.c])]

def meetV (ln : Nat) (p45 p64 p143 : Nat) : VC :=
     .load ⟨p45, 0, none⟩ 17 fun v286 =>
     .exI fun i287 =>
     .exI fun i288 =>
     .exI fun i289 =>
     .exI fun i290 =>
     .exI fun i291 =>
     .exI fun i292 =>
     .exS fun a293 n293 c293 =>
     .exS fun a294 n294 c294 =>
     .exI fun i295 =>
     .exI fun i296 =>
     .exI fun i297 =>
     .exS fun a298 n298 c298 =>
     .exS fun a299 n299 c299 =>
     .exS fun a300 n300 c300 =>
     .exS fun a301 n301 c301 =>
     .exI fun i302 =>
     .exS fun a303 n303 c303 =>
     .isL v286 [.int .u64 i287, .int .i64 i288, .int .i64 i289, .int .i64 i290, .int .u64 i291, .int .u64 i292, .slice a293 n293 c293, .slice a294 n294 c294, .int .u64 i295, .int .i64 i296, .int .i64 i297, .slice a298 n298 c298, .slice a299 n299 c299, .slice a300 n300 c300, .slice a301 n301 c301, .int .u64 i302, .slice a303 n303 c303] <|
     .call 41 ([.agg #[.int .u64 i287, .int .i64 i288, .int .i64 i289, .int .i64 i290, .int .u64 i291, .int .u64 i292, .slice a293 n293 c293, .slice a294 n294 c294, .int .u64 i295, .int .i64 i296, .int .i64 i297, .slice a298 n298 c298, .slice a299 n299 c299, .slice a300 n300 c300, .slice a301 n301 c301, .int .u64 i302, .slice a303 n303 c303]]) fun v304 =>
     .exI fun i305 =>
     .exI fun i306 =>
     .exI fun i307 =>
     .exI fun i308 =>
     .exI fun i309 =>
     .exI fun i310 =>
     .exS fun a311 n311 c311 =>
     .exS fun a312 n312 c312 =>
     .exI fun i313 =>
     .exI fun i314 =>
     .exI fun i315 =>
     .exS fun a316 n316 c316 =>
     .exS fun a317 n317 c317 =>
     .exS fun a318 n318 c318 =>
     .exS fun a319 n319 c319 =>
     .exI fun i320 =>
     .exS fun a321 n321 c321 =>
     .exS fun a322 n322 c322 =>
     .exS fun a323 n323 c323 =>
     .exS fun a324 n324 c324 =>
     .isL [v304] [.tuple #[.agg #[.int .u64 i305, .int .i64 i306, .int .i64 i307, .int .i64 i308, .int .u64 i309, .int .u64 i310, .slice a311 n311 c311, .slice a312 n312 c312, .int .u64 i313, .int .i64 i314, .int .i64 i315, .slice a316 n316 c316, .slice a317 n317 c317, .slice a318 n318 c318, .slice a319 n319 c319, .int .u64 i320, .slice a321 n321 c321], .agg #[.slice a322 n322 c322, .slice a323 n323 c323, .slice a324 n324 c324]]] <|
     .store ⟨p45, 0, none⟩ [.int .u64 i305, .int .i64 i306, .int .i64 i307, .int .i64 i308, .int .u64 i309, .int .u64 i310, .slice a311 n311 c311, .slice a312 n312 c312, .int .u64 i313, .int .i64 i314, .int .i64 i315, .slice a316 n316 c316, .slice a317 n317 c317, .slice a318 n318 c318, .slice a319 n319 c319, .int .u64 i320, .slice a321 n321 c321] <|
     .store ⟨p143, 0, none⟩ [.slice a322 n322 c322, .slice a323 n323 c323, .slice a324 n324 c324] <|
     .load ⟨p143, 1, none⟩ 1 fun v325 =>
     .exS fun a326 n326 c326 =>
     .isL v325 [.slice a326 n326 c326] <|
     bif ((↑n326 : Int) != 1) then
      (.ret (.bool false))
     else
     (.draw <|
     .load ⟨p64, 0, none⟩ 17 fun v327 =>
     .exI fun i328 =>
     .exI fun i329 =>
     .exI fun i330 =>
     .exI fun i331 =>
     .exI fun i332 =>
     .exI fun i333 =>
     .exS fun a334 n334 c334 =>
     .exS fun a335 n335 c335 =>
     .exI fun i336 =>
     .exI fun i337 =>
     .exI fun i338 =>
     .exS fun a339 n339 c339 =>
     .exS fun a340 n340 c340 =>
     .exS fun a341 n341 c341 =>
     .exS fun a342 n342 c342 =>
     .exI fun i343 =>
     .exS fun a344 n344 c344 =>
     .isL v327 [.int .u64 i328, .int .i64 i329, .int .i64 i330, .int .i64 i331, .int .u64 i332, .int .u64 i333, .slice a334 n334 c334, .slice a335 n335 c335, .int .u64 i336, .int .i64 i337, .int .i64 i338, .slice a339 n339 c339, .slice a340 n340 c340, .slice a341 n341 c341, .slice a342 n342 c342, .int .u64 i343, .slice a344 n344 c344] <|
     .load ⟨p143, 1, none⟩ 1 fun v345 =>
     .exS fun a346 n346 c346 =>
     .isL v345 [.slice a346 n346 c346] <|
     .some a346 fun x347 =>
     .need ((0 : Int) ≤ 0 ∧ 0 < (↑n346 : Int)) <|
     .load x347 21 fun v348 =>
     .exI fun i349 =>
     .exI fun i350 =>
     .exI fun i351 =>
     .exI fun i352 =>
     .exI fun i353 =>
     .exI fun i354 =>
     .exS fun a355 n355 c355 =>
     .exI fun i356 =>
     .exI fun i357 =>
     .exB fun b358 =>
     .exI fun i359 =>
     .exI fun i360 =>
     .exS fun a361 n361 c361 =>
     .exI fun i362 =>
     .exI fun i363 =>
     .exI fun i364 =>
     .exT fun s365 =>
     .exT fun s366 =>
     .exI fun i367 =>
     .exI fun i368 =>
     .exT fun s369 =>
     .isL v348 [.int .i64 i349, .int .i64 i350, .int .i64 i351, .int .u64 i352, .int .u64 i353, .int .u64 i354, .slice a355 n355 c355, .int .u64 i356, .int .u64 i357, .bool b358, .int .u64 i359, .int .u64 i360, .slice a361 n361 c361, .int .i64 i362, .int .i64 i363, .int .u64 i364, .string s365, .string s366, .int .u64 i367, .int .i64 i368, .string s369] <|
     .call 38 ([.agg #[.int .u64 i328, .int .i64 i329, .int .i64 i330, .int .i64 i331, .int .u64 i332, .int .u64 i333, .slice a334 n334 c334, .slice a335 n335 c335, .int .u64 i336, .int .i64 i337, .int .i64 i338, .slice a339 n339 c339, .slice a340 n340 c340, .slice a341 n341 c341, .slice a342 n342 c342, .int .u64 i343, .slice a344 n344 c344], .agg #[.int .i64 i349, .int .i64 i350, .int .i64 i351, .int .u64 i352, .int .u64 i353, .int .u64 i354, .slice a355 n355 c355, .int .u64 i356, .int .u64 i357, .bool b358, .int .u64 i359, .int .u64 i360, .slice a361 n361 c361, .int .i64 i362, .int .i64 i363, .int .u64 i364, .string s365, .string s366, .int .u64 i367, .int .i64 i368, .string s369]]) fun v370 =>
     .exI fun i371 =>
     .exI fun i372 =>
     .exI fun i373 =>
     .exI fun i374 =>
     .exI fun i375 =>
     .exI fun i376 =>
     .exS fun a377 n377 c377 =>
     .exS fun a378 n378 c378 =>
     .exI fun i379 =>
     .exI fun i380 =>
     .exI fun i381 =>
     .exS fun a382 n382 c382 =>
     .exS fun a383 n383 c383 =>
     .exS fun a384 n384 c384 =>
     .exS fun a385 n385 c385 =>
     .exI fun i386 =>
     .exS fun a387 n387 c387 =>
     .exS fun a388 n388 c388 =>
     .exS fun a389 n389 c389 =>
     .exS fun a390 n390 c390 =>
     .isL [v370] [.tuple #[.agg #[.int .u64 i371, .int .i64 i372, .int .i64 i373, .int .i64 i374, .int .u64 i375, .int .u64 i376, .slice a377 n377 c377, .slice a378 n378 c378, .int .u64 i379, .int .i64 i380, .int .i64 i381, .slice a382 n382 c382, .slice a383 n383 c383, .slice a384 n384 c384, .slice a385 n385 c385, .int .u64 i386, .slice a387 n387 c387], .agg #[.slice a388 n388 c388, .slice a389 n389 c389, .slice a390 n390 c390]]] <|
     .store ⟨p64, 0, none⟩ [.int .u64 i371, .int .i64 i372, .int .i64 i373, .int .i64 i374, .int .u64 i375, .int .u64 i376, .slice a377 n377 c377, .slice a378 n378 c378, .int .u64 i379, .int .i64 i380, .int .i64 i381, .slice a382 n382 c382, .slice a383 n383 c383, .slice a384 n384 c384, .slice a385 n385 c385, .int .u64 i386, .slice a387 n387 c387] <|
     .load ⟨p45, 7, none⟩ 1 fun v391 =>
     .exS fun a392 n392 c392 =>
     .isL v391 [.slice a392 n392 c392] <|
     .load ⟨p64, 7, none⟩ 1 fun v393 =>
     .exS fun a394 n394 c394 =>
     .isL v393 [.slice a394 n394 c394] <|
     .call 48 ([.slice a392 n392 c392, .slice a394 n394 c394]) fun v395 =>
     .exB fun b396 =>
     .isL [v395] [.bool b396] <|
     bif b396 then
      (.load ⟨p45, 8, none⟩ 1 fun v397 =>
      .exI fun i398 =>
      .isL v397 [.int .u64 i398] <|
      bif (i398 == IntKind.u64.wrap (IntKind.u64.wrap (↑ln : Int) + 1)) then
       (.load ⟨p64, 8, none⟩ 1 fun v399 =>
       .exI fun i400 =>
       .isL v399 [.int .u64 i400] <|
       bif (i400 == IntKind.u64.wrap (IntKind.u64.wrap (↑ln : Int) + 1)) then
        (.load ⟨p45, 7, none⟩ 1 fun v401 =>
        .exS fun a402 n402 c402 =>
        .isL v401 [.slice a402 n402 c402] <|
        .ret (.bool ((↑n402 : Int) == IntKind.i64.wrap ((↑ln : Int) + 1))))
       else
       (.ret (.bool false)))
      else
      (.ret (.bool false)))
     else
     (.ret (.bool false)))

theorem meetV_wp {L : List Ent} {ln pa pb po : Nat} {env : Nat → List Value → World → Prop} {H0 : Mp} (hle0 : H0.le H) (hln : ln = L.length) (hl : L.length ≤ 15) (h : MtSt w0 H M pa pb po (mtA3 L) (mtB2 L) [] w) :
    (meetV ln pa pb po).wp Try.prog (fun v w' => v = .bool true ∧ Hp w0 w' H0 M) env w := by
  obtain ⟨a1, a2, a3, a4, a5, a6, a7, b1, b2, b3, b4, b5, b6, b7, o1, o2, o3, H1, M1, hA, hB, hO, hp, hle, v⟩ := h
  have hn1 : IntKind.u64.wrap (IntKind.u64.wrap (ln : Int) + 1) = (L.length : Int) + 1 := by rw [hln, wrap_u64 (x := (L.length : Int)) (by omega) (by omega), wrap_u64 (by omega) (by omega)]
  have hn2 : IntKind.i64.wrap ((ln : Int) + 1) = (L.length : Int) + 1 := by rw [hln, wrap_i64 (by omega) (by omega)]
  unfold meetV
  rw [hn1, hn2]
  (refine wp_load (hp.loadM (v.get 0 rfl) (by simp [cells17])) ?_; (repeat apply Exists.intro); refine ⟨rfl, ?_⟩)
  refine wp_call ((beat_runs hp hA (mt_fitA3 hl)).mono fun v w' h => top_apart h (mt_beat L).1 (mt_beat L).2) fun v5 w5 h5 => ?_
  obtain ⟨c1, c2, c3, c4, c5, c6, c7, q1, q2, q3, H5, rfl, _, hC, hQ, hp5, le5⟩ := h5
  ((repeat apply Exists.intro); refine ⟨rfl, ?_⟩)
  refine wp_storeV0 hp5 v 0 rfl (by rfl) (by simp [Value.oneCell']) fun w6 M6 hp6 v6 => ?_
  refine wp_storeV0 hp6 v6 2 rfl (by rfl) (by simp [Value.oneCell']) fun w7 M7 hp7 v7 => ?_
  have v8 : Vr M M7 [(_, _), (_, _), (_, _)] := v7
  have nq : q2.n = 1 := hQ.1
  (refine wp_load (hp7.loadM (v8.get 2 rfl) (by simp)) ?_; (repeat apply Exists.intro); refine ⟨rfl, ?_⟩)
  rw [nq]
  refine wp_noM rfl ?_
  have hp8 := hp7.drew
  obtain ⟨mb, mo, mc, ma, mi, hmc, mat⟩ := msgIn (w0 := w0) hQ (i := 0) (x := mtBeat L) rfl
  have hmc' := hmc
  obtain ⟨e1, e2, e3, e4, e5, e6, rfl, _⟩ := hmc
  simp only [Nat.zero_mul, Nat.add_zero] at mat
  (refine wp_load (hp8.loadM (v8.get 1 rfl) (by simp [cells17])) ?_; (repeat apply Exists.intro); refine ⟨rfl, ?_⟩)
  (refine wp_load (hp8.loadM (v8.get 2 rfl) (by simp)) ?_; (repeat apply Exists.intro); refine ⟨rfl, ?_⟩)
  refine ⟨_, ma, ⟨by omega, by omega⟩, ?_⟩
  (refine wp_load (mat hp8 0 21 (by omega)) ?_; (repeat apply Exists.intro); refine ⟨rfl, ?_⟩)
  refine wp_call ((got_runs hp8 (hB.mono le5) hmc' (mt_fitB (M := L ++ [eT]) (by simp; omega) (.inr ⟨rfl, rfl⟩)) (mt_lmBeat hl)).mono fun v w' h => top_apart h (mt_end L) rfl) fun v9 w9 h9 => ?_
  obtain ⟨d1, d2, d3, d4, d5, d6, d7, r1, r2, r3, H9, rfl, hxD, hD, _, hp9, le9⟩ := h9
  ((repeat apply Exists.intro); refine ⟨rfl, ?_⟩)
  refine wp_storeV0 hp9 v8 1 rfl (by rfl) (by simp [Value.oneCell']) fun w10 M10 hp10 v10 => ?_
  have v11 : Vr M M10 [(_, _), (_, _), (_, _)] := v10
  (refine wp_load (hp10.loadM (v11.get 0 rfl) (by simp)) ?_; (repeat apply Exists.intro); refine ⟨rfl, ?_⟩)
  (refine wp_load (hp10.loadM (v11.get 1 rfl) (by simp)) ?_; (repeat apply Exists.intro); refine ⟨rfl, ?_⟩)
  obtain ⟨s1, s2, s3, s4, s5, s6, s7, e7, hxC⟩ := hC
  have e8 : s2 = c2 := by
    have := congrArg (fun l => l[7]?) e7
    simp only [cells17, List.getElem?_cons_succ, List.getElem?_cons_zero, Option.some.injEq, Value.slice.injEq] at this
    obtain ⟨x1, x2, x3⟩ := this
    cases s2; cases c2; simp_all
  subst e8
  refine wp_call (sameEntries (es := L ++ [eT]) (fs := L ++ [eT]) hp10 (hxC.log.mono le9 (En.mono le9)) hxD.log (by simp; omega)) fun v12 w12 h12 => ?_
  obtain ⟨b12, rfl, i12, hp12⟩ := h12
  ((repeat apply Exists.intro); refine ⟨rfl, ?_⟩)
  refine wp_yesM (i12.2 rfl) ?_
  (refine wp_load (hp12.loadM (v11.get 0 rfl) (by simp)) ?_; (repeat apply Exists.intro); refine ⟨rfl, ?_⟩)
  refine wp_yesM (by show ((L.length : Int) + 1 == (L.length : Int) + 1) = true; simp) ?_
  (refine wp_load (hp12.loadM (v11.get 1 rfl) (by simp)) ?_; (repeat apply Exists.intro); refine ⟨rfl, ?_⟩)
  refine wp_yesM (by show ((L.length : Int) + 1 == (L.length : Int) + 1) = true; simp) ?_
  (refine wp_load (hp12.loadM (v11.get 0 rfl) (by simp)) ?_; (repeat apply Exists.intro); refine ⟨rfl, ?_⟩)
  have hcn : s2.n = (L ++ [eT]).length := hxC.log.1
  refine ⟨?_, (v11.done hp12).lessH (((hle0.trans hle).trans le5).trans le9)⟩
  rw [hcn]
  simp
set_option maxRecDepth 100000 in
set_option maxHeartbeats 16000000 in
theorem raftMeets_runs {la ma : Option Addr} {ln lc mn mc : Nat} {L N : List Ent} (hp : Hp w0 w H M) (hl : Sl H (En H) la ln lc L) (_ : L.length ≤ 4398046511104) (_ : ∀ e ∈ L, e.Ok) (hm : Sl H (En H) ma mn mc N) (_ : N.length ≤ 4398046511104) (_ : ∀ e ∈ N, e.Ok) :
    Runs Try.prog 19 [.slice la ln lc, .slice ma mn mc] w fun v w' => v = .bool true ∧ Hp w0 w' H M := by
  have hln := hl.1
  have hmn := hm.1
  apply r19
  refine wp_call (begun_runs hp) fun v1 w1 h1 => ?_
  obtain ⟨rfl, hp1⟩ := h1
  ((repeat apply Exists.intro); refine ⟨rfl, ?_⟩)
  refine wp_noM rfl ?_
  refine wp_bif (fun _ => ⟨rfl, hp1⟩) fun h => ?_
  have l15 : L.length ≤ 15 := by
    have : ¬ (ln : Int) > 15 := of_decide_eq_false h
    omega
  refine wp_bif (fun _ => ⟨rfl, hp1⟩) fun h => ?_
  have m15 : N.length ≤ 15 := by
    have : ¬ (mn : Int) > 15 := of_decide_eq_false h
    omega
  refine ⟨fun vs w' => ∃ j : Nat, vs = [.int .i64 j] ∧ j ≤ L.length ∧ (∀ k, k < j → (L.getD k Ent.none).term ≤ 9) ∧ Hp w0 w' H M, fun vs _ => match vs with | [.int _ q] => 30 - q.toNat | _ => 0, ⟨0, rfl, Nat.zero_le _, fun k hk => absurd hk (Nat.not_lt_zero k), hp1⟩, ?_⟩
  rintro vs w3 ⟨j, rfl, hj, hall, hp3⟩
  ((repeat apply Exists.intro); refine ⟨rfl, ?_⟩)
  refine wp_bif (fun h => ?_) fun h => ?_
  · have hjl : j < L.length := by have := of_decide_eq_true h; omega
    refine wp_idx En.len (by omega) hp3 hp3.le_uni hl Ent.none 1 (by omega) (by omega) (by omega) fun cs hcs => ?_
    obtain ⟨ea, en, ec, rfl, _⟩ := hcs
    ((repeat apply Exists.intro); refine ⟨rfl, ?_⟩)
    refine wp_bif (fun _ => ⟨rfl, hp3⟩) fun h9 => ?_
    have g9 : ¬ (L.getD (j : Int).toNat Ent.none).term > 9 := of_decide_eq_false h9
    rw [Int.toNat_natCast] at g9
    refine wp_idxM En.len (by omega) hp3 hp3.le_uni hl Ent.none 1 1 (by omega) (by omega) (by omega) fun cs hcs => ?_
    obtain ⟨ea, en, ec, rfl, _⟩ := hcs
    ((repeat apply Exists.intro); refine ⟨rfl, ?_⟩)
    refine wp_bif (fun _ => ⟨rfl, hp3⟩) fun _ => ?_
    have ewrap : IntKind.i64.wrap ((j : Int) + 1) = ((j + 1 : Nat) : Int) := by rw [wrap_i64 (by omega) (by omega)]; rfl
    refine ⟨⟨j + 1, by rw [ewrap], hjl, fun k hk => ?_, hp3⟩, ?_⟩
    · by_cases ek : k = j
      · subst ek; omega
      · exact hall k (by omega)
    · show 30 - (IntKind.i64.wrap ((j : Int) + 1)).toNat < 30 - (j : Int).toNat
      rw [ewrap]; omega
  have hLt : ∀ k, k < L.length → (L.getD k Ent.none).term ≤ 9 := fun k hk => by
    have : ¬ (j : Int) < ln := of_decide_eq_false h
    exact hall k (by omega)
  clear hall hj h
  refine ⟨fun vs w' => ∃ j : Nat, vs = [.int .i64 j] ∧ j ≤ N.length ∧ (∀ k, k < j → (N.getD k Ent.none).term ≤ 9 ∧ (k < L.length → (L.getD k Ent.none).term = (N.getD k Ent.none).term → L.take (k + 1) = N.take (k + 1))) ∧ Hp w0 w' H M, fun vs _ => match vs with | [.int _ q] => 30 - q.toNat | _ => 0, ⟨0, rfl, Nat.zero_le _, fun k hk => absurd hk (Nat.not_lt_zero k), hp3⟩, ?_⟩
  rintro vs w4 ⟨j, rfl, hj, hall, hp4⟩
  ((repeat apply Exists.intro); refine ⟨rfl, ?_⟩)
  refine wp_bif (fun h => ?_) fun h => ?_
  · have hjl : j < N.length := by have := of_decide_eq_true h; omega
    have hp5 := hp4.drew
    refine wp_idx En.len (by omega) hp5 hp5.le_uni hm Ent.none 1 (by omega) (by omega) (by omega) fun cs hcs => ?_
    obtain ⟨ea, en, ec, rfl, _⟩ := hcs
    ((repeat apply Exists.intro); refine ⟨rfl, ?_⟩)
    refine wp_bif (fun _ => ⟨rfl, hp5⟩) fun h9 => ?_
    have g9 : ¬ (N.getD (j : Int).toNat Ent.none).term > 9 := of_decide_eq_false h9
    rw [Int.toNat_natCast] at g9
    refine wp_idxM En.len (by omega) hp5 hp5.le_uni hm Ent.none 1 1 (by omega) (by omega) (by omega) fun cs hcs => ?_
    obtain ⟨ea, en, ec, rfl, _⟩ := hcs
    ((repeat apply Exists.intro); refine ⟨rfl, ?_⟩)
    refine wp_bif (fun _ => ⟨rfl, hp5⟩) fun _ => ?_
    have ewrap : IntKind.i64.wrap ((j : Int) + 1) = ((j + 1 : Nat) : Int) := by rw [wrap_i64 (by omega) (by omega)]; rfl
    have on : ∀ w', Hp w0 w' H M → (j < L.length → (L.getD j Ent.none).term = (N.getD j Ent.none).term → L.take (j + 1) = N.take (j + 1)) →
        (∃ j2 : Nat, [Value.int .i64 (IntKind.i64.wrap ((j : Int) + 1))] = [.int .i64 j2] ∧ j2 ≤ N.length ∧ (∀ k, k < j2 → (N.getD k Ent.none).term ≤ 9 ∧ (k < L.length → (L.getD k Ent.none).term = (N.getD k Ent.none).term → L.take (k + 1) = N.take (k + 1))) ∧ Hp w0 w' H M) ∧ 30 - (IntKind.i64.wrap ((j : Int) + 1)).toNat < 30 - (j : Int).toNat := fun w' hp' hq =>
      ⟨⟨j + 1, by rw [ewrap], hjl, fun k hk => by
        by_cases ek : k = j
        · subst ek; exact ⟨by omega, hq⟩
        · exact hall k (by omega), hp'⟩, by rw [ewrap]; omega⟩
    refine wp_bif (fun h10 => ?_) fun h10 => ?_
    · have jL : j < L.length := by have := of_decide_eq_true h10; omega
      refine wp_idx En.len (by omega) hp5 hp5.le_uni hm Ent.none 1 (by omega) (by omega) (by omega) fun cs hcs => ?_
      obtain ⟨ea, en, ec, rfl, _⟩ := hcs
      ((repeat apply Exists.intro); refine ⟨rfl, ?_⟩)
      refine wp_idx En.len (by omega) hp5 hp5.le_uni hl Ent.none 1 (by omega) (by omega) (by omega) fun cs hcs => ?_
      obtain ⟨ea, en, ec, rfl, _⟩ := hcs
      ((repeat apply Exists.intro); refine ⟨rfl, ?_⟩)
      refine wp_bif (fun h11 => ?_) fun h11 => ?_
      · have hlc := hl.2.1
        have hmc := hm.2.1
        rw [ewrap]
        refine ⟨⟨by omega, by omega⟩, ⟨by omega, by omega⟩, ?_⟩
        have sid : ∀ {a : Option Addr} {c : Nat}, (if c = 0 then a else Option.map (fun x : Addr => x) a) = a := by intro a c; split <;> simp
        rw [sid, sid]
        refine wp_call (sameEntries (es := L.take (j + 1)) (fs := N.take (j + 1)) hp5 (hl.take En.len (k := j + 1) (by omega)) (hm.take En.len (k := j + 1) (by omega)) (by rw [List.length_take]; omega)) fun v12 w12 h12 => ?_
        obtain ⟨b12, rfl, i12, hp12⟩ := h12
        ((repeat apply Exists.intro); refine ⟨rfl, ?_⟩)
        refine wp_bif (fun _ => ⟨rfl, hp12⟩) fun h13 => ?_
        rw [← ewrap]
        exact on _ hp12 fun _ _ => i12.1 (by simpa using h13)
      · refine on _ hp5 fun _ he => ?_
        rw [Int.toNat_natCast] at h11
        rw [he] at h11
        simp at h11
    · have jL : ¬ j < L.length := by have := of_decide_eq_false h10; omega
      exact on _ hp5 fun h => absurd h jL
  have hNt : ∀ k, k < N.length → (N.getD k Ent.none).term ≤ 9 ∧ (k < L.length → (L.getD k Ent.none).term = (N.getD k Ent.none).term → L.take (k + 1) = N.take (k + 1)) := fun k hk => by
    have : ¬ (j : Int) < mn := of_decide_eq_false h
    exact hall k (by omega)
  clear hall hj h
  have mem_getD : ∀ {l : List Ent}, (∀ k, k < l.length → (l.getD k Ent.none).term ≤ 9) → ∀ e ∈ l, e.term ≤ 9 := fun {l} hh e he => by
    obtain ⟨k, hk, rfl⟩ := List.getElem_of_mem he
    have := hh k hk
    rwa [List.getD_eq_getElem?_getD, List.getElem?_eq_getElem hk] at this
  have two : Two L N := ⟨l15, m15, mem_getD hLt, mem_getD fun k hk => (hNt k hk).1, fun k h1 h2 h3 => (hNt k h2).2 h1 h3⟩
  clear hLt hNt mem_getD
  have hkL : Kp H [.int .u64 9, .int .i64 0, .int .u64 0, .int .u64 0, .slice none 0 0, .slice la ln lc] (kpL L) := ⟨⟨none, 0, 0⟩, ⟨la, ln, lc⟩, rfl, Bs.nil _, hl⟩
  have hkN : Kp H [.int .u64 9, .int .i64 0, .int .u64 0, .int .u64 0, .slice none 0 0, .slice ma mn mc] (kpL N) := ⟨⟨none, 0, 0⟩, ⟨ma, mn, mc⟩, rfl, Bs.nil _, hm⟩
  refine wp_call (new_runs hp4 hkL (by show L.length ≤ _; omega)) fun v5 w5 h5 => ?_
  obtain ⟨cs5, H5, rfl, hr5, hp5, le5⟩ := h5
  have hr5' := hr5
  obtain ⟨x1, x2, x3, x4, x5, x6, x7, rfl, _⟩ := hr5
  ((repeat apply Exists.intro); refine ⟨rfl, ?_⟩)
  refine wp_newV hp5 (Vr.nil M) fun pa w6 M6 hp6 v6 => wp_storeV0 hp6 v6 0 rfl (by rfl) (by simp [Value.oneCell']) fun w7 M7 hp7 v7 => ?_
  refine wp_call (new_runs hp7 (hkN.mono le5) (by show N.length ≤ _; omega)) fun v8 w8 h8 => ?_
  obtain ⟨cs8, H8, rfl, hr8, hp8, le8⟩ := h8
  have hr8' := hr8
  obtain ⟨b1, b2, b3, b4, b5, b6, b7, rfl, _⟩ := hr8
  ((repeat apply Exists.intro); refine ⟨rfl, ?_⟩)
  refine wp_newV hp8 v7 fun pb w9 M9 hp9 v9 => wp_storeV0 hp9 v9 1 rfl (by rfl) (by simp [Value.oneCell']) fun w10 M10 hp10 v10 => ?_
  have vA : Vr M M10 [(_, _), (_, _)] := v10
  (refine wp_load (hp10.loadM (vA.get 0 rfl) (by simp)) ?_; (repeat apply Exists.intro); refine ⟨rfl, ?_⟩)
  have fit1 : Fit (newR 1 2 (kpL L)) := fit_new (by omega) (by show (0 : Int) ≤ 0; omega) (by show (0 : Int) + L.length ≤ _; omega) (by show (0 : Int) ≤ 9; omega) (by show (9 : Int) ≤ _; omega) (by show L.length ≤ _; omega)
  refine wp_call ((timeout_runs hp10 (hr5'.mono le8) fit1).mono fun v w' h => top_apart h (mt_timeout L) rfl) fun v11 w11 h11 => ?_
  obtain ⟨a1, a2, a3, a4, a5, a6, a7, u1, u2, u3, H11, rfl, _, hrA, _, hp11, le11⟩ := h11
  ((repeat apply Exists.intro); refine ⟨rfl, ?_⟩)
  refine wp_storeV0 hp11 vA 0 rfl (by rfl) (by simp [Value.oneCell']) fun w12 M12 hp12 v12 => ?_
  have vB : Vr M M12 [(_, _), (_, _)] := v12
  (refine wp_load (hp12.loadM (vB.get 0 rfl) (by simp)) ?_; (repeat apply Exists.intro); refine ⟨rfl, ?_⟩)
  have hvote : Ms H11 [.int .i64 2, .int .i64 2, .int .i64 1, .int .u64 10, .int .u64 0, .int .u64 0, .slice none 0 0, .int .u64 0, .int .u64 0, .bool true, .int .u64 0, .int .u64 0, .slice none 0 0, .int .i64 0, .int .i64 0, .int .u64 0, .string ⟨#[]⟩, .string ⟨#[]⟩, .int .u64 0, .int .i64 0, .string ⟨#[]⟩] mtVote := ⟨_, _, _, _, _, _, rfl, Sl.nil _ _, Bs.nil _⟩
  refine wp_call ((got_runs hp12 hrA hvote (mt_fitA1 l15) mt_lmVote).mono fun v w' h => top_apart h (mt_lead two.lt).1 (mt_lead two.lt).2) fun v13 w13 h13 => ?_
  obtain ⟨c1, c2, c3, c4, c5, c6, c7, o1, o2, o3, H13, rfl, _, hrC, hsO, hp13, le13⟩ := h13
  ((repeat apply Exists.intro); refine ⟨rfl, ?_⟩)
  refine wp_newV hp13 vB fun po w14 M14 hp14 v14 => wp_storeV0 hp14 v14 0 rfl (by rfl) (by simp [Value.oneCell']) fun w15 M15 hp15 v15 => ?_
  refine wp_storeV0 hp15 v15 2 rfl (by rfl) (by simp [Value.oneCell']) fun w16 M16 hp16 v16 => ?_
  have vC : Vr M M16 [(_, _), (_, _), (_, _)] := v16
  (refine wp_load (hp16.loadM (vC.get 0 rfl) (by simp)) ?_; (repeat apply Exists.intro); refine ⟨rfl, ?_⟩)
  refine wp_noM rfl ?_
  have leZ : H.le H13 := ((le5.trans le8).trans le11).trans le13
  have st0 : MtSt w0 H M pa pb po (mtA L L.length 0) (mtB N 9 0) [mtApp L L.length] w16 := ⟨c1, c2, c3, c4, c5, c6, c7, b1, b2, b3, b4, b5, b6, b7, o1, o2, o3, H13, M16, hrC, (hr8'.mono le11).mono le13, hsO, hp16, leZ, vC⟩
  clear vA vB vC v6 v7 v9 v10 v12 v14 v15 v16 hp5 hp6 hp7 hp8 hp9 hp10 hp11 hp12 hp13 hp14 hp15 hp16 hrA hrC hsO hr5' hr8' le5 le8 le11 le13 leZ hkL hkN hvote
  refine ⟨fun vs w' => ∃ j : Nat, vs = [.int .i64 j] ∧ j ≤ 60 ∧ ((∃ (p : Nat) (c t ld : Int), j + p ≤ 16 ∧ p ≤ L.length ∧ (c = 0 ∨ c = 1) ∧ (t = 9 ∧ ld = 0 ∨ t = 10 ∧ ld = 1) ∧ MtSt w0 H M pa pb po (mtA L p c) (mtB N t ld) [mtApp L p] w') ∨ MtSt w0 H M pa pb po (mtA3 L) (mtB2 L) [] w'),
    fun vs _ => match vs with | [.int _ q] => 61 - q.toNat | _ => 0, ⟨0, rfl, by omega, .inl ⟨L.length, 0, 9, 0, by omega, Nat.le_refl _, .inl rfl, .inl ⟨rfl, rfl⟩, st0⟩⟩, ?_⟩
  rintro vs w17 ⟨j, rfl, hj, hst⟩
  ((repeat apply Exists.intro); refine ⟨rfl, ?_⟩)
  refine wp_bif (fun h => ?_) fun h => ?_
  rotate_left
  · have g : ¬ (j : Int) < 60 := of_decide_eq_false h
    rcases hst with ⟨p, c, t, ld, h1, _⟩ | hst
    · omega
    · exact meetV_wp (Mp.le.refl _) hln l15 hst
  rcases hst with ⟨p, c, t, ld, hjp, hpL, hc, ht, hst⟩ | hst
  rotate_left
  · obtain ⟨a1, a2, a3, a4, a5, a6, a7, b1, b2, b3, b4, b5, b6, b7, o1, o2, o3, H1, M1, hA, hB, hO, hp, hle, v⟩ := id hst
    have nq : o2.n = 0 := hO.1
    (refine wp_load (hp.loadM (v.get 2 rfl) (by simp)) ?_; (repeat apply Exists.intro); refine ⟨rfl, ?_⟩)
    rw [nq]
    refine wp_noM (by decide) ?_
    exact meetV_wp (Mp.le.refl _) hln l15 hst
  obtain ⟨a1, a2, a3, a4, a5, a6, a7, b1, b2, b3, b4, b5, b6, b7, o1, o2, o3, H1, M1, hA, hB, hO, hp, hle, v⟩ := hst
  -- what comes of it
  have step : ∃ (B' : Raft) (m1 : Msg) (A' : Raft) (S' : List Msg), ((got (mtB N t ld) (mtApp L p)).r = B' ∧ (got (mtB N t ld) (mtApp L p)).q.send = [m1]) ∧ Lm m1 ∧ ((got (mtA L p c) m1).r = A' ∧ (got (mtA L p c) m1).q.send = S') ∧
      ((∃ p' : Nat, j + 1 + p' ≤ 16 ∧ p' ≤ L.length ∧ A' = mtA L p' 1 ∧ B' = mtB N 10 1 ∧ S' = [mtApp L p']) ∨ (A' = mtA3 L ∧ B' = mtB2 L ∧ S' = [])) := by
    by_cases hh : mtHas L N p
    · exact ⟨_, _, _, _, mt_yea two hpL ht hh, mt_lmDone l15, mt_done hc, .inr ⟨rfl, rfl, rfl⟩⟩
    · obtain ⟨h1, h2, h3⟩ := mt_nay ht hh
      exact ⟨_, _, _, _, ⟨h2, h3⟩, mt_lmNay (by omega), mt_back hc hpL (by omega), .inl ⟨min N.length (p - 1), by omega, by omega, rfl, rfl, rfl⟩⟩
  obtain ⟨B', m1, A', S', hgB, lm1, hgA, hnext⟩ := step
  have nq : o2.n = 1 := hO.1
  obtain ⟨mb, mo, mc1, ma1, mi, hmc1, mat⟩ := msgIn (w0 := w0) hO (i := 0) (x := mtApp L p) rfl
  have hmc1' := hmc1
  obtain ⟨e1, e2, e3, e4, e5, e6, rfl, _⟩ := hmc1
  simp only [Nat.zero_mul, Nat.add_zero] at mat
  (refine wp_load (hp.loadM (v.get 2 rfl) (by simp)) ?_; (repeat apply Exists.intro); refine ⟨rfl, ?_⟩)
  rw [nq]
  refine wp_yesM (by decide) ?_
  (refine wp_load (hp.loadM (v.get 2 rfl) (by simp)) ?_; (repeat apply Exists.intro); refine ⟨rfl, ?_⟩)
  refine ⟨_, ma1, ⟨by omega, by omega⟩, ?_⟩
  simp only [add_mk]
  (refine wp_load (mat hp 2 1 (by omega)) ?_; (repeat apply Exists.intro); refine ⟨rfl, ?_⟩)
  refine wp_noM rfl ?_
  refine wp_newV hp v fun pq w18 M18 hp18 v18 => ?_
  have hp19 := hp18.drew
  (refine wp_load (hp19.loadM (v18.get 1 rfl) (by simp [cells17])) ?_; (repeat apply Exists.intro); refine ⟨rfl, ?_⟩)
  (refine wp_load (hp19.loadM (v18.get 2 rfl) (by simp)) ?_; (repeat apply Exists.intro); refine ⟨rfl, ?_⟩)
  refine ⟨_, ma1, ⟨by omega, by omega⟩, ?_⟩
  (refine wp_load (mat hp19 0 21 (by omega)) ?_; (repeat apply Exists.intro); refine ⟨rfl, ?_⟩)
  refine wp_call ((got_runs hp19 hB hmc1' (mt_fitB (by omega) ht) (mt_lmApp l15 hpL)).mono fun v w' h => top_apart h hgB.1 hgB.2) fun v20 w20 h20 => ?_
  obtain ⟨d1, d2, d3, d4, d5, d6, d7, z1, z2, z3, H20, rfl, _, hrB, hsP, hp20, le20⟩ := h20
  ((repeat apply Exists.intro); refine ⟨rfl, ?_⟩)
  refine wp_storeV0 hp20 v18 1 rfl (by rfl) (by simp [Value.oneCell']) fun w21 M21 hp21 v21 => ?_
  refine wp_storeV0 hp21 v21 3 rfl (by rfl) (by simp [Value.oneCell']) fun w22 M22 hp22 v22 => ?_
  have vD : Vr M M22 [(_, _), (_, _), (_, _), (_, _)] := v22
  have nz : z2.n = 1 := hsP.1
  (refine wp_load (hp22.loadM (vD.get 3 rfl) (by simp)) ?_; (repeat apply Exists.intro); refine ⟨rfl, ?_⟩)
  rw [nz]
  refine wp_noM rfl ?_
  obtain ⟨nb, no, nc, na, ni, hnc, nat⟩ := msgIn (w0 := w0) hsP (i := 0) (x := m1) rfl
  have hnc' := hnc
  obtain ⟨f1, f2, f3, f4, f5, f6, rfl, _⟩ := hnc
  simp only [Nat.zero_mul, Nat.add_zero] at nat
  have hp23 := hp22.drew
  (refine wp_load (hp23.loadM (vD.get 0 rfl) (by simp [cells17])) ?_; (repeat apply Exists.intro); refine ⟨rfl, ?_⟩)
  (refine wp_load (hp23.loadM (vD.get 3 rfl) (by simp)) ?_; (repeat apply Exists.intro); refine ⟨rfl, ?_⟩)
  refine ⟨_, na, ⟨by omega, by omega⟩, ?_⟩
  (refine wp_load (nat hp23 0 21 (by omega)) ?_; (repeat apply Exists.intro); refine ⟨rfl, ?_⟩)
  refine wp_call ((got_runs hp23 (hA.mono le20) hnc' (mt_fitA l15 hpL) lm1).mono fun v w' h => top_apart h hgA.1 hgA.2) fun v24 w24 h24 => ?_
  obtain ⟨g1, g2, g3, g4, g5, g6, g7, y1, y2, y3, H24, rfl, _, hrA, hsA, hp24, le24⟩ := h24
  ((repeat apply Exists.intro); refine ⟨rfl, ?_⟩)
  refine wp_storeV0 hp24 vD 0 rfl (by rfl) (by simp [Value.oneCell']) fun w25 M25 hp25 v25 => ?_
  refine wp_storeV0 hp25 v25 2 rfl (by rfl) (by simp [Value.oneCell']) fun w26 M26 hp26 v26 => ?_
  have vE : Vr M M26 [(pa, cells17 A' g1 g2 g3 g4 g5 g6 g7), (pb, cells17 B' d1 d2 d3 d4 d5 d6 d7), (po, [.slice y1.a y1.n y1.c, .slice y2.a y2.n y2.c, .slice y3.a y3.n y3.c]), (pq, _)] := v26
  obtain ⟨M27, hp27, v27⟩ := Vr.pop (l := [_, _, _]) hp26 vE
  have stN : MtSt w0 H M pa pb po A' B' S' w26 := ⟨g1, g2, g3, g4, g5, g6, g7, d1, d2, d3, d4, d5, d6, d7, y1, y2, y3, H24, M27, hrA, hrB.mono le24, hsA, hp27, (hle.trans le20).trans le24, v27⟩
  have ewrap : IntKind.i64.wrap ((j : Int) + 1) = ((j + 1 : Nat) : Int) := by rw [wrap_i64 (by omega) (by omega)]; rfl
  refine ⟨⟨j + 1, by rw [ewrap], by omega, ?_⟩, ?_⟩
  · rcases hnext with ⟨p', h1, h2, rfl, rfl, rfl⟩ | ⟨rfl, rfl, rfl⟩
    · exact .inl ⟨p', 1, 10, 1, h1, h2, .inr rfl, .inr ⟨rfl, rfl⟩, stN⟩
    · exact .inr stN
  · show 61 - (IntKind.i64.wrap ((j : Int) + 1)).toNat < 61 - (j : Int).toNat
    rw [ewrap]; omega
end
end Go.Proofs.Ytnbfffmdplcajaa
