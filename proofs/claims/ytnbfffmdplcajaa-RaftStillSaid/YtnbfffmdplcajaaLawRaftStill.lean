/- The walk of RaftStill: it returns true. -/
import Derived.Test.YtnbfffmdplcajaaStill
import Derived.Test.YtnbfffmdplcajaaPre
import Derived.Test.YtnbfffmdplcajaaRfE
import Derived.Test.YtnbfffmdplcajaaTreeW6
namespace Go.Proofs.Ytnbfffmdplcajaa
open Go.Vc Go.Vc.Rf

section
variable {w0 w : World} {H M : Mp} {S : Nat → Nat → Sl3}

theorem follower_runs {r : Raft} {ss ls vs ns ms ak rs : Sl3} (hp : Hp w0 w H M) :
    Runs Try.prog 37 [.agg (cells17 r ss ls vs ns ms ak rs).toArray] w fun v w' => v = .agg (cells17 { r with role := 0 } ss ls vs ns ms ak rs).toArray ∧ Hp w0 w' H M := by
  apply r37
  refine wp_newV hp (Vr.nil M) fun p1 w1 M1 hp1 v1 => wp_newV hp1 v1 fun p2 w2 M2 hp2 v2 => ?_
  refine wp_storeV hp2 v2 0 rfl (by simp) (by simp [Value.oneCell']) fun w3 M3 hp3 v3 => ?_
  (refine wp_load (hp3.loadM (v3.get 0 rfl) (by simp [splice])) ?_; (repeat apply Exists.intro); refine ⟨rfl, ?_⟩)
  refine wp_storeV0 hp3 v3 1 rfl (by rfl) (by simp [Value.oneCell']) fun w4 M4 hp4 v4 => ?_
  (refine wp_load (hp4.loadM (v4.get 1 rfl) (by simp)) ?_; (repeat apply Exists.intro); refine ⟨rfl, ?_⟩)
  exact ⟨rfl, v4.done hp4⟩

/-- A variable's list in the array of four. -/
theorem wp_arr {P : Program} {R : Value → World → Prop} {env : Nat → List Value → World → Prop} {p i f : Nat} {C : List Value} {s : Sl3} (st : St4 w0 H M S w) (hf : H p = some C) (hl : C.length = 68) (hi : i < 4) (h17 : f < 17) (hc : (C.drop (i * 17 + f)).take 1 = [.slice s.a s.n s.c])
    {K : List Value → VC} (hK : (K [.slice s.a s.n s.c]).wp P R env w) : (VC.some (some ⟨p, 0, none⟩) fun x => .need ((0 : Int) ≤ (i : Int) ∧ (i : Int) < ((4 : Nat) : Int)) <| .load ((x.add ((i : Int).toNat * 17)).add f) 1 K).wp P R env w := by
  refine ⟨_, rfl, ⟨by omega, by omega⟩, ?_⟩
  simp only [add_mk, Nat.zero_add, Int.toNat_natCast]
  refine wp_load (st.loadH hf (by omega)) ?_
  rw [hc]
  exact hK

def stillV (p1 p106 p369 : Nat) : VC :=
  .loop 0 [.int .i64 0] (fun v370 =>
  .exI fun i371 =>
  .isL v370 [.int .i64 i371] <|
  bif (decide (i371 < (↑4 : Int))) then
   (.loop 1 [.int .i64 0] (fun v372 =>
    .exI fun i373 =>
    .isL v372 [.int .i64 i373] <|
    .some (some ⟨p369, 0, none⟩) fun x374 =>
    .need ((0 : Int) ≤ i371 ∧ i371 < (↑4 : Int)) <|
    .load ((x374.add (i371.toNat * 17)).add 7) 1 fun v375 =>
    .exS fun a376 n376 c376 =>
    .isL v375 [.slice a376 n376 c376] <|
    bif (decide (i373 < (↑n376 : Int))) then
     (.some (some ⟨p369, 0, none⟩) fun x377 =>
     .need ((0 : Int) ≤ i371 ∧ i371 < (↑4 : Int)) <|
     .load ((x377.add (i371.toNat * 17)).add 7) 1 fun v378 =>
     .exS fun a379 n379 c379 =>
     .isL v378 [.slice a379 n379 c379] <|
     .some a379 fun x380 =>
     .need ((0 : Int) ≤ i373 ∧ i373 < (↑n379 : Int)) <|
     .store (x380.add (i373.toNat * 2)) [.int .u64 77] <|
     .again 1 [.int .i64 (IntKind.i64.wrap (i373 + 1))])
    else
    (.draw <|
    .some (some ⟨p369, 0, none⟩) fun x381 =>
    .need ((0 : Int) ≤ i371 ∧ i371 < (↑4 : Int)) <|
    .load ((x381.add (i371.toNat * 17)).add 13) 1 fun v382 =>
    .exS fun a383 n383 c383 =>
    .isL v382 [.slice a383 n383 c383] <|
    .some (some ⟨p369, 0, none⟩) fun x384 =>
    .need ((0 : Int) ≤ i371 ∧ i371 < (↑4 : Int)) <|
    .load ((x384.add (i371.toNat * 17)).add 12) 1 fun v385 =>
    .exS fun a386 n386 c386 =>
    .isL v385 [.slice a386 n386 c386] <|
    bif ((↑n383 : Int) != (↑n386 : Int)) then
     (.ret (.bool false))
    else
    (.some (some ⟨p369, 0, none⟩) fun x387 =>
    .need ((0 : Int) ≤ i371 ∧ i371 < (↑4 : Int)) <|
    .load ((x387.add (i371.toNat * 17)).add 14) 1 fun v388 =>
    .exS fun a389 n389 c389 =>
    .isL v388 [.slice a389 n389 c389] <|
    .some (some ⟨p369, 0, none⟩) fun x390 =>
    .need ((0 : Int) ≤ i371 ∧ i371 < (↑4 : Int)) <|
    .load ((x390.add (i371.toNat * 17)).add 12) 1 fun v391 =>
    .exS fun a392 n392 c392 =>
    .isL v391 [.slice a392 n392 c392] <|
    bif ((↑n389 : Int) != (↑n392 : Int)) then
     (.ret (.bool false))
    else
    (.loop 1 [.int .i64 0] (fun v393 =>
     .exI fun i394 =>
     .isL v393 [.int .i64 i394] <|
     .some (some ⟨p369, 0, none⟩) fun x395 =>
     .need ((0 : Int) ≤ i371 ∧ i371 < (↑4 : Int)) <|
     .load ((x395.add (i371.toNat * 17)).add 12) 1 fun v396 =>
     .exS fun a397 n397 c397 =>
     .isL v396 [.slice a397 n397 c397] <|
     bif (decide (i394 < (↑n397 : Int))) then
      (.draw <|
      .some (some ⟨p369, 0, none⟩) fun x398 =>
      .need ((0 : Int) ≤ i371 ∧ i371 < (↑4 : Int)) <|
      .load ((x398.add (i371.toNat * 17)).add 12) 1 fun v399 =>
      .exS fun a400 n400 c400 =>
      .isL v399 [.slice a400 n400 c400] <|
      .some (some ⟨p369, 0, none⟩) fun x401 =>
      .need ((0 : Int) ≤ i371 ∧ i371 < (↑4 : Int)) <|
      .load ((x401.add (i371.toNat * 17)).add 13) 1 fun v402 =>
      .exS fun a403 n403 c403 =>
      .isL v402 [.slice a403 n403 c403] <|
      .some (some ⟨p369, 0, none⟩) fun x404 =>
      .need ((0 : Int) ≤ i371 ∧ i371 < (↑4 : Int)) <|
      .load ((x404.add (i371.toNat * 17)).add 14) 1 fun v405 =>
      .exS fun a406 n406 c406 =>
      .isL v405 [.slice a406 n406 c406] <|
      .some a400 fun x407 =>
      .need ((0 : Int) ≤ i394 ∧ i394 < (↑n400 : Int)) <|
      .store (x407.add (i394.toNat * 1)) [.int .u64 77] <|
      .some a403 fun x408 =>
      .need ((0 : Int) ≤ i394 ∧ i394 < (↑n403 : Int)) <|
      .store (x408.add (i394.toNat * 1)) [.int .u64 77] <|
      .some a406 fun x409 =>
      .need ((0 : Int) ≤ i394 ∧ i394 < (↑n406 : Int)) <|
      .store (x409.add (i394.toNat * 1)) [.int .u64 77] <|
      .again 1 [.int .i64 (IntKind.i64.wrap (i394 + 1))])
     else
     (.loop 1 [.int .i64 0] (fun v410 =>
      .exI fun i411 =>
      .isL v410 [.int .i64 i411] <|
      .some (some ⟨p369, 0, none⟩) fun x412 =>
      .need ((0 : Int) ≤ i371 ∧ i371 < (↑4 : Int)) <|
      .load ((x412.add (i371.toNat * 17)).add 11) 1 fun v413 =>
      .exS fun a414 n414 c414 =>
      .isL v413 [.slice a414 n414 c414] <|
      bif (decide (i411 < (↑n414 : Int))) then
       (.draw <|
       .some (some ⟨p369, 0, none⟩) fun x415 =>
       .need ((0 : Int) ≤ i371 ∧ i371 < (↑4 : Int)) <|
       .load ((x415.add (i371.toNat * 17)).add 11) 1 fun v416 =>
       .exS fun a417 n417 c417 =>
       .isL v416 [.slice a417 n417 c417] <|
       .some (some ⟨p369, 0, none⟩) fun x418 =>
       .need ((0 : Int) ≤ i371 ∧ i371 < (↑4 : Int)) <|
       .load ((x418.add (i371.toNat * 17)).add 11) 1 fun v419 =>
       .exS fun a420 n420 c420 =>
       .isL v419 [.slice a420 n420 c420] <|
       .some a420 fun x421 =>
       .need ((0 : Int) ≤ i411 ∧ i411 < (↑n420 : Int)) <|
       .load (x421.add (i411.toNat * 1)) 1 fun v422 =>
       .exB fun b423 =>
       .isL v422 [.bool b423] <|
       .some a417 fun x424 =>
       .need ((0 : Int) ≤ i411 ∧ i411 < (↑n417 : Int)) <|
       .store (x424.add (i411.toNat * 1)) [.bool !b423] <|
       .again 1 [.int .i64 (IntKind.i64.wrap (i411 + 1))])
      else
      (.again 0 [.int .i64 (IntKind.i64.wrap (i371 + 1))])))))))))
  else
  (.load ⟨p106, 0, none⟩ 17 fun v425 =>
  .exI fun i426 =>
  .exI fun i427 =>
  .exI fun i428 =>
  .exI fun i429 =>
  .exI fun i430 =>
  .exI fun i431 =>
  .exS fun a432 n432 c432 =>
  .exS fun a433 n433 c433 =>
  .exI fun i434 =>
  .exI fun i435 =>
  .exI fun i436 =>
  .exS fun a437 n437 c437 =>
  .exS fun a438 n438 c438 =>
  .exS fun a439 n439 c439 =>
  .exS fun a440 n440 c440 =>
  .exI fun i441 =>
  .exS fun a442 n442 c442 =>
  .isL v425 [.int .u64 i426, .int .i64 i427, .int .i64 i428, .int .i64 i429, .int .u64 i430, .int .u64 i431, .slice a432 n432 c432, .slice a433 n433 c433, .int .u64 i434, .int .i64 i435, .int .i64 i436, .slice a437 n437 c437, .slice a438 n438 c438, .slice a439 n439 c439, .slice a440 n440 c440, .int .u64 i441, .slice a442 n442 c442] <|
  .load ⟨p1, 0, none⟩ 17 fun v443 =>
  .exI fun i444 =>
  .exI fun i445 =>
  .exI fun i446 =>
  .exI fun i447 =>
  .exI fun i448 =>
  .exI fun i449 =>
  .exS fun a450 n450 c450 =>
  .exS fun a451 n451 c451 =>
  .exI fun i452 =>
  .exI fun i453 =>
  .exI fun i454 =>
  .exS fun a455 n455 c455 =>
  .exS fun a456 n456 c456 =>
  .exS fun a457 n457 c457 =>
  .exS fun a458 n458 c458 =>
  .exI fun i459 =>
  .exS fun a460 n460 c460 =>
  .isL v443 [.int .u64 i444, .int .i64 i445, .int .i64 i446, .int .i64 i447, .int .u64 i448, .int .u64 i449, .slice a450 n450 c450, .slice a451 n451 c451, .int .u64 i452, .int .i64 i453, .int .i64 i454, .slice a455 n455 c455, .slice a456 n456 c456, .slice a457 n457 c457, .slice a458 n458 c458, .int .u64 i459, .slice a460 n460 c460] <|
  .call 29 ([.agg #[.int .u64 i426, .int .i64 i427, .int .i64 i428, .int .i64 i429, .int .u64 i430, .int .u64 i431, .slice a432 n432 c432, .slice a433 n433 c433, .int .u64 i434, .int .i64 i435, .int .i64 i436, .slice a437 n437 c437, .slice a438 n438 c438, .slice a439 n439 c439, .slice a440 n440 c440, .int .u64 i441, .slice a442 n442 c442], .agg #[.int .u64 i444, .int .i64 i445, .int .i64 i446, .int .i64 i447, .int .u64 i448, .int .u64 i449, .slice a450 n450 c450, .slice a451 n451 c451, .int .u64 i452, .int .i64 i453, .int .i64 i454, .slice a455 n455 c455, .slice a456 n456 c456, .slice a457 n457 c457, .slice a458 n458 c458, .int .u64 i459, .slice a460 n460 c460]]) fun v461 =>
  .exB fun b462 =>
  .isL [v461] [.bool b462] <|
  .ret (.bool b462)))

set_option maxHeartbeats 4000000 in
theorem stillV_wp {env : Nat → List Value → World → Prop} {H0 : Mp} {p1 p106 p369 : Nat} {C : List Value} {r : Raft} {ss ls vs ns ms ak rs ss' ls' vs' ns' ms' ak' rs' : Sl3} (hle : H0.le H) (st : St4 w0 H M S w) (f369 : H p369 = some C) (hl : C.length = 68)
    (hC : ∀ i, i < 4 → (C.drop (i * 17 + 7)).take 1 = [.slice (S i 0).a (S i 0).n (S i 0).c] ∧ (C.drop (i * 17 + 11)).take 1 = [.slice (S i 1).a (S i 1).n (S i 1).c] ∧ (C.drop (i * 17 + 12)).take 1 = [.slice (S i 2).a (S i 2).n (S i 2).c] ∧
      (C.drop (i * 17 + 13)).take 1 = [.slice (S i 3).a (S i 3).n (S i 3).c] ∧ (C.drop (i * 17 + 14)).take 1 = [.slice (S i 4).a (S i 4).n (S i 4).c])
    (h3 : ∀ i, i < 4 → (S i 3).n = (S i 2).n ∧ (S i 4).n = (S i 2).n) (hn : ∀ i, i < 4 → ∀ c, c < 6 → (S i c).n ≤ 1000000)
    (f106 : H p106 = some (cells17 r ss' ls' vs' ns' ms' ak' rs')) (hA : Ra H (cells17 r ss' ls' vs' ns' ms' ak' rs') r) (f1 : H p1 = some (cells17 r ss ls vs ns ms ak rs)) (hB : Ra H (cells17 r ss ls vs ns ms ak rs) r) (hc : Cpy r) :
    (stillV p1 p106 p369).wp Try.prog (fun v w' => v = .bool true ∧ Hp w0 w' H0 M) env w := by
  unfold stillV
  refine ⟨fun vs w' => ∃ i : Nat, vs = [.int .i64 i] ∧ i ≤ 4 ∧ St4 w0 H M S w', fun vs _ => match vs with | [.int _ q] => 4 - q.toNat | _ => 0, ⟨0, rfl, by omega, st⟩, ?_⟩
  clear st
  rintro vs0 w1 ⟨i, rfl, hi4, st1⟩
  ((repeat apply Exists.intro); refine ⟨rfl, ?_⟩)
  refine wp_bif (fun h => ?_) fun h => ?_
  rotate_left
  · have hp := st1.done
    refine wp_load (st1.loadH f106 (by simp [cells17])) ?_
    ((repeat apply Exists.intro); refine ⟨rfl, ?_⟩)
    refine wp_load (st1.loadH f1 (by simp [cells17])) ?_
    ((repeat apply Exists.intro); refine ⟨rfl, ?_⟩)
    refine wp_call ((same_runs (r := r) hp hA hB hc)) fun v2 w2 h2 => ?_
    obtain ⟨rfl, hp2⟩ := h2
    ((repeat apply Exists.intro); refine ⟨rfl, ?_⟩)
    exact ⟨rfl, hp2.lessH hle⟩
  have hi : i < 4 := by have := of_decide_eq_true h; omega
  obtain ⟨q0, q1, q2, q3, q4⟩ := hC i hi
  obtain ⟨t3, t4⟩ := h3 i hi
  have n0 := hn i hi 0 (by omega)
  have n1 := hn i hi 1 (by omega)
  have n2 := hn i hi 2 (by omega)
  -- the log
  refine ⟨fun vs w' => ∃ j : Nat, vs = [.int .i64 j] ∧ j ≤ (S i 0).n ∧ St4 w0 H M S w', fun vs _ => match vs with | [.int _ q] => (S i 0).n - q.toNat | _ => 0, ⟨0, rfl, Nat.zero_le _, st1⟩, ?_⟩
  clear st1
  rintro vs0 w2 ⟨j, rfl, hj, st2⟩
  ((repeat apply Exists.intro); refine ⟨rfl, ?_⟩)
  refine wp_arr st2 f369 hl hi (by omega) q0 ?_
  ((repeat apply Exists.intro); refine ⟨rfl, ?_⟩)
  refine wp_bif (fun h => ?_) fun h => ?_
  · have hjl : j < (S i 0).n := by have := of_decide_eq_true h; omega
    refine wp_arr st2 f369 hl hi (by omega) q0 ?_
    ((repeat apply Exists.intro); refine ⟨rfl, ?_⟩)
    refine wp_stG st2 i 0 hi (by omega) rfl (by decide) rfl hjl rfl (fun h => by omega) fun w3 st3 => ?_
    have ew : IntKind.i64.wrap ((j : Int) + 1) = ((j + 1 : Nat) : Int) := by rw [wrap_i64 (by omega) (by omega)]; rfl
    refine ⟨⟨j + 1, by rw [ew], hjl, st3⟩, ?_⟩
    show (S i 0).n - (IntKind.i64.wrap ((j : Int) + 1)).toNat < (S i 0).n - (j : Int).toNat
    rw [ew]; omega
  have st3 := st2.drew
  clear st2
  refine wp_arr st3 f369 hl hi (by omega) q3 ?_
  ((repeat apply Exists.intro); refine ⟨rfl, ?_⟩)
  refine wp_arr st3 f369 hl hi (by omega) q2 ?_
  ((repeat apply Exists.intro); refine ⟨rfl, ?_⟩)
  refine wp_bif (fun h => by rw [t3] at h; simp at h) fun _ => ?_
  refine wp_arr st3 f369 hl hi (by omega) q4 ?_
  ((repeat apply Exists.intro); refine ⟨rfl, ?_⟩)
  refine wp_arr st3 f369 hl hi (by omega) q2 ?_
  ((repeat apply Exists.intro); refine ⟨rfl, ?_⟩)
  refine wp_bif (fun h => by rw [t4] at h; simp at h) fun _ => ?_
  -- a leader's lists
  refine ⟨fun vs w' => ∃ j : Nat, vs = [.int .i64 j] ∧ j ≤ (S i 2).n ∧ St4 w0 H M S w', fun vs _ => match vs with | [.int _ q] => (S i 2).n - q.toNat | _ => 0, ⟨0, rfl, Nat.zero_le _, st3⟩, ?_⟩
  clear st3 hj
  rintro vs0 w4 ⟨j, rfl, hj, st4⟩
  ((repeat apply Exists.intro); refine ⟨rfl, ?_⟩)
  refine wp_arr st4 f369 hl hi (by omega) q2 ?_
  ((repeat apply Exists.intro); refine ⟨rfl, ?_⟩)
  refine wp_bif (fun h => ?_) fun h => ?_
  · have hjl : j < (S i 2).n := by have := of_decide_eq_true h; omega
    have st5 := st4.drew
    refine wp_arr st5 f369 hl hi (by omega) q2 ?_
    ((repeat apply Exists.intro); refine ⟨rfl, ?_⟩)
    refine wp_arr st5 f369 hl hi (by omega) q3 ?_
    ((repeat apply Exists.intro); refine ⟨rfl, ?_⟩)
    refine wp_arr st5 f369 hl hi (by omega) q4 ?_
    ((repeat apply Exists.intro); refine ⟨rfl, ?_⟩)
    refine wp_stG st5 i 2 hi (by omega) rfl (by decide) rfl hjl rfl (fun h => by omega) fun w6 st6 => ?_
    refine wp_stG st6 i 3 hi (by omega) rfl (by decide) rfl (by omega) rfl (fun h => by omega) fun w7 st7 => ?_
    refine wp_stG st7 i 4 hi (by omega) rfl (by decide) rfl (by omega) rfl (fun h => by omega) fun w8 st8 => ?_
    have ew : IntKind.i64.wrap ((j : Int) + 1) = ((j + 1 : Nat) : Int) := by rw [wrap_i64 (by omega) (by omega)]; rfl
    refine ⟨⟨j + 1, by rw [ew], hjl, st8⟩, ?_⟩
    show (S i 2).n - (IntKind.i64.wrap ((j : Int) + 1)).toNat < (S i 2).n - (j : Int).toNat
    rw [ew]; omega
  -- votes
  refine ⟨fun vs w' => ∃ j : Nat, vs = [.int .i64 j] ∧ j ≤ (S i 1).n ∧ St4 w0 H M S w', fun vs _ => match vs with | [.int _ q] => (S i 1).n - q.toNat | _ => 0, ⟨0, rfl, Nat.zero_le _, st4⟩, ?_⟩
  clear st4 hj
  rintro vs0 w5 ⟨j, rfl, hj, st5⟩
  ((repeat apply Exists.intro); refine ⟨rfl, ?_⟩)
  refine wp_arr st5 f369 hl hi (by omega) q1 ?_
  ((repeat apply Exists.intro); refine ⟨rfl, ?_⟩)
  refine wp_bif (fun h => ?_) fun h => ?_
  · have hjl : j < (S i 1).n := by have := of_decide_eq_true h; omega
    have st6 := st5.drew
    refine wp_arr st6 f369 hl hi (by omega) q1 ?_
    ((repeat apply Exists.intro); refine ⟨rfl, ?_⟩)
    refine wp_arr st6 f369 hl hi (by omega) q1 ?_
    ((repeat apply Exists.intro); refine ⟨rfl, ?_⟩)
    refine wp_ldG st6 i hi rfl hjl fun b => ?_
    ((repeat apply Exists.intro); refine ⟨rfl, ?_⟩)
    refine wp_stG st6 i 1 hi (by omega) rfl (by decide) rfl hjl rfl (fun _ => ⟨_, rfl⟩) fun w7 st7 => ?_
    have ew : IntKind.i64.wrap ((j : Int) + 1) = ((j + 1 : Nat) : Int) := by rw [wrap_i64 (by omega) (by omega)]; rfl
    refine ⟨⟨j + 1, by rw [ew], hjl, st7⟩, ?_⟩
    show (S i 1).n - (IntKind.i64.wrap ((j : Int) + 1)).toNat < (S i 1).n - (j : Int).toNat
    rw [ew]; omega
  · have ew : IntKind.i64.wrap ((i : Int) + 1) = ((i + 1 : Nat) : Int) := by rw [wrap_i64 (by omega) (by omega)]; rfl
    refine ⟨⟨i + 1, by rw [ew], by omega, st5⟩, ?_⟩
    show 4 - (IntKind.i64.wrap ((i : Int) + 1)).toNat < 4 - (i : Int).toNat
    rw [ew]; omega
/-- Variables written, written no more. -/
theorem vr_fix {M' : Mp} {l : List (Nat × List Value)} (hp : Hp w0 w H M') (v : Vr M M' l) : ∃ H', Hp w0 w H' M ∧ H.le H' ∧ ∀ (i : Nat) b cs, l[i]? = some (b, cs) → H' b = some cs :=
  ⟨_, hp.give v.adv, hp.froz_le _, fun i b cs h => by
    have h1 := v.has _ (List.mem_of_getElem? h)
    have h2 : b ∈ l.map Prod.fst := List.mem_map.2 ⟨_, List.mem_of_getElem? h, rfl⟩
    unfold Mp.froz
    rw [if_pos h2]
    show (match M' b with | some cs => some cs | none => H b) = _
    rw [h1.1]⟩

/-- How long a step's lists are. -/
theorem un_sizes {M' : Mp} {r : Raft} {q : Out} {ss : Sl3} {g : Gs} (u : Un M M' g) (sem : Rf.Sem H r q ss g) (sz : Sz 1000 ⟨r, q⟩) (t3 : T3 r) :
    (∀ c, c < 6 → (g c).sl.n ≤ 1000000) ∧ (g 3).sl.n = (g 2).sl.n ∧ (g 4).sl.n = (g 2).sl.n ∧ ∀ v ∈ (g 1).cells, ∃ b, v = .bool b := by
  have e0 := (own_sl En.len (by omega) (u.own 0 (by omega)) ((u.own 0 (by omega)).uni (H := H)) sem.log).1
  have e1 := (own_sl Bo.len (by omega) (u.own 1 (by omega)) ((u.own 1 (by omega)).uni (H := H)) sem.votes).1
  have e2 := (own_sl Nu.len (by omega) (u.own 2 (by omega)) ((u.own 2 (by omega)).uni (H := H)) sem.next).1
  have e3 := (own_sl Nu.len (by omega) (u.own 3 (by omega)) ((u.own 3 (by omega)).uni (H := H)) sem.mat).1
  have e4 := (own_sl Nu.len (by omega) (u.own 4 (by omega)) ((u.own 4 (by omega)).uni (H := H)) sem.acks).1
  have e5 := (own_sl Re.len (by omega) (u.own 5 (by omega)) ((u.own 5 (by omega)).uni (H := H)) sem.reads).1
  have s0 := sz.log
  have s1 := sz.votes
  have s2 := sz.next
  have s3 := sz.mat
  have s4 := sz.acks
  have s5 := sz.reads
  dsimp only at s0 s1 s2 s3 s4 s5
  obtain ⟨t1, t2⟩ := t3
  refine ⟨fun c hc => ?_, by omega, by omega, bo_all sem.votes⟩
  match c, hc with
  | 0, _ => omega
  | 1, _ => omega
  | 2, _ => omega
  | 3, _ => omega
  | 4, _ => omega
  | 5, _ => omega

set_option maxRecDepth 100000 in
set_option maxHeartbeats 16000000 in
theorem raftStill_runs {r : Raft} {m : Msg} {cs cm : List Value} {da : Option Addr} {dn dc : Nat} {d : List UInt8} (hp : Hp w0 w H M) (hr : Ra H cs r) (ho : RaOk r) (hm : Ms H cm m) (mo : m.Ok) (hd : Bs H da dn dc d) :
    Runs Try.prog 6 [.agg cs.toArray, .agg cm.toArray, .slice da dn dc] w fun v w' => v = .bool true ∧ Hp w0 w' H M := by
  have hm0 := hm
  obtain ⟨ss, ls, vs, ns, ms, ak, rs, rfl, hr⟩ := hr
  obtain ⟨a1, n1, c1, a2, n2, c2, rfl, he, hs⟩ := hm
  apply r6
  refine pre_wp hp hr ho hm0 mo rfl fun p1 p2 w1 H1 hp1 le0 f1 f2 may lm hra hma => ?_
  refine wp_bif (fun _ => ⟨rfl, hp1.lessH le0⟩) fun _ => ?_
  have fit := may.fit
  have hdd := hd.mono le0
  -- a copy
  (refine wp_load (hp1.loadH f1 (by simp [cells17])) ?_; (repeat apply Exists.intro); refine ⟨rfl, ?_⟩)
  refine wp_call (follower_runs (r := r) hp1) fun v2 w2 h2 => ?_
  obtain ⟨rfl, hp2⟩ := h2
  ((repeat apply Exists.intro); refine ⟨rfl, ?_⟩)
  have hr0 : Ra H1 (cells17 { r with role := 0 } ss ls vs ns ms ak rs) { r with role := 0 } := by
    obtain ⟨s1, s2, s3, s4, s5, s6, s7, e, hx⟩ := hra
    exact ⟨ss, ls, vs, ns, ms, ak, rs, rfl, (hr.mono le0).state, (hr.mono le0).log, (hr.mono le0).votes, (hr.mono le0).next, (hr.mono le0).mat, (hr.mono le0).acks, (hr.mono le0).reads⟩
  have fit0 : Fit { r with role := 0 } := ⟨⟨fit.bd.idx, fit.bd.last, fit.bd.term0, fit.bd.term, fit.bd.round0, fit.bd.round, fit.bd.mat, fit.bd.next, fit.bd.log, fit.bd.reads, fit.bd.n, fit.bd.save, fit.bd.send, fit.bd.ready⟩, fit.cpy.log, fit.cpy.votes, fit.cpy.next, fit.cpy.mat, fit.cpy.acks, fit.cpy.reads⟩
  have eb : beat { r with role := 0 } = Rf.start { r with role := 0 } := by
    unfold beat
    exact if_neg fun h => absurd (show (0 : Int) = 2 from h.1) (by omega)
  refine wp_call ((refBeat_runs hp2 hr0 fit0 fun h => absurd (show (0 : Int) = 2 from h) (by omega)).mono fun v w' h => top_give h) fun v3 w3 h3 => ?_
  obtain ⟨cs3, cq3, H3, rfl, hr3, hq3, hp3, le3⟩ := h3
  rw [eb] at hr3
  change Ra H3 cs3 { r with role := 0 } at hr3
  obtain ⟨y1, y2, y3, y4, y5, y6, y7, rfl, hy⟩ := hr3
  obtain ⟨z1, z2, z3, rfl, _⟩ := hq3
  ((repeat apply Exists.intro); refine ⟨rfl, ?_⟩)
  refine wp_newV hp3 (Vr.nil M) fun p106 w4 M4 hp4 v4 => wp_newV hp4 v4 fun p107 w5 M5 hp5 v5 => ?_
  refine wp_storeV0 hp5 v5 0 rfl (by rfl) (by simp [Value.oneCell']) fun w6 M6 hp6 v6 => ?_
  refine wp_storeV0 hp6 v6 1 rfl (by rfl) (by simp [Value.oneCell']) fun w7 M7 hp7 v7 => ?_
  (refine wp_load (hp7.loadH (le3 _ _ f1) (by simp [cells17])) ?_; (repeat apply Exists.intro); refine ⟨rfl, ?_⟩)
  refine wp_storeV hp7 v7 0 rfl (by simp) (by simp [Value.oneCell']) fun w8 M8 hp8 v8 => ?_
  have v9 : Vr M M8 [(p106, cells17 r y1 y2 y3 y4 y5 y6 y7), (_, _)] := v8
  obtain ⟨H9, hp9, le9, fx9⟩ := vr_fix hp8 v9
  have f106 := fx9 0 _ _ rfl
  have hW : Ra H9 (cells17 r y1 y2 y3 y4 y5 y6 y7) r := ⟨_, _, _, _, _, _, _, rfl, (hy.mono le9).state, (hy.mono le9).log, (hy.mono le9).votes, (hy.mono le9).next, (hy.mono le9).mat, (hy.mono le9).acks, (hy.mono le9).reads⟩
  have le := le3.trans le9
  clear hp1 hp2 hp3 hp4 hp5 hp6 hp7 hp8 v4 v5 v6 v7 v8 v9 fx9 hr0 fit0 eb hy
  have hp := hp9
  have hra := hra.mono le
  have hma := hma.mono le
  have hdd := hdd.mono le
  have f1 := le _ _ f1
  have f2 := le _ _ f2
  have le := le0.trans le
  have ow := Ow.start M fun _ _ => nilC
  clear hp9
  -- act a
  (refine wp_load (hp.loadH f1 (by simp [cells17])) ?_; (repeat apply Exists.intro); refine ⟨rfl, ?_⟩)
  (refine wp_load (hp.loadH f2 (by simp)) ?_; (repeat apply Exists.intro); refine ⟨rfl, ?_⟩)
  refine wp_call (got_runs hp hra hma fit lm) fun vx wx hx => ?_
  obtain ⟨va, vq, rfl, ssa, ga, Hx, Ma, rfl, rfl, hpx, lex, ua, sema⟩ := hx
  obtain ⟨sza, t3a, t4a, boa⟩ := un_sizes ua sema (sz_got (m := m) may lm) (t3_got (m := m) may)
  replace ow := ow.add ua
  ((repeat apply Exists.intro); refine ⟨rfl, ?_⟩)
  refine wp_newV hpx (Vr.nil Ma) fun pa wy My hpy vy => wp_newV hpy vy fun qa wz Mz hpz vz => ?_
  refine wp_storeV0 hpz vz 0 rfl (by rfl) (by simp [Value.oneCell']) fun wu Mu hpu vu => ?_
  refine wp_storeV0 hpu vu 1 rfl (by rfl) (by simp [Value.oneCell']) fun wv Mv hpv vv => ?_
  have vN : Vr Ma Mv [(pa, cellsG (got r m).r ssa ga), (_, _)] := vv
  obtain ⟨Hn, hpn, len, fxn⟩ := vr_fix hpv vN
  have fa := fxn 0 _ _ rfl
  have lxn := lex.trans len
  clear fxn vN vv vu vz vy hpv hpu hpz hpy hpx hp ua sema
  have hp := hpn
  clear hpn
  replace le := le.trans lxn
  replace hra := hra.mono lxn
  replace hma := hma.mono lxn
  replace hdd := hdd.mono lxn
  replace hW := hW.mono lxn
  replace f1 := lxn _ _ f1
  replace f2 := lxn _ _ f2
  replace f106 := lxn _ _ f106
  clear lxn lex len
  -- act b
  (refine wp_load (hp.loadH f1 (by simp [cells17])) ?_; (repeat apply Exists.intro); refine ⟨rfl, ?_⟩)
  refine wp_call (propose_runs hp hra fit hdd) fun vx wx hx => ?_
  obtain ⟨va, vq, rfl, ssb, gb, Hx, Mb, rfl, rfl, hpx, lex, ub, semb⟩ := hx
  obtain ⟨szb, t3b, t4b, bob⟩ := un_sizes ub semb (sz_propose (d := d) may) (t3_propose (d := d) may)
  replace ow := ow.add ub
  ((repeat apply Exists.intro); refine ⟨rfl, ?_⟩)
  refine wp_newV hpx (Vr.nil Mb) fun pb wy My hpy vy => wp_newV hpy vy fun qb wz Mz hpz vz => ?_
  refine wp_storeV0 hpz vz 0 rfl (by rfl) (by simp [Value.oneCell']) fun wu Mu hpu vu => ?_
  refine wp_storeV0 hpu vu 1 rfl (by rfl) (by simp [Value.oneCell']) fun wv Mv hpv vv => ?_
  have vN : Vr Mb Mv [(pb, cellsG ((propose r d).1).r ssb gb), (_, _)] := vv
  obtain ⟨Hn, hpn, len, fxn⟩ := vr_fix hpv vN
  have fb := fxn 0 _ _ rfl
  have lxn := lex.trans len
  clear fxn vN vv vu vz vy hpv hpu hpz hpy hpx hp ub semb
  have hp := hpn
  clear hpn
  replace le := le.trans lxn
  replace hra := hra.mono lxn
  replace hma := hma.mono lxn
  replace hdd := hdd.mono lxn
  replace hW := hW.mono lxn
  replace f1 := lxn _ _ f1
  replace f2 := lxn _ _ f2
  replace f106 := lxn _ _ f106
  replace fa := lxn _ _ fa
  clear lxn lex len
  -- act c
  (refine wp_load (hp.loadH f1 (by simp [cells17])) ?_; (repeat apply Exists.intro); refine ⟨rfl, ?_⟩)
  refine wp_call (timeout_runs hp hra fit) fun vx wx hx => ?_
  obtain ⟨va, vq, rfl, ssc, gc, Hx, Mc, rfl, rfl, hpx, lex, uc, semc⟩ := hx
  obtain ⟨szc, t3c, t4c, boc⟩ := un_sizes uc semc (sz_timeout may) (t3_timeout may)
  replace ow := ow.add uc
  ((repeat apply Exists.intro); refine ⟨rfl, ?_⟩)
  refine wp_newV hpx (Vr.nil Mc) fun pc wy My hpy vy => wp_newV hpy vy fun qc wz Mz hpz vz => ?_
  refine wp_storeV0 hpz vz 0 rfl (by rfl) (by simp [Value.oneCell']) fun wu Mu hpu vu => ?_
  refine wp_storeV0 hpu vu 1 rfl (by rfl) (by simp [Value.oneCell']) fun wv Mv hpv vv => ?_
  have vN : Vr Mc Mv [(pc, cellsG (timeout r).r ssc gc), (_, _)] := vv
  obtain ⟨Hn, hpn, len, fxn⟩ := vr_fix hpv vN
  have fc := fxn 0 _ _ rfl
  have lxn := lex.trans len
  clear fxn vN vv vu vz vy hpv hpu hpz hpy hpx hp uc semc
  have hp := hpn
  clear hpn
  replace le := le.trans lxn
  replace hra := hra.mono lxn
  replace hma := hma.mono lxn
  replace hdd := hdd.mono lxn
  replace hW := hW.mono lxn
  replace f1 := lxn _ _ f1
  replace f2 := lxn _ _ f2
  replace f106 := lxn _ _ f106
  replace fa := lxn _ _ fa
  replace fb := lxn _ _ fb
  clear lxn lex len
  -- act d
  (refine wp_load (hp.loadH f1 (by simp [cells17])) ?_; (repeat apply Exists.intro); refine ⟨rfl, ?_⟩)
  refine wp_call (compact_runs hp hra fit hdd) fun vx wx hx => ?_
  obtain ⟨va, vq, rfl, ssd, gd, Hx, Md, rfl, rfl, hpx, lex, ud, semd⟩ := hx
  obtain ⟨szd, t3d, t4d, bod⟩ := un_sizes ud semd (sz_compact (d := d) may) (t3_compact (d := d) may)
  replace ow := ow.add ud
  ((repeat apply Exists.intro); refine ⟨rfl, ?_⟩)
  refine wp_newV hpx (Vr.nil Md) fun pd wy My hpy vy => wp_newV hpy vy fun qd wz Mz hpz vz => ?_
  refine wp_storeV0 hpz vz 0 rfl (by rfl) (by simp [Value.oneCell']) fun wu Mu hpu vu => ?_
  refine wp_storeV0 hpu vu 1 rfl (by rfl) (by simp [Value.oneCell']) fun wv Mv hpv vv => ?_
  have vN : Vr Md Mv [(pd, cellsG (compact r d).r ssd gd), (_, _)] := vv
  obtain ⟨Hn, hpn, len, fxn⟩ := vr_fix hpv vN
  have fd := fxn 0 _ _ rfl
  have lxn := lex.trans len
  clear fxn vN vv vu vz vy hpv hpu hpz hpy hpx hp ud semd
  have hp := hpn
  clear hpn
  replace le := le.trans lxn
  replace hra := hra.mono lxn
  replace hma := hma.mono lxn
  replace hdd := hdd.mono lxn
  replace hW := hW.mono lxn
  replace f1 := lxn _ _ f1
  replace f2 := lxn _ _ f2
  replace f106 := lxn _ _ f106
  replace fa := lxn _ _ fa
  replace fb := lxn _ _ fb
  replace fc := lxn _ _ fc
  clear lxn lex len
  (refine wp_load (hp.loadH fa (by simp [cellsG, cells17])) ?_; (repeat apply Exists.intro); refine ⟨rfl, ?_⟩)
  (refine wp_load (hp.loadH fb (by simp [cellsG, cells17])) ?_; (repeat apply Exists.intro); refine ⟨rfl, ?_⟩)
  (refine wp_load (hp.loadH fc (by simp [cellsG, cells17])) ?_; (repeat apply Exists.intro); refine ⟨rfl, ?_⟩)
  (refine wp_load (hp.loadH fd (by simp [cellsG, cells17])) ?_; (repeat apply Exists.intro); refine ⟨rfl, ?_⟩)
  refine wp_newH hp fun p369 w10 H10 hp10 le10 f369 => ?_
  have st : St4 w0 H10 M (fun i c => ((if i = 3 then gd c else if i = 2 then gc c else if i = 1 then gb c else if i = 0 then ga c else nilC) : Comp).sl) w10 := by
    refine ⟨_, _, hp10, ow, fun i c hi hc => rfl, fun i hi v hv => ?_⟩
    match i, hi with
    | 0, _ => exact boa v hv
    | 1, _ => exact bob v hv
    | 2, _ => exact boc v hv
    | 3, _ => exact bod v hv
  refine stillV_wp (le.trans le10) st f369 rfl (fun i hi => ?_) (fun i hi => ?_) (fun i hi c hc => ?_) (le10 _ _ f106) (hW.mono le10) (le10 _ _ f1) (hra.mono le10) fit.cpy
  · match i, hi with
    | 0, _ => exact ⟨rfl, rfl, rfl, rfl, rfl⟩
    | 1, _ => exact ⟨rfl, rfl, rfl, rfl, rfl⟩
    | 2, _ => exact ⟨rfl, rfl, rfl, rfl, rfl⟩
    | 3, _ => exact ⟨rfl, rfl, rfl, rfl, rfl⟩
  · match i, hi with
    | 0, _ => exact ⟨t3a, t4a⟩
    | 1, _ => exact ⟨t3b, t4b⟩
    | 2, _ => exact ⟨t3c, t4c⟩
    | 3, _ => exact ⟨t3d, t4d⟩
  · match i, hi with
    | 0, _ => exact sza c hc
    | 1, _ => exact szb c hc
    | 2, _ => exact szc c hc
    | 3, _ => exact szd c hc
end
end Go.Proofs.Ytnbfffmdplcajaa
