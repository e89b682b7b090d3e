/- The walk of RaftKeeps: it returns true. -/
import Derived.Test.YtnbfffmdplcajaaPre
import Derived.Test.YtnbfffmdplcajaaFold
import Derived.Test.YtnbfffmdplcajaaTreeW8
namespace Go.Proofs.Ytnbfffmdplcajaa
open Go.Vc Go.Vc.Rf

def fourV (p1 p5 p6 p9 p10 p13 p14 p17 p18 : Nat) : VC :=
 .load ⟨p1, 0, none⟩ 17 fun v424 =>
 .exI fun i425 =>
 .exI fun i426 =>
 .exI fun i427 =>
 .exI fun i428 =>
 .exI fun i429 =>
 .exI fun i430 =>
 .exS fun a431 n431 c431 =>
 .exS fun a432 n432 c432 =>
 .exI fun i433 =>
 .exI fun i434 =>
 .exI fun i435 =>
 .exS fun a436 n436 c436 =>
 .exS fun a437 n437 c437 =>
 .exS fun a438 n438 c438 =>
 .exS fun a439 n439 c439 =>
 .exI fun i440 =>
 .exS fun a441 n441 c441 =>
 .isL v424 [.int .u64 i425, .int .i64 i426, .int .i64 i427, .int .i64 i428, .int .u64 i429, .int .u64 i430, .slice a431 n431 c431, .slice a432 n432 c432, .int .u64 i433, .int .i64 i434, .int .i64 i435, .slice a436 n436 c436, .slice a437 n437 c437, .slice a438 n438 c438, .slice a439 n439 c439, .int .u64 i440, .slice a441 n441 c441] <|
 .load ⟨p5, 0, none⟩ 17 fun v442 =>
 .exI fun i443 =>
 .exI fun i444 =>
 .exI fun i445 =>
 .exI fun i446 =>
 .exI fun i447 =>
 .exI fun i448 =>
 .exS fun a449 n449 c449 =>
 .exS fun a450 n450 c450 =>
 .exI fun i451 =>
 .exI fun i452 =>
 .exI fun i453 =>
 .exS fun a454 n454 c454 =>
 .exS fun a455 n455 c455 =>
 .exS fun a456 n456 c456 =>
 .exS fun a457 n457 c457 =>
 .exI fun i458 =>
 .exS fun a459 n459 c459 =>
 .isL v442 [.int .u64 i443, .int .i64 i444, .int .i64 i445, .int .i64 i446, .int .u64 i447, .int .u64 i448, .slice a449 n449 c449, .slice a450 n450 c450, .int .u64 i451, .int .i64 i452, .int .i64 i453, .slice a454 n454 c454, .slice a455 n455 c455, .slice a456 n456 c456, .slice a457 n457 c457, .int .u64 i458, .slice a459 n459 c459] <|
 .load ⟨p6, 0, none⟩ 3 fun v460 =>
 .exS fun a461 n461 c461 =>
 .exS fun a462 n462 c462 =>
 .exS fun a463 n463 c463 =>
 .isL v460 [.slice a461 n461 c461, .slice a462 n462 c462, .slice a463 n463 c463] <|
 .call 45 ([.agg #[.int .u64 i425, .int .i64 i426, .int .i64 i427, .int .i64 i428, .int .u64 i429, .int .u64 i430, .slice a431 n431 c431, .slice a432 n432 c432, .int .u64 i433, .int .i64 i434, .int .i64 i435, .slice a436 n436 c436, .slice a437 n437 c437, .slice a438 n438 c438, .slice a439 n439 c439, .int .u64 i440, .slice a441 n441 c441], .agg #[.int .u64 i443, .int .i64 i444, .int .i64 i445, .int .i64 i446, .int .u64 i447, .int .u64 i448, .slice a449 n449 c449, .slice a450 n450 c450, .int .u64 i451, .int .i64 i452, .int .i64 i453, .slice a454 n454 c454, .slice a455 n455 c455, .slice a456 n456 c456, .slice a457 n457 c457, .int .u64 i458, .slice a459 n459 c459], .agg #[.slice a461 n461 c461, .slice a462 n462 c462, .slice a463 n463 c463]]) fun v464 =>
 .exB fun b465 =>
 .isL [v464] [.bool b465] <|
 bif b465 then
  (.load ⟨p1, 0, none⟩ 17 fun v466 =>
  .exI fun i467 =>
  .exI fun i468 =>
  .exI fun i469 =>
  .exI fun i470 =>
  .exI fun i471 =>
  .exI fun i472 =>
  .exS fun a473 n473 c473 =>
  .exS fun a474 n474 c474 =>
  .exI fun i475 =>
  .exI fun i476 =>
  .exI fun i477 =>
  .exS fun a478 n478 c478 =>
  .exS fun a479 n479 c479 =>
  .exS fun a480 n480 c480 =>
  .exS fun a481 n481 c481 =>
  .exI fun i482 =>
  .exS fun a483 n483 c483 =>
  .isL v466 [.int .u64 i467, .int .i64 i468, .int .i64 i469, .int .i64 i470, .int .u64 i471, .int .u64 i472, .slice a473 n473 c473, .slice a474 n474 c474, .int .u64 i475, .int .i64 i476, .int .i64 i477, .slice a478 n478 c478, .slice a479 n479 c479, .slice a480 n480 c480, .slice a481 n481 c481, .int .u64 i482, .slice a483 n483 c483] <|
  .load ⟨p9, 0, none⟩ 17 fun v484 =>
  .exI fun i485 =>
  .exI fun i486 =>
  .exI fun i487 =>
  .exI fun i488 =>
  .exI fun i489 =>
  .exI fun i490 =>
  .exS fun a491 n491 c491 =>
  .exS fun a492 n492 c492 =>
  .exI fun i493 =>
  .exI fun i494 =>
  .exI fun i495 =>
  .exS fun a496 n496 c496 =>
  .exS fun a497 n497 c497 =>
  .exS fun a498 n498 c498 =>
  .exS fun a499 n499 c499 =>
  .exI fun i500 =>
  .exS fun a501 n501 c501 =>
  .isL v484 [.int .u64 i485, .int .i64 i486, .int .i64 i487, .int .i64 i488, .int .u64 i489, .int .u64 i490, .slice a491 n491 c491, .slice a492 n492 c492, .int .u64 i493, .int .i64 i494, .int .i64 i495, .slice a496 n496 c496, .slice a497 n497 c497, .slice a498 n498 c498, .slice a499 n499 c499, .int .u64 i500, .slice a501 n501 c501] <|
  .load ⟨p10, 0, none⟩ 3 fun v502 =>
  .exS fun a503 n503 c503 =>
  .exS fun a504 n504 c504 =>
  .exS fun a505 n505 c505 =>
  .isL v502 [.slice a503 n503 c503, .slice a504 n504 c504, .slice a505 n505 c505] <|
  .call 45 ([.agg #[.int .u64 i467, .int .i64 i468, .int .i64 i469, .int .i64 i470, .int .u64 i471, .int .u64 i472, .slice a473 n473 c473, .slice a474 n474 c474, .int .u64 i475, .int .i64 i476, .int .i64 i477, .slice a478 n478 c478, .slice a479 n479 c479, .slice a480 n480 c480, .slice a481 n481 c481, .int .u64 i482, .slice a483 n483 c483], .agg #[.int .u64 i485, .int .i64 i486, .int .i64 i487, .int .i64 i488, .int .u64 i489, .int .u64 i490, .slice a491 n491 c491, .slice a492 n492 c492, .int .u64 i493, .int .i64 i494, .int .i64 i495, .slice a496 n496 c496, .slice a497 n497 c497, .slice a498 n498 c498, .slice a499 n499 c499, .int .u64 i500, .slice a501 n501 c501], .agg #[.slice a503 n503 c503, .slice a504 n504 c504, .slice a505 n505 c505]]) fun v506 =>
  .exB fun b507 =>
  .isL [v506] [.bool b507] <|
  bif b507 then
   (.load ⟨p1, 0, none⟩ 17 fun v508 =>
   .exI fun i509 =>
   .exI fun i510 =>
   .exI fun i511 =>
   .exI fun i512 =>
   .exI fun i513 =>
   .exI fun i514 =>
   .exS fun a515 n515 c515 =>
   .exS fun a516 n516 c516 =>
   .exI fun i517 =>
   .exI fun i518 =>
   .exI fun i519 =>
   .exS fun a520 n520 c520 =>
   .exS fun a521 n521 c521 =>
   .exS fun a522 n522 c522 =>
   .exS fun a523 n523 c523 =>
   .exI fun i524 =>
   .exS fun a525 n525 c525 =>
   .isL v508 [.int .u64 i509, .int .i64 i510, .int .i64 i511, .int .i64 i512, .int .u64 i513, .int .u64 i514, .slice a515 n515 c515, .slice a516 n516 c516, .int .u64 i517, .int .i64 i518, .int .i64 i519, .slice a520 n520 c520, .slice a521 n521 c521, .slice a522 n522 c522, .slice a523 n523 c523, .int .u64 i524, .slice a525 n525 c525] <|
   .load ⟨p13, 0, none⟩ 17 fun v526 =>
   .exI fun i527 =>
   .exI fun i528 =>
   .exI fun i529 =>
   .exI fun i530 =>
   .exI fun i531 =>
   .exI fun i532 =>
   .exS fun a533 n533 c533 =>
   .exS fun a534 n534 c534 =>
   .exI fun i535 =>
   .exI fun i536 =>
   .exI fun i537 =>
   .exS fun a538 n538 c538 =>
   .exS fun a539 n539 c539 =>
   .exS fun a540 n540 c540 =>
   .exS fun a541 n541 c541 =>
   .exI fun i542 =>
   .exS fun a543 n543 c543 =>
   .isL v526 [.int .u64 i527, .int .i64 i528, .int .i64 i529, .int .i64 i530, .int .u64 i531, .int .u64 i532, .slice a533 n533 c533, .slice a534 n534 c534, .int .u64 i535, .int .i64 i536, .int .i64 i537, .slice a538 n538 c538, .slice a539 n539 c539, .slice a540 n540 c540, .slice a541 n541 c541, .int .u64 i542, .slice a543 n543 c543] <|
   .load ⟨p14, 0, none⟩ 3 fun v544 =>
   .exS fun a545 n545 c545 =>
   .exS fun a546 n546 c546 =>
   .exS fun a547 n547 c547 =>
   .isL v544 [.slice a545 n545 c545, .slice a546 n546 c546, .slice a547 n547 c547] <|
   .call 45 ([.agg #[.int .u64 i509, .int .i64 i510, .int .i64 i511, .int .i64 i512, .int .u64 i513, .int .u64 i514, .slice a515 n515 c515, .slice a516 n516 c516, .int .u64 i517, .int .i64 i518, .int .i64 i519, .slice a520 n520 c520, .slice a521 n521 c521, .slice a522 n522 c522, .slice a523 n523 c523, .int .u64 i524, .slice a525 n525 c525], .agg #[.int .u64 i527, .int .i64 i528, .int .i64 i529, .int .i64 i530, .int .u64 i531, .int .u64 i532, .slice a533 n533 c533, .slice a534 n534 c534, .int .u64 i535, .int .i64 i536, .int .i64 i537, .slice a538 n538 c538, .slice a539 n539 c539, .slice a540 n540 c540, .slice a541 n541 c541, .int .u64 i542, .slice a543 n543 c543], .agg #[.slice a545 n545 c545, .slice a546 n546 c546, .slice a547 n547 c547]]) fun v548 =>
   .exB fun b549 =>
   .isL [v548] [.bool b549] <|
   bif b549 then
    (.load ⟨p1, 0, none⟩ 17 fun v550 =>
    .exI fun i551 =>
    .exI fun i552 =>
    .exI fun i553 =>
    .exI fun i554 =>
    .exI fun i555 =>
    .exI fun i556 =>
    .exS fun a557 n557 c557 =>
    .exS fun a558 n558 c558 =>
    .exI fun i559 =>
    .exI fun i560 =>
    .exI fun i561 =>
    .exS fun a562 n562 c562 =>
    .exS fun a563 n563 c563 =>
    .exS fun a564 n564 c564 =>
    .exS fun a565 n565 c565 =>
    .exI fun i566 =>
    .exS fun a567 n567 c567 =>
    .isL v550 [.int .u64 i551, .int .i64 i552, .int .i64 i553, .int .i64 i554, .int .u64 i555, .int .u64 i556, .slice a557 n557 c557, .slice a558 n558 c558, .int .u64 i559, .int .i64 i560, .int .i64 i561, .slice a562 n562 c562, .slice a563 n563 c563, .slice a564 n564 c564, .slice a565 n565 c565, .int .u64 i566, .slice a567 n567 c567] <|
    .load ⟨p17, 0, none⟩ 17 fun v568 =>
    .exI fun i569 =>
    .exI fun i570 =>
    .exI fun i571 =>
    .exI fun i572 =>
    .exI fun i573 =>
    .exI fun i574 =>
    .exS fun a575 n575 c575 =>
    .exS fun a576 n576 c576 =>
    .exI fun i577 =>
    .exI fun i578 =>
    .exI fun i579 =>
    .exS fun a580 n580 c580 =>
    .exS fun a581 n581 c581 =>
    .exS fun a582 n582 c582 =>
    .exS fun a583 n583 c583 =>
    .exI fun i584 =>
    .exS fun a585 n585 c585 =>
    .isL v568 [.int .u64 i569, .int .i64 i570, .int .i64 i571, .int .i64 i572, .int .u64 i573, .int .u64 i574, .slice a575 n575 c575, .slice a576 n576 c576, .int .u64 i577, .int .i64 i578, .int .i64 i579, .slice a580 n580 c580, .slice a581 n581 c581, .slice a582 n582 c582, .slice a583 n583 c583, .int .u64 i584, .slice a585 n585 c585] <|
    .load ⟨p18, 0, none⟩ 3 fun v586 =>
    .exS fun a587 n587 c587 =>
    .exS fun a588 n588 c588 =>
    .exS fun a589 n589 c589 =>
    .isL v586 [.slice a587 n587 c587, .slice a588 n588 c588, .slice a589 n589 c589] <|
    .call 45 ([.agg #[.int .u64 i551, .int .i64 i552, .int .i64 i553, .int .i64 i554, .int .u64 i555, .int .u64 i556, .slice a557 n557 c557, .slice a558 n558 c558, .int .u64 i559, .int .i64 i560, .int .i64 i561, .slice a562 n562 c562, .slice a563 n563 c563, .slice a564 n564 c564, .slice a565 n565 c565, .int .u64 i566, .slice a567 n567 c567], .agg #[.int .u64 i569, .int .i64 i570, .int .i64 i571, .int .i64 i572, .int .u64 i573, .int .u64 i574, .slice a575 n575 c575, .slice a576 n576 c576, .int .u64 i577, .int .i64 i578, .int .i64 i579, .slice a580 n580 c580, .slice a581 n581 c581, .slice a582 n582 c582, .slice a583 n583 c583, .int .u64 i584, .slice a585 n585 c585], .agg #[.slice a587 n587 c587, .slice a588 n588 c588, .slice a589 n589 c589]]) fun v590 =>
    .exB fun b591 =>
    .isL [v590] [.bool b591] <|
    .ret (.bool b591))
   else
   (.ret (.bool false)))
  else
  (.ret (.bool false)))
 else
 (.ret (.bool false))

section
variable {w0 w : World} {H M U : Mp}

set_option maxHeartbeats 8000000 in
theorem raftKeeps_runs {r : Raft} {m : Msg} {cs cm : List Value} {da : Option Addr} {dn dc : Nat} {d : List UInt8} (hp : Hp w0 w H M) (hr : Ra H cs r) (ho : RaOk r) (hm : Ms H cm m) (mo : m.Ok) (hd : Bs H da dn dc d) :
    Runs Try.prog 8 [.agg cs.toArray, .agg cm.toArray, .slice da dn dc] w fun v w' => v = .bool true ∧ Hp w0 w' H M := by
  have hm0 := hm
  obtain ⟨ss, ls, vs, ns, ms, ak, rs, rfl, hr⟩ := hr
  obtain ⟨a1, n1, c1, a2, n2, c2, rfl, he, hs⟩ := hm
  apply r8
  refine pre_wp hp hr ho hm0 mo rfl fun p1 p2 w1 H1 hp1 hle1 f1 f2 may lm hra hma => ?_
  refine wp_bif (fun _ => ⟨rfl, hp1.lessH hle1⟩) fun _ => ?_
  have s0 := may.s0
  have s1 := may.s1
  have hlg := may.log
  have cc1 := may.c1
  unfold lastI at cc1
  have kg := ks_got (m := m) lm may.s0 may.c0
  have kt := ks_timeout (r := r)
  have kc := ks_compact (r := r) (d := d) may.s0 (by omega)
  -- logs that are not too long
  have big : ∀ {x : Sp}, Ks (kof r) x → x.r.log.length ≤ 4398046511104 := fun {x} h => by
    have h1 := h.fold
    have h2 : ∀ (l : List Rec) (j : Nat) (k : Kept), FoldB k [] j → (∀ e ∈ l, 0 ≤ e.idx ∧ e.idx ≤ 4000000000000 ∧ 0 ≤ e.snap.idx ∧ e.snap.idx ≤ 4000000000000) → FoldB (l.foldl foldRec k) [] (j + l.length) := by
      intro l
      induction l with
      | nil => intro j k h _; exact h
      | cons e l ih =>
        intro j k h hs
        have := ih (j + 1) (foldRec k e) (foldB_step h (hs e (by simp))) fun e he => hs e (by simp [he])
        simp only [List.length_cons]
        rw [show j + (l.length + 1) = j + 1 + l.length by omega]
        exact this
    have h3 := h2 x.q.save 0 (kof r) ⟨s0, by show r.snap.idx ≤ _; omega, by show r.log.length ≤ _; omega⟩ h.small
    rw [h1] at h3
    have h4 := h3.len
    have h5 := h.many
    change x.r.log.length ≤ _ at h4
    omega
  (refine wp_load (hp1.loadH f1 (by simp [cells17])) ?_; (repeat apply Exists.intro); refine ⟨rfl, ?_⟩)
  (refine wp_load (hp1.loadH f2 (by simp)) ?_; (repeat apply Exists.intro); refine ⟨rfl, ?_⟩)
  refine wp_call ((got_runs hp1 hra hma may.fit lm).mono fun v w' h => top_give h) fun v3 w3 h3 => ?_
  obtain ⟨cs3, cq3, H3, rfl, hr3, hq3, hp3, hle3⟩ := h3
  have hr3' := hr3
  have hq3' := hq3
  obtain ⟨y1, y2, y3, y4, y5, y6, y7, rfl, hy⟩ := hr3
  obtain ⟨z1, z2, z3, rfl, hz1, hz2, hz3⟩ := hq3
  ((repeat apply Exists.intro); refine ⟨rfl, ?_⟩)
  refine wp_keep2 hp3 (by rfl) (by rfl) (by simp [Value.oneCell']) (by simp [Value.oneCell']) fun p5 p6 w5 H5 hp5 hle5 f5 f6 => ?_
  have l15 := hle3.trans hle5
  (refine wp_load (hp5.loadH (l15 _ _ f1) (by simp [cells17])) ?_; (repeat apply Exists.intro); refine ⟨rfl, ?_⟩)
  refine wp_call ((timeout_runs hp5 (hra.mono l15) may.fit).mono fun v w' h => top_give h) fun v7 w7 h7 => ?_
  obtain ⟨cs7, cq7, H7, rfl, hr7, hq7, hp7, hle7⟩ := h7
  have hr7' := hr7
  have hq7' := hq7
  obtain ⟨b1, b2, b3, b4, b5, b6, b7, rfl, hb⟩ := hr7
  obtain ⟨d1, d2, d3, rfl, hd1, hd2, hd3⟩ := hq7
  ((repeat apply Exists.intro); refine ⟨rfl, ?_⟩)
  refine wp_keep2 hp7 (by rfl) (by rfl) (by simp [Value.oneCell']) (by simp [Value.oneCell']) fun p9 p10 w9 H9 hp9 hle9 f9 f10 => ?_
  have l59 := hle7.trans hle9
  have l19 := l15.trans l59
  (refine wp_load (hp9.loadH (l19 _ _ f1) (by simp [cells17])) ?_; (repeat apply Exists.intro); refine ⟨rfl, ?_⟩)
  have hpr := propose_runs hp9 (hra.mono l19) may.fit ((hd.mono hle1).mono l19)
  refine wp_call (hpr.mono fun v w' h => top3_give h) fun v11 w11 h11 => ?_
  obtain ⟨cs11, cq11, H11, rfl, hr11, hq11, hp11, hle11⟩ := h11
  have hr11' := hr11
  have hq11' := hq11
  obtain ⟨g1, g2, g3, g4, g5, g6, g7, rfl, hg⟩ := hr11
  obtain ⟨e1, e2, e3, rfl, he1, he2, he3⟩ := hq11
  ((repeat apply Exists.intro); refine ⟨rfl, ?_⟩)
  refine wp_new hp11 fun p13 w12 hp12 hM12 _ => wp_new hp12 fun p14 w13 hp13 hM13 _ => ?_
  have hne : p13 ≠ p14 := fun e => by subst e; simp at hM13
  have hM13' : M p14 = none := by rwa [Mp.put_other (Ne.symm hne)] at hM13
  refine wp_store hp13 ((Mp.put_other hne).trans (Mp.put_same _ _ _)) (by simp) (by simp [Value.oneCell']) fun w14 hp14 => ?_
  refine wp_store hp14 ((Mp.put_other (Ne.symm hne)).trans (Mp.put_same _ _ _)) (by simp) (by simp [Value.oneCell']) fun w15 hp15 => ?_
  rw [splice_all (by simp), splice_all (by simp)] at hp15
  have m13 : ∀ {z1 z2 a b : List Value}, ((((M.put p13 z1).put p14 z2).put p13 a).put p14 b) p13 = some a := (Mp.put_other hne).trans (Mp.put_same _ _ _)
  have l1b := l19.trans hle11
  (refine wp_load (hp15.loadH (l1b _ _ f1) (by simp [cells17])) ?_; (repeat apply Exists.intro); refine ⟨rfl, ?_⟩)
  refine wp_call ((compact_runs hp15 (hra.mono l1b) may.fit ((hd.mono hle1).mono l1b)).mono fun v w' h => top_give h) fun v16 w16 h16 => ?_
  obtain ⟨cs16, cq16, H16, rfl, hr16, hq16, hp16, hle16⟩ := h16
  have hr16' := hr16
  have hq16' := hq16
  obtain ⟨i1, i2, i3, i4, i5, i6, i7, rfl, hi⟩ := hr16
  obtain ⟨j1, j2, j3, rfl, hj1, hj2, hj3⟩ := hq16
  ((repeat apply Exists.intro); refine ⟨rfl, ?_⟩)
  refine wp_keep2 hp16 (by rfl) (by rfl) (by simp [Value.oneCell']) (by simp [Value.oneCell']) fun p17 p18 w17 H17 hp17 hle17 f17 f18 => ?_
  have lbx := hle16.trans hle17
  have l9x := hle11.trans lbx
  have l5x := l59.trans l9x
  have l1x := l15.trans l5x
  have k1 := l1x _ _ f1
  have k5 := l5x _ _ f5
  have k6 := l5x _ _ f6
  have k9 := l9x _ _ f9
  have k10 := l9x _ _ f10
  have hfin := hle1.trans l1x
  -- the four questions, with the third one's variables as they stand
  have four : ∀ {w' : World} {M' : Mp} {X : Sp} {ca cb : List Value}, Hp w0 w' H17 M' → M' p13 = some ca → M' p14 = some cb → (∃ x1 x2 x3 x4 x5 x6 x7, ca = cells17 X.r x1 x2 x3 x4 x5 x6 x7 ∧ RaS H17 X.r x1 x2 x3 x4 x5 x6 x7) → (∃ z1 z2 z3 : Sl3, cb = [.slice z1.a z1.n z1.c, .slice z2.a z2.n z2.c, .slice z3.a z3.n z3.c] ∧ Sl H17 (Rc H17) z1.a z1.n z1.c X.q.save ∧ Sl H17 (Ms H17) z2.a z2.n z2.c X.q.send ∧ Sl H17 Re z3.a z3.n z3.c X.q.ready) →
      Ks (kof r) X → (∀ b, M b ≠ none → M' b = M b) →
      (fourV p1 p5 p6 p9 p10 p13 p14 p17 p18).wp Try.prog (fun v w' => v = .bool true ∧ Hp w0 w' H M) (fun _ _ _ => False) w' := by
    intro w' M' X ca cb h1 h2 h3 h4 h5 h6 h7
    obtain ⟨x1, x2, x3, x4, x5, x6, x7, rfl, hx⟩ := h4
    obtain ⟨u1, u2, u3, rfl, hu1, hu2, hu3⟩ := h5
    (refine wp_load (h1.loadH k1 (by simp [cells17])) ?_; (repeat apply Exists.intro); refine ⟨rfl, ?_⟩)
    (refine wp_load (h1.loadH k5 (by simp)) ?_; (repeat apply Exists.intro); refine ⟨rfl, ?_⟩)
    (refine wp_load (h1.loadH k6 (by simp)) ?_; (repeat apply Exists.intro); refine ⟨rfl, ?_⟩)
    refine wp_call (kept_law h1 (hra.mono l1x) (hr3'.mono (hle5.trans l5x)) (hq3'.mono (hle5.trans l5x)) s0 (by omega) (by omega) kg.fold kg.small kg.many (big kg)) fun v2 w2 h2' => ?_
    obtain ⟨rfl, hp2⟩ := h2'
    ((repeat apply Exists.intro); refine ⟨rfl, ?_⟩)
    refine wp_bif (fun _ => ?_) fun h => by cases h
    (refine wp_load (hp2.loadH k1 (by simp [cells17])) ?_; (repeat apply Exists.intro); refine ⟨rfl, ?_⟩)
    (refine wp_load (hp2.loadH k9 (by simp)) ?_; (repeat apply Exists.intro); refine ⟨rfl, ?_⟩)
    (refine wp_load (hp2.loadH k10 (by simp)) ?_; (repeat apply Exists.intro); refine ⟨rfl, ?_⟩)
    refine wp_call (kept_law hp2 (hra.mono l1x) (hr7'.mono (hle9.trans l9x)) (hq7'.mono (hle9.trans l9x)) s0 (by omega) (by omega) kt.fold kt.small kt.many (big kt)) fun v3 w3 h3' => ?_
    obtain ⟨rfl, hp3⟩ := h3'
    ((repeat apply Exists.intro); refine ⟨rfl, ?_⟩)
    refine wp_bif (fun _ => ?_) fun h => by cases h
    (refine wp_load (hp3.loadH k1 (by simp [cells17])) ?_; (repeat apply Exists.intro); refine ⟨rfl, ?_⟩)
    (refine wp_load (hp3.loadM h2 (by simp [cells17])) ?_; (repeat apply Exists.intro); refine ⟨rfl, ?_⟩)
    (refine wp_load (hp3.loadM h3 (by simp)) ?_; (repeat apply Exists.intro); refine ⟨rfl, ?_⟩)
    refine wp_call (kept_law (cq := [.slice u1.a u1.n u1.c, .slice u2.a u2.n u2.c, .slice u3.a u3.n u3.c]) hp3 (hra.mono l1x) ⟨x1, x2, x3, x4, x5, x6, x7, rfl, hx⟩ ⟨u1, u2, u3, rfl, hu1, hu2, hu3⟩ s0 (by omega) (by omega) h6.fold h6.small h6.many (big h6)) fun v4 w4 h4' => ?_
    obtain ⟨rfl, hp4⟩ := h4'
    ((repeat apply Exists.intro); refine ⟨rfl, ?_⟩)
    refine wp_bif (fun _ => ?_) fun h => by cases h
    (refine wp_load (hp4.loadH k1 (by simp [cells17])) ?_; (repeat apply Exists.intro); refine ⟨rfl, ?_⟩)
    (refine wp_load (hp4.loadH f17 (by simp)) ?_; (repeat apply Exists.intro); refine ⟨rfl, ?_⟩)
    (refine wp_load (hp4.loadH f18 (by simp)) ?_; (repeat apply Exists.intro); refine ⟨rfl, ?_⟩)
    refine wp_call (kept_law hp4 (hra.mono l1x) (hr16'.mono hle17) (hq16'.mono hle17) s0 (by omega) (by omega) kc.fold kc.small kc.many (big kc)) fun v5 w5 h5' => ?_
    obtain ⟨rfl, hp5⟩ := h5'
    ((repeat apply Exists.intro); refine ⟨rfl, ?_⟩)
    refine ⟨rfl, (hp5.lessH hfin).less fun b cs hb => ?_⟩
    rw [h7 b (Mp.ne_of hb)]; exact hb
  have keep0 : ∀ {z1 z2 a b : List Value} (x : Nat), M x ≠ none → ((((M.put p13 z1).put p14 z2).put p13 a).put p14 b) x = M x := fun x hx => by
    have q1 : x ≠ p13 := fun e => hx (by rw [e]; exact hM12)
    have q2 : x ≠ p14 := fun e => hx (by rw [e]; exact hM13')
    rw [Mp.put_other q2, Mp.put_other q1, Mp.put_other q2, Mp.put_other q1]
  (refine wp_load (hp17.loadH k1 (by simp [cells17])) ?_; (repeat apply Exists.intro); refine ⟨rfl, ?_⟩)
  refine wp_bif (fun hro => ?_) fun hro => ?_
  · (refine wp_load (hp17.loadH k1 (by simp [cells17])) ?_; (repeat apply Exists.intro); refine ⟨rfl, ?_⟩)
    refine wp_store hp17 m13 (by simp) (by simp [Value.oneCell']) fun w18 hp18 => ?_
    refine wp_store hp18 ((Mp.put_other (Ne.symm hne)).trans (Mp.put_same _ _ _)) (by simp) (by simp [Value.oneCell']) fun w19 hp19 => ?_
    rw [splice_all (by simp), splice_all (by simp)] at hp19
    refine four (X := Rf.start r) hp19 ((Mp.put_other hne).trans (Mp.put_same _ _ _)) (Mp.put_same _ _ _) ⟨_, _, _, _, _, _, _, rfl, hr.mono hfin⟩ ⟨⟨none, 0, 0⟩, ⟨none, 0, 0⟩, ⟨none, 0, 0⟩, rfl, Sl.nil _ _, Sl.nil _ _, Sl.nil _ _⟩ (ks_start r) fun b hb => ?_
    have q1 : b ≠ p13 := fun e => hb (by rw [e]; exact hM12)
    have q2 : b ≠ p14 := fun e => hb (by rw [e]; exact hM13')
    rw [Mp.put_other q2, Mp.put_other q1]
    exact keep0 b hb
  · have g2' : r.role = 2 := by simpa using hro
    have hpt : (propose r d).2 = true := by unfold propose; rw [if_pos ⟨g2', may.may⟩]
    refine four (X := (propose r d).1) hp17 m13 (Mp.put_same _ _ _) ⟨_, _, _, _, _, _, _, rfl, hg.mono lbx⟩ ⟨e1, e2, e3, rfl, he1.mono lbx (Rc.mono lbx), he2.mono lbx (Ms.mono lbx), he3.mono lbx fun _ _ h => h⟩ (ks_propose hpt) keep0
end
end Go.Proofs.Ytnbfffmdplcajaa
