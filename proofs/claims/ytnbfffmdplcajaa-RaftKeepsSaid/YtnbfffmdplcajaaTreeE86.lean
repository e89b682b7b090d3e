/- The trees of verification conditions of functions 45, 86, 87: printed by a program of mine, checked here. -/
import Derived.Test.YtnbfffmdplcajaaTree0
set_option linter.unusedVariables false
set_option maxRecDepth 100000
namespace Go.Proofs.Ytnbfffmdplcajaa
open Go.Vc
def t45 (r0 : Int) (r1 : Int) (r2 : Int) (r3 : Int) (r4 : Int) (r5 : Int) (r6a : Option Addr) (r6n : Nat) (r6c : Nat) (r7a : Option Addr) (r7n : Nat) (r7c : Nat) (r8 : Int) (r9 : Int) (r10 : Int) (r11a : Option Addr) (r11n : Nat) (r11c : Nat) (r12a : Option Addr) (r12n : Nat) (r12c : Nat) (r13a : Option Addr) (r13n : Nat) (r13c : Nat) (r14a : Option Addr) (r14n : Nat) (r14c : Nat) (r15 : Int) (r16a : Option Addr) (r16n : Nat) (r16c : Nat) (a0 : Int) (a1 : Int) (a2 : Int) (a3 : Int) (a4 : Int) (a5 : Int) (a6a : Option Addr) (a6n : Nat) (a6c : Nat) (a7a : Option Addr) (a7n : Nat) (a7c : Nat) (a8 : Int) (a9 : Int) (a10 : Int) (a11a : Option Addr) (a11n : Nat) (a11c : Nat) (a12a : Option Addr) (a12n : Nat) (a12c : Nat) (a13a : Option Addr) (a13n : Nat) (a13c : Nat) (a14a : Option Addr) (a14n : Nat) (a14c : Nat) (a15 : Int) (a16a : Option Addr) (a16n : Nat) (a16c : Nat) (o0a : Option Addr) (o0n : Nat) (o0c : Nat) (o1a : Option Addr) (o1n : Nat) (o1c : Nat) (o2a : Option Addr) (o2n : Nat) (o2c : Nat) : VC :=
 .new 36 [.int .u64 r0, .int .i64 r1, .int .i64 r2, .int .i64 r3, .int .u64 r4, .int .u64 r5, .slice r6a r6n r6c, .slice r7a r7n r7c, .int .u64 r8, .int .i64 r9, .int .i64 r10, .slice r11a r11n r11c, .slice r12a r12n r12c, .slice r13a r13n r13c, .slice r14a r14n r14c, .int .u64 r15, .slice r16a r16n r16c] fun p1 =>
 .new 36 [.int .u64 a0, .int .i64 a1, .int .i64 a2, .int .i64 a3, .int .u64 a4, .int .u64 a5, .slice a6a a6n a6c, .slice a7a a7n a7c, .int .u64 a8, .int .i64 a9, .int .i64 a10, .slice a11a a11n a11c, .slice a12a a12n a12c, .slice a13a a13n a13c, .slice a14a a14n a14c, .int .u64 a15, .slice a16a a16n a16c] fun p2 =>
 .new 48 [.slice o0a o0n o0c, .slice o1a o1n o1c, .slice o2a o2n o2c] fun p3 =>
 .load ⟨p1, 0, none⟩ 2 fun v4 =>
 .exI fun i5 =>
 .exI fun i6 =>
 .isL v4 [.int .u64 i5, .int .i64 i6] <|
 .load ⟨p1, 4, none⟩ 3 fun v7 =>
 .exI fun i8 =>
 .exI fun i9 =>
 .exS fun a10 n10 c10 =>
 .isL v7 [.int .u64 i8, .int .u64 i9, .slice a10 n10 c10] <|
 .load ⟨p1, 7, none⟩ 1 fun v11 =>
 .exS fun a12 n12 c12 =>
 .isL v11 [.slice a12 n12 c12] <|
 .load ⟨p3, 0, none⟩ 1 fun v13 =>
 .exS fun a14 n14 c14 =>
 .isL v13 [.slice a14 n14 c14] <|
 .call 86 ([.agg #[.int .u64 i5, .int .i64 i6, .int .u64 i8, .int .u64 i9, .slice a10 n10 c10, .slice a12 n12 c12], .slice a14 n14 c14]) fun v15 =>
 .exI fun i16 =>
 .exI fun i17 =>
 .exI fun i18 =>
 .exI fun i19 =>
 .exS fun a20 n20 c20 =>
 .exS fun a21 n21 c21 =>
 .isL [v15] [.agg #[.int .u64 i16, .int .i64 i17, .int .u64 i18, .int .u64 i19, .slice a20 n20 c20, .slice a21 n21 c21]] <|
 .new 30 [.int .u64 0, .int .i64 0, .int .u64 0, .int .u64 0, .slice none 0 0, .slice none 0 0] fun p22 =>
 .store ⟨p22, 0, none⟩ [.int .u64 i16, .int .i64 i17, .int .u64 i18, .int .u64 i19, .slice a20 n20 c20, .slice a21 n21 c21] <|
 .load ⟨p22, 0, none⟩ 6 fun v23 =>
 .exI fun i24 =>
 .exI fun i25 =>
 .exI fun i26 =>
 .exI fun i27 =>
 .exS fun a28 n28 c28 =>
 .exS fun a29 n29 c29 =>
 .isL v23 [.int .u64 i24, .int .i64 i25, .int .u64 i26, .int .u64 i27, .slice a28 n28 c28, .slice a29 n29 c29] <|
 .load ⟨p2, 0, none⟩ 2 fun v30 =>
 .exI fun i31 =>
 .exI fun i32 =>
 .isL v30 [.int .u64 i31, .int .i64 i32] <|
 .load ⟨p2, 4, none⟩ 3 fun v33 =>
 .exI fun i34 =>
 .exI fun i35 =>
 .exS fun a36 n36 c36 =>
 .isL v33 [.int .u64 i34, .int .u64 i35, .slice a36 n36 c36] <|
 .load ⟨p2, 7, none⟩ 1 fun v37 =>
 .exS fun a38 n38 c38 =>
 .isL v37 [.slice a38 n38 c38] <|
 .call 87 ([.agg #[.int .u64 i24, .int .i64 i25, .int .u64 i26, .int .u64 i27, .slice a28 n28 c28, .slice a29 n29 c29], .agg #[.int .u64 i31, .int .i64 i32, .int .u64 i34, .int .u64 i35, .slice a36 n36 c36, .slice a38 n38 c38]]) fun v39 =>
 .exB fun b40 =>
 .isL [v39] [.bool b40] <|
 .ret (.bool b40)
theorem e45 (r0 : Int) (r1 : Int) (r2 : Int) (r3 : Int) (r4 : Int) (r5 : Int) (r6a : Option Addr) (r6n : Nat) (r6c : Nat) (r7a : Option Addr) (r7n : Nat) (r7c : Nat) (r8 : Int) (r9 : Int) (r10 : Int) (r11a : Option Addr) (r11n : Nat) (r11c : Nat) (r12a : Option Addr) (r12n : Nat) (r12c : Nat) (r13a : Option Addr) (r13n : Nat) (r13c : Nat) (r14a : Option Addr) (r14n : Nat) (r14c : Nat) (r15 : Int) (r16a : Option Addr) (r16n : Nat) (r16c : Nat) (a0 : Int) (a1 : Int) (a2 : Int) (a3 : Int) (a4 : Int) (a5 : Int) (a6a : Option Addr) (a6n : Nat) (a6c : Nat) (a7a : Option Addr) (a7n : Nat) (a7c : Nat) (a8 : Int) (a9 : Int) (a10 : Int) (a11a : Option Addr) (a11n : Nat) (a11c : Nat) (a12a : Option Addr) (a12n : Nat) (a12c : Nat) (a13a : Option Addr) (a13n : Nat) (a13c : Nat) (a14a : Option Addr) (a14n : Nat) (a14c : Nat) (a15 : Int) (a16a : Option Addr) (a16n : Nat) (a16c : Nat) (o0a : Option Addr) (o0n : Nat) (o0c : Nat) (o1a : Option Addr) (o1n : Nat) (o1c : Nat) (o2a : Option Addr) (o2n : Nat) (o2c : Nat) : genFn Try.prog noM noM Try.f45 [.agg #[.int .u64 r0, .int .i64 r1, .int .i64 r2, .int .i64 r3, .int .u64 r4, .int .u64 r5, .slice r6a r6n r6c, .slice r7a r7n r7c, .int .u64 r8, .int .i64 r9, .int .i64 r10, .slice r11a r11n r11c, .slice r12a r12n r12c, .slice r13a r13n r13c, .slice r14a r14n r14c, .int .u64 r15, .slice r16a r16n r16c], .agg #[.int .u64 a0, .int .i64 a1, .int .i64 a2, .int .i64 a3, .int .u64 a4, .int .u64 a5, .slice a6a a6n a6c, .slice a7a a7n a7c, .int .u64 a8, .int .i64 a9, .int .i64 a10, .slice a11a a11n a11c, .slice a12a a12n a12c, .slice a13a a13n a13c, .slice a14a a14n a14c, .int .u64 a15, .slice a16a a16n a16c], .agg #[.slice o0a o0n o0c, .slice o1a o1n o1c, .slice o2a o2n o2c]] = t45 r0 r1 r2 r3 r4 r5 r6a r6n r6c r7a r7n r7c r8 r9 r10 r11a r11n r11c r12a r12n r12c r13a r13n r13c r14a r14n r14c r15 r16a r16n r16c a0 a1 a2 a3 a4 a5 a6a a6n a6c a7a a7n a7c a8 a9 a10 a11a a11n a11c a12a a12n a12c a13a a13n a13c a14a a14n a14c a15 a16a a16n a16c o0a o0n o0c o1a o1n o1c o2a o2n o2c := by kernel_rfl
theorem r45 (r0 : Int) (r1 : Int) (r2 : Int) (r3 : Int) (r4 : Int) (r5 : Int) (r6a : Option Addr) (r6n : Nat) (r6c : Nat) (r7a : Option Addr) (r7n : Nat) (r7c : Nat) (r8 : Int) (r9 : Int) (r10 : Int) (r11a : Option Addr) (r11n : Nat) (r11c : Nat) (r12a : Option Addr) (r12n : Nat) (r12c : Nat) (r13a : Option Addr) (r13n : Nat) (r13c : Nat) (r14a : Option Addr) (r14n : Nat) (r14c : Nat) (r15 : Int) (r16a : Option Addr) (r16n : Nat) (r16c : Nat) (a0 : Int) (a1 : Int) (a2 : Int) (a3 : Int) (a4 : Int) (a5 : Int) (a6a : Option Addr) (a6n : Nat) (a6c : Nat) (a7a : Option Addr) (a7n : Nat) (a7c : Nat) (a8 : Int) (a9 : Int) (a10 : Int) (a11a : Option Addr) (a11n : Nat) (a11c : Nat) (a12a : Option Addr) (a12n : Nat) (a12c : Nat) (a13a : Option Addr) (a13n : Nat) (a13c : Nat) (a14a : Option Addr) (a14n : Nat) (a14c : Nat) (a15 : Int) (a16a : Option Addr) (a16n : Nat) (a16c : Nat) (o0a : Option Addr) (o0n : Nat) (o0c : Nat) (o1a : Option Addr) (o1n : Nat) (o1c : Nat) (o2a : Option Addr) (o2n : Nat) (o2c : Nat) {R : Value → World → Prop} {w : World} (h : (t45 r0 r1 r2 r3 r4 r5 r6a r6n r6c r7a r7n r7c r8 r9 r10 r11a r11n r11c r12a r12n r12c r13a r13n r13c r14a r14n r14c r15 r16a r16n r16c a0 a1 a2 a3 a4 a5 a6a a6n a6c a7a a7n a7c a8 a9 a10 a11a a11n a11c a12a a12n a12c a13a a13n a13c a14a a14n a14c a15 a16a a16n a16c o0a o0n o0c o1a o1n o1c o2a o2n o2c).wp Try.prog R (fun _ _ _ => False) w) : Runs Try.prog 45 [.agg #[.int .u64 r0, .int .i64 r1, .int .i64 r2, .int .i64 r3, .int .u64 r4, .int .u64 r5, .slice r6a r6n r6c, .slice r7a r7n r7c, .int .u64 r8, .int .i64 r9, .int .i64 r10, .slice r11a r11n r11c, .slice r12a r12n r12c, .slice r13a r13n r13c, .slice r14a r14n r14c, .int .u64 r15, .slice r16a r16n r16c], .agg #[.int .u64 a0, .int .i64 a1, .int .i64 a2, .int .i64 a3, .int .u64 a4, .int .u64 a5, .slice a6a a6n a6c, .slice a7a a7n a7c, .int .u64 a8, .int .i64 a9, .int .i64 a10, .slice a11a a11n a11c, .slice a12a a12n a12c, .slice a13a a13n a13c, .slice a14a a14n a14c, .int .u64 a15, .slice a16a a16n a16c], .agg #[.slice o0a o0n o0c, .slice o1a o1n o1c, .slice o2a o2n o2c]] w R :=
 genFn_runs mixed noM noM Try.func45 (by kernel_rfl) (by rw [e45]; exact h)
def lv86 : Marks := (fun | some 2 => some [(5, .int .i64 0)] | some 12 => some [(7, .int .i64 0)] | _ => none)
def t86 (k0 : Int) (k1 : Int) (k2 : Int) (k3 : Int) (k4a : Option Addr) (k4n : Nat) (k4c : Nat) (k5a : Option Addr) (k5n : Nat) (k5c : Nat) (la : Option Addr) (ln : Nat) (lc : Nat) : VC :=
 .new 30 [.int .u64 k0, .int .i64 k1, .int .u64 k2, .int .u64 k3, .slice k4a k4n k4c, .slice k5a k5n k5c] fun p1 =>
 .new 30 [.int .u64 0, .int .i64 0, .int .u64 0, .int .u64 0, .slice none 0 0, .slice none 0 0] fun p2 =>
 .loop 0 [.int .i64 0] (fun v3 =>
  .exI fun i4 =>
  .isL v3 [.int .i64 i4] <|
  bif (decide (i4 < (↑ln : Int))) then
   (.some la fun x5 =>
   .need ((0 : Int) ≤ i4 ∧ i4 < (↑ln : Int)) <|
   .load (x5.add (i4.toNat * 9)) 9 fun v6 =>
   .exI fun i7 =>
   .exI fun i8 =>
   .exI fun i9 =>
   .exI fun i10 =>
   .exS fun a11 n11 c11 =>
   .exI fun i12 =>
   .exI fun i13 =>
   .exI fun i14 =>
   .exS fun a15 n15 c15 =>
   .isL v6 [.int .i64 i7, .int .u64 i8, .int .i64 i9, .int .u64 i10, .slice a11 n11 c11, .int .u64 i12, .int .u64 i13, .int .u64 i14, .slice a15 n15 c15] <|
   .new 59 [.int .i64 0, .int .u64 0, .int .i64 0, .int .u64 0, .slice none 0 0, .int .u64 0, .int .u64 0, .int .u64 0, .slice none 0 0] fun p16 =>
   .store ⟨p16, 0, none⟩ [.int .i64 i7, .int .u64 i8, .int .i64 i9, .int .u64 i10, .slice a11 n11 c11, .int .u64 i12, .int .u64 i13, .int .u64 i14, .slice a15 n15 c15] <|
   .load ⟨p16, 0, none⟩ 1 fun v17 =>
   .exI fun i18 =>
   .isL v17 [.int .i64 i18] <|
   bif (i18 == 1) then
    (.load ⟨p16, 1, none⟩ 2 fun v19 =>
    .exI fun i20 =>
    .exI fun i21 =>
    .isL v19 [.int .u64 i20, .int .i64 i21] <|
    .store ⟨p1, 0, none⟩ [.int .u64 i20, .int .i64 i21] <|
    .again 0 [.int .i64 (IntKind.i64.wrap (i4 + 1))])
   else
   (bif (i18 == 2) then
    (.draw <|
    .load ⟨p1, 5, none⟩ 1 fun v22 =>
    .exS fun a23 n23 c23 =>
    .isL v22 [.slice a23 n23 c23] <|
    .load ⟨p16, 3, none⟩ 2 fun v24 =>
    .exI fun i25 =>
    .exS fun a26 n26 c26 =>
    .isL v24 [.int .u64 i25, .slice a26 n26 c26] <|
    .both
     (.new 57 [] fun p27 =>
     .both
      (.append 57 2 32 [.int .u64 0, .slice none 0 0] (some ⟨p27, 0, none⟩) 0 0 a23 n23 fun a28 n28 c28 =>
      .hold [(⟨p16, 3, none⟩, [.int .u64 i25, .slice a26 n26 c26])] <|
      .new 57 [.int .u64 i25, .slice a26 n26 c26] fun p29 =>
      .append 57 2 32 [.int .u64 0, .slice none 0 0] a28 n28 c28 (some ⟨p29, 0, none⟩) 1 fun a30 n30 c30 =>
      .store ⟨p1, 5, none⟩ [.slice a30 n30 c30] <|
      .again 0 [.int .i64 (IntKind.i64.wrap (i4 + 1))])
     (.new 57 [.int .u64 i25, .slice a26 n26 c26] fun p31 =>
     .append 57 2 32 [.int .u64 0, .slice none 0 0] (some ⟨p27, 0, none⟩) 0 0 a23 n23 fun a32 n32 c32 =>
     .append 57 2 32 [.int .u64 0, .slice none 0 0] a32 n32 c32 (some ⟨p31, 0, none⟩) 1 fun a33 n33 c33 =>
     .store ⟨p1, 5, none⟩ [.slice a33 n33 c33] <|
     .again 0 [.int .i64 (IntKind.i64.wrap (i4 + 1))]))
    (.new 57 [.int .u64 i25, .slice a26 n26 c26] fun p34 =>
    .new 57 [] fun p35 =>
    .append 57 2 32 [.int .u64 0, .slice none 0 0] (some ⟨p35, 0, none⟩) 0 0 a23 n23 fun a36 n36 c36 =>
    .append 57 2 32 [.int .u64 0, .slice none 0 0] a36 n36 c36 (some ⟨p34, 0, none⟩) 1 fun a37 n37 c37 =>
    .store ⟨p1, 5, none⟩ [.slice a37 n37 c37] <|
    .again 0 [.int .i64 (IntKind.i64.wrap (i4 + 1))]))
   else
   (bif (i18 == 3) then
    (.loop 1 [.int .i64 0] (fun v38 =>
     .exI fun i39 =>
     .isL v38 [.int .i64 i39] <|
     .load ⟨p1, 5, none⟩ 1 fun v40 =>
     .exS fun a41 n41 c41 =>
     .isL v40 [.slice a41 n41 c41] <|
     bif (decide (i39 < (↑n41 : Int))) then
      (.load ⟨p16, 5, none⟩ 1 fun v42 =>
      .exI fun i43 =>
      .isL v42 [.int .u64 i43] <|
      .load ⟨p1, 2, none⟩ 1 fun v44 =>
      .exI fun i45 =>
      .isL v44 [.int .u64 i45] <|
      bif (decide (i43 > i45)) then
       (.load ⟨p16, 5, none⟩ 1 fun v46 =>
       .exI fun i47 =>
       .isL v46 [.int .u64 i47] <|
       .load ⟨p1, 2, none⟩ 1 fun v48 =>
       .exI fun i49 =>
       .isL v48 [.int .u64 i49] <|
       bif (decide (IntKind.u64.wrap i39 < IntKind.u64.wrap (IntKind.u64.wrap (i47 - i49) - 1))) then
        (.again 1 [.int .i64 (IntKind.i64.wrap (i39 + 1))])
       else
       (.new 57 [] fun p50 =>
       .load ⟨p1, 5, none⟩ 1 fun v51 =>
       .exS fun a52 n52 c52 =>
       .isL v51 [.slice a52 n52 c52] <|
       .need ((0 : Int) ≤ i39 ∧ i39 ≤ (↑c52 : Int)) <|
       .append 57 2 32 [.int .u64 0, .slice none 0 0] (some ⟨p50, 0, none⟩) 0 0 (if c52 = 0 then a52 else Option.map (fun x => x) a52) (i39.toNat - 0) fun a53 n53 c53 =>
       .store ⟨p1, 5, none⟩ [.slice a53 n53 c53] <|
       .again 0 [.int .i64 (IntKind.i64.wrap (i4 + 1))]))
      else
      (.new 57 [] fun p54 =>
      .load ⟨p1, 5, none⟩ 1 fun v55 =>
      .exS fun a56 n56 c56 =>
      .isL v55 [.slice a56 n56 c56] <|
      .need ((0 : Int) ≤ i39 ∧ i39 ≤ (↑c56 : Int)) <|
      .append 57 2 32 [.int .u64 0, .slice none 0 0] (some ⟨p54, 0, none⟩) 0 0 (if c56 = 0 then a56 else Option.map (fun x => x) a56) (i39.toNat - 0) fun a57 n57 c57 =>
      .store ⟨p1, 5, none⟩ [.slice a57 n57 c57] <|
      .again 0 [.int .i64 (IntKind.i64.wrap (i4 + 1))]))
     else
     (.new 57 [] fun p58 =>
     .load ⟨p1, 5, none⟩ 1 fun v59 =>
     .exS fun a60 n60 c60 =>
     .isL v59 [.slice a60 n60 c60] <|
     .need ((0 : Int) ≤ i39 ∧ i39 ≤ (↑c60 : Int)) <|
     .append 57 2 32 [.int .u64 0, .slice none 0 0] (some ⟨p58, 0, none⟩) 0 0 (if c60 = 0 then a60 else Option.map (fun x => x) a60) (i39.toNat - 0) fun a61 n61 c61 =>
     .store ⟨p1, 5, none⟩ [.slice a61 n61 c61] <|
     .again 0 [.int .i64 (IntKind.i64.wrap (i4 + 1))])))
   else
   (bif (i18 == 4) then
    (.load ⟨p16, 6, none⟩ 1 fun v62 =>
    .exI fun i63 =>
    .isL v62 [.int .u64 i63] <|
    .load ⟨p1, 2, none⟩ 1 fun v64 =>
    .exI fun i65 =>
    .isL v64 [.int .u64 i65] <|
    bif (decide (i63 > i65)) then
     (.load ⟨p16, 6, none⟩ 1 fun v66 =>
     .exI fun i67 =>
     .isL v66 [.int .u64 i67] <|
     .load ⟨p1, 2, none⟩ 1 fun v68 =>
     .exI fun i69 =>
     .isL v68 [.int .u64 i69] <|
     .draw <|
     .load ⟨p1, 5, none⟩ 1 fun v70 =>
     .exS fun a71 n71 c71 =>
     .isL v70 [.slice a71 n71 c71] <|
     bif (decide (IntKind.u64.wrap (i67 - i69) ≤ IntKind.u64.wrap (↑n71 : Int))) then
      (.load ⟨p1, 5, none⟩ 1 fun v72 =>
      .exS fun a73 n73 c73 =>
      .isL v72 [.slice a73 n73 c73] <|
      .some a73 fun x74 =>
      .need ((0 : Int) ≤ IntKind.u64.wrap (IntKind.u64.wrap (i67 - i69) - 1) ∧ IntKind.u64.wrap (IntKind.u64.wrap (i67 - i69) - 1) < (↑n73 : Int)) <|
      .load (x74.add ((IntKind.u64.wrap (IntKind.u64.wrap (i67 - i69) - 1)).toNat * 2)) 1 fun v75 =>
      .exI fun i76 =>
      .isL v75 [.int .u64 i76] <|
      .load ⟨p16, 7, none⟩ 1 fun v77 =>
      .exI fun i78 =>
      .isL v77 [.int .u64 i78] <|
      bif (i76 == i78) then
       (.load ⟨p1, 5, none⟩ 1 fun v79 =>
       .exS fun a80 n80 c80 =>
       .isL v79 [.slice a80 n80 c80] <|
       .need ((0 : Int) ≤ IntKind.u64.wrap (i67 - i69) ∧ IntKind.u64.wrap (i67 - i69) ≤ (↑n80 : Int)) <|
       .append 57 2 32 [.int .u64 0, .slice none 0 0] none 0 0 (if c80 = (IntKind.u64.wrap (i67 - i69)).toNat then a80 else Option.map (fun x => x.add ((IntKind.u64.wrap (i67 - i69)).toNat * 2)) a80) (n80 - (IntKind.u64.wrap (i67 - i69)).toNat) fun a81 n81 c81 =>
       .load ⟨p16, 6, none⟩ 3 fun v82 =>
       .exI fun i83 =>
       .exI fun i84 =>
       .exS fun a85 n85 c85 =>
       .isL v82 [.int .u64 i83, .int .u64 i84, .slice a85 n85 c85] <|
       .store ⟨p1, 2, none⟩ [.int .u64 i83, .int .u64 i84, .slice a85 n85 c85] <|
       .store ⟨p1, 5, none⟩ [.slice a81 n81 c81] <|
       .again 0 [.int .i64 (IntKind.i64.wrap (i4 + 1))])
      else
      (.load ⟨p16, 6, none⟩ 3 fun v86 =>
      .exI fun i87 =>
      .exI fun i88 =>
      .exS fun a89 n89 c89 =>
      .isL v86 [.int .u64 i87, .int .u64 i88, .slice a89 n89 c89] <|
      .store ⟨p1, 2, none⟩ [.int .u64 i87, .int .u64 i88, .slice a89 n89 c89] <|
      .store ⟨p1, 5, none⟩ [.slice none 0 0] <|
      .again 0 [.int .i64 (IntKind.i64.wrap (i4 + 1))]))
     else
     (.load ⟨p16, 6, none⟩ 3 fun v90 =>
     .exI fun i91 =>
     .exI fun i92 =>
     .exS fun a93 n93 c93 =>
     .isL v90 [.int .u64 i91, .int .u64 i92, .slice a93 n93 c93] <|
     .store ⟨p1, 2, none⟩ [.int .u64 i91, .int .u64 i92, .slice a93 n93 c93] <|
     .store ⟨p1, 5, none⟩ [.slice none 0 0] <|
     .again 0 [.int .i64 (IntKind.i64.wrap (i4 + 1))]))
    else
    (.again 0 [.int .i64 (IntKind.i64.wrap (i4 + 1))]))
   else
   (.again 0 [.int .i64 (IntKind.i64.wrap (i4 + 1))])))))
  else
  (.load ⟨p1, 0, none⟩ 6 fun v94 =>
  .exI fun i95 =>
  .exI fun i96 =>
  .exI fun i97 =>
  .exI fun i98 =>
  .exS fun a99 n99 c99 =>
  .exS fun a100 n100 c100 =>
  .isL v94 [.int .u64 i95, .int .i64 i96, .int .u64 i97, .int .u64 i98, .slice a99 n99 c99, .slice a100 n100 c100] <|
  .store ⟨p2, 0, none⟩ [.int .u64 i95, .int .i64 i96, .int .u64 i97, .int .u64 i98, .slice a99 n99 c99, .slice a100 n100 c100] <|
  .load ⟨p2, 0, none⟩ 6 fun v101 =>
  .exI fun i102 =>
  .exI fun i103 =>
  .exI fun i104 =>
  .exI fun i105 =>
  .exS fun a106 n106 c106 =>
  .exS fun a107 n107 c107 =>
  .isL v101 [.int .u64 i102, .int .i64 i103, .int .u64 i104, .int .u64 i105, .slice a106 n106 c106, .slice a107 n107 c107] <|
  .ret (.agg #[.int .u64 i102, .int .i64 i103, .int .u64 i104, .int .u64 i105, .slice a106 n106 c106, .slice a107 n107 c107])))
theorem e86 (k0 : Int) (k1 : Int) (k2 : Int) (k3 : Int) (k4a : Option Addr) (k4n : Nat) (k4c : Nat) (k5a : Option Addr) (k5n : Nat) (k5c : Nat) (la : Option Addr) (ln : Nat) (lc : Nat) : genFn Try.prog lv86 noM Try.f86 [.agg #[.int .u64 k0, .int .i64 k1, .int .u64 k2, .int .u64 k3, .slice k4a k4n k4c, .slice k5a k5n k5c], .slice la ln lc] = t86 k0 k1 k2 k3 k4a k4n k4c k5a k5n k5c la ln lc := by kernel_rfl
theorem r86 (k0 : Int) (k1 : Int) (k2 : Int) (k3 : Int) (k4a : Option Addr) (k4n : Nat) (k4c : Nat) (k5a : Option Addr) (k5n : Nat) (k5c : Nat) (la : Option Addr) (ln : Nat) (lc : Nat) {R : Value → World → Prop} {w : World} (h : (t86 k0 k1 k2 k3 k4a k4n k4c k5a k5n k5c la ln lc).wp Try.prog R (fun _ _ _ => False) w) : Runs Try.prog 86 [.agg #[.int .u64 k0, .int .i64 k1, .int .u64 k2, .int .u64 k3, .slice k4a k4n k4c, .slice k5a k5n k5c], .slice la ln lc] w R :=
 genFn_runs mixed lv86 noM Try.func86 (by kernel_rfl) (by rw [e86]; exact h)
def t87 (a0 : Int) (a1 : Int) (a2 : Int) (a3 : Int) (a4a : Option Addr) (a4n : Nat) (a4c : Nat) (a5a : Option Addr) (a5n : Nat) (a5c : Nat) (b0 : Int) (b1 : Int) (b2 : Int) (b3 : Int) (b4a : Option Addr) (b4n : Nat) (b4c : Nat) (b5a : Option Addr) (b5n : Nat) (b5c : Nat) : VC :=
 .new 30 [.int .u64 a0, .int .i64 a1, .int .u64 a2, .int .u64 a3, .slice a4a a4n a4c, .slice a5a a5n a5c] fun p1 =>
 .new 30 [.int .u64 b0, .int .i64 b1, .int .u64 b2, .int .u64 b3, .slice b4a b4n b4c, .slice b5a b5n b5c] fun p2 =>
 .load ⟨p1, 0, none⟩ 2 fun v3 =>
 .exI fun i4 =>
 .exI fun i5 =>
 .isL v3 [.int .u64 i4, .int .i64 i5] <|
 .load ⟨p2, 0, none⟩ 2 fun v6 =>
 .exI fun i7 =>
 .exI fun i8 =>
 .isL v6 [.int .u64 i7, .int .i64 i8] <|
 bif (i4 == i7 && (i5 == i8 && true)) then
  (.load ⟨p1, 2, none⟩ 3 fun v9 =>
  .exI fun i10 =>
  .exI fun i11 =>
  .exS fun a12 n12 c12 =>
  .isL v9 [.int .u64 i10, .int .u64 i11, .slice a12 n12 c12] <|
  .load ⟨p2, 2, none⟩ 3 fun v13 =>
  .exI fun i14 =>
  .exI fun i15 =>
  .exS fun a16 n16 c16 =>
  .isL v13 [.int .u64 i14, .int .u64 i15, .slice a16 n16 c16] <|
  .call 49 ([.agg #[.int .u64 i10, .int .u64 i11, .slice a12 n12 c12], .agg #[.int .u64 i14, .int .u64 i15, .slice a16 n16 c16]]) fun v17 =>
  .exB fun b18 =>
  .isL [v17] [.bool b18] <|
  bif b18 then
   (.load ⟨p1, 5, none⟩ 1 fun v19 =>
   .exS fun a20 n20 c20 =>
   .isL v19 [.slice a20 n20 c20] <|
   .load ⟨p2, 5, none⟩ 1 fun v21 =>
   .exS fun a22 n22 c22 =>
   .isL v21 [.slice a22 n22 c22] <|
   .call 48 ([.slice a20 n20 c20, .slice a22 n22 c22]) fun v23 =>
   .exB fun b24 =>
   .isL [v23] [.bool b24] <|
   .ret (.bool b24))
  else
  (.ret (.bool false)))
 else
 (.ret (.bool false))
theorem e87 (a0 : Int) (a1 : Int) (a2 : Int) (a3 : Int) (a4a : Option Addr) (a4n : Nat) (a4c : Nat) (a5a : Option Addr) (a5n : Nat) (a5c : Nat) (b0 : Int) (b1 : Int) (b2 : Int) (b3 : Int) (b4a : Option Addr) (b4n : Nat) (b4c : Nat) (b5a : Option Addr) (b5n : Nat) (b5c : Nat) : genFn Try.prog noM noM Try.f87 [.agg #[.int .u64 a0, .int .i64 a1, .int .u64 a2, .int .u64 a3, .slice a4a a4n a4c, .slice a5a a5n a5c], .agg #[.int .u64 b0, .int .i64 b1, .int .u64 b2, .int .u64 b3, .slice b4a b4n b4c, .slice b5a b5n b5c]] = t87 a0 a1 a2 a3 a4a a4n a4c a5a a5n a5c b0 b1 b2 b3 b4a b4n b4c b5a b5n b5c := by kernel_rfl
theorem r87 (a0 : Int) (a1 : Int) (a2 : Int) (a3 : Int) (a4a : Option Addr) (a4n : Nat) (a4c : Nat) (a5a : Option Addr) (a5n : Nat) (a5c : Nat) (b0 : Int) (b1 : Int) (b2 : Int) (b3 : Int) (b4a : Option Addr) (b4n : Nat) (b4c : Nat) (b5a : Option Addr) (b5n : Nat) (b5c : Nat) {R : Value → World → Prop} {w : World} (h : (t87 a0 a1 a2 a3 a4a a4n a4c a5a a5n a5c b0 b1 b2 b3 b4a b4n b4c b5a b5n b5c).wp Try.prog R (fun _ _ _ => False) w) : Runs Try.prog 87 [.agg #[.int .u64 a0, .int .i64 a1, .int .u64 a2, .int .u64 a3, .slice a4a a4n a4c, .slice a5a a5n a5c], .agg #[.int .u64 b0, .int .i64 b1, .int .u64 b2, .int .u64 b3, .slice b4a b4n b4c, .slice b5a b5n b5c]] w R :=
 genFn_runs mixed noM noM Try.func87 (by kernel_rfl) (by rw [e87]; exact h)
end Go.Proofs.Ytnbfffmdplcajaa
