/- The trees of verification conditions of functions 23-29,50-73,94-103,106-111: printed by a program of mine, checked here. -/
import Derived.Test.YtnbfffmdplcajaaTree0
set_option linter.unusedVariables false
set_option maxRecDepth 100000
namespace Go.Proofs.Ytnbfffmdplcajaa
open Go.Vc
def t23 (id : Int) (n : Int) (k0 : Int) (k1 : Int) (k2 : Int) (k3 : Int) (k4a : Option Addr) (k4n : Nat) (k4c : Nat) (k5a : Option Addr) (k5n : Nat) (k5c : Nat) : VC :=
 .new 30 [.int .u64 k0, .int .i64 k1, .int .u64 k2, .int .u64 k3, .slice k4a k4n k4c, .slice k5a k5n k5c] fun p1 =>
 .new 36 [.int .u64 0, .int .i64 0, .int .i64 0, .int .i64 0, .int .u64 0, .int .u64 0, .slice none 0 0, .slice none 0 0, .int .u64 0, .int .i64 0, .int .i64 0, .slice none 0 0, .slice none 0 0, .slice none 0 0, .slice none 0 0, .int .u64 0, .slice none 0 0] fun p2 =>
 .load ⟨p1, 0, none⟩ 2 fun v3 =>
 .exI fun i4 =>
 .exI fun i5 =>
 .isL v3 [.int .u64 i4, .int .i64 i5] <|
 .load ⟨p1, 2, none⟩ 3 fun v6 =>
 .exI fun i7 =>
 .exI fun i8 =>
 .exS fun a9 n9 c9 =>
 .isL v6 [.int .u64 i7, .int .u64 i8, .slice a9 n9 c9] <|
 .load ⟨p1, 5, none⟩ 1 fun v10 =>
 .exS fun a11 n11 c11 =>
 .isL v10 [.slice a11 n11 c11] <|
 .load ⟨p1, 2, none⟩ 1 fun v12 =>
 .exI fun i13 =>
 .isL v12 [.int .u64 i13] <|
 .call 50 ([.agg #[.int .u64 i4, .int .i64 i5, .int .i64 id, .int .i64 n, .int .u64 i7, .int .u64 i8, .slice a9 n9 c9, .slice a11 n11 c11, .int .u64 i13, .int .i64 0, .int .i64 0, .slice none 0 0, .slice none 0 0, .slice none 0 0, .slice none 0 0, .int .u64 0, .slice none 0 0]]) fun v14 =>
 .exI fun i15 =>
 .exI fun i16 =>
 .exI fun i17 =>
 .exI fun i18 =>
 .exI fun i19 =>
 .exI fun i20 =>
 .exS fun a21 n21 c21 =>
 .exS fun a22 n22 c22 =>
 .exI fun i23 =>
 .exI fun i24 =>
 .exI fun i25 =>
 .exS fun a26 n26 c26 =>
 .exS fun a27 n27 c27 =>
 .exS fun a28 n28 c28 =>
 .exS fun a29 n29 c29 =>
 .exI fun i30 =>
 .exS fun a31 n31 c31 =>
 .isL [v14] [.agg #[.int .u64 i15, .int .i64 i16, .int .i64 i17, .int .i64 i18, .int .u64 i19, .int .u64 i20, .slice a21 n21 c21, .slice a22 n22 c22, .int .u64 i23, .int .i64 i24, .int .i64 i25, .slice a26 n26 c26, .slice a27 n27 c27, .slice a28 n28 c28, .slice a29 n29 c29, .int .u64 i30, .slice a31 n31 c31]] <|
 .store ⟨p2, 0, none⟩ [.int .u64 i15, .int .i64 i16, .int .i64 i17, .int .i64 i18, .int .u64 i19, .int .u64 i20, .slice a21 n21 c21, .slice a22 n22 c22, .int .u64 i23, .int .i64 i24, .int .i64 i25, .slice a26 n26 c26, .slice a27 n27 c27, .slice a28 n28 c28, .slice a29 n29 c29, .int .u64 i30, .slice a31 n31 c31] <|
 .load ⟨p2, 0, none⟩ 17 fun v32 =>
 .exI fun i33 =>
 .exI fun i34 =>
 .exI fun i35 =>
 .exI fun i36 =>
 .exI fun i37 =>
 .exI fun i38 =>
 .exS fun a39 n39 c39 =>
 .exS fun a40 n40 c40 =>
 .exI fun i41 =>
 .exI fun i42 =>
 .exI fun i43 =>
 .exS fun a44 n44 c44 =>
 .exS fun a45 n45 c45 =>
 .exS fun a46 n46 c46 =>
 .exS fun a47 n47 c47 =>
 .exI fun i48 =>
 .exS fun a49 n49 c49 =>
 .isL v32 [.int .u64 i33, .int .i64 i34, .int .i64 i35, .int .i64 i36, .int .u64 i37, .int .u64 i38, .slice a39 n39 c39, .slice a40 n40 c40, .int .u64 i41, .int .i64 i42, .int .i64 i43, .slice a44 n44 c44, .slice a45 n45 c45, .slice a46 n46 c46, .slice a47 n47 c47, .int .u64 i48, .slice a49 n49 c49] <|
 .ret (.agg #[.int .u64 i33, .int .i64 i34, .int .i64 i35, .int .i64 i36, .int .u64 i37, .int .u64 i38, .slice a39 n39 c39, .slice a40 n40 c40, .int .u64 i41, .int .i64 i42, .int .i64 i43, .slice a44 n44 c44, .slice a45 n45 c45, .slice a46 n46 c46, .slice a47 n47 c47, .int .u64 i48, .slice a49 n49 c49])
theorem e23 (id : Int) (n : Int) (k0 : Int) (k1 : Int) (k2 : Int) (k3 : Int) (k4a : Option Addr) (k4n : Nat) (k4c : Nat) (k5a : Option Addr) (k5n : Nat) (k5c : Nat) : genFn Try.prog noM noM Try.f23 [.int .i64 id, .int .i64 n, .agg #[.int .u64 k0, .int .i64 k1, .int .u64 k2, .int .u64 k3, .slice k4a k4n k4c, .slice k5a k5n k5c]] = t23 id n k0 k1 k2 k3 k4a k4n k4c k5a k5n k5c := by kernel_rfl
theorem r23 (id : Int) (n : Int) (k0 : Int) (k1 : Int) (k2 : Int) (k3 : Int) (k4a : Option Addr) (k4n : Nat) (k4c : Nat) (k5a : Option Addr) (k5n : Nat) (k5c : Nat) {R : Value → World → Prop} {w : World} (h : (t23 id n k0 k1 k2 k3 k4a k4n k4c k5a k5n k5c).wp Try.prog R (fun _ _ _ => False) w) : Runs Try.prog 23 [.int .i64 id, .int .i64 n, .agg #[.int .u64 k0, .int .i64 k1, .int .u64 k2, .int .u64 k3, .slice k4a k4n k4c, .slice k5a k5n k5c]] w R :=
 genFn_runs mixed noM noM Try.func23 (by kernel_rfl) (by rw [e23]; exact h)
def t24 (id : Int) (n : Int) (k0 : Int) (k1 : Int) (k2 : Int) (k3 : Int) (k4a : Option Addr) (k4n : Nat) (k4c : Nat) (k5a : Option Addr) (k5n : Nat) (k5c : Nat) : VC :=
 .new 30 [.int .u64 k0, .int .i64 k1, .int .u64 k2, .int .u64 k3, .slice k4a k4n k4c, .slice k5a k5n k5c] fun p1 =>
 .new 36 [.int .u64 0, .int .i64 0, .int .i64 0, .int .i64 0, .int .u64 0, .int .u64 0, .slice none 0 0, .slice none 0 0, .int .u64 0, .int .i64 0, .int .i64 0, .slice none 0 0, .slice none 0 0, .slice none 0 0, .slice none 0 0, .int .u64 0, .slice none 0 0] fun p2 =>
 .draw <|
 .load ⟨p1, 0, none⟩ 2 fun v3 =>
 .exI fun i4 =>
 .exI fun i5 =>
 .isL v3 [.int .u64 i4, .int .i64 i5] <|
 .load ⟨p1, 2, none⟩ 3 fun v6 =>
 .exI fun i7 =>
 .exI fun i8 =>
 .exS fun a9 n9 c9 =>
 .isL v6 [.int .u64 i7, .int .u64 i8, .slice a9 n9 c9] <|
 .load ⟨p1, 5, none⟩ 1 fun v10 =>
 .exS fun a11 n11 c11 =>
 .isL v10 [.slice a11 n11 c11] <|
 .load ⟨p1, 2, none⟩ 1 fun v12 =>
 .exI fun i13 =>
 .isL v12 [.int .u64 i13] <|
 .new 57 [] fun p14 =>
 .append 57 2 32 [.int .u64 0, .slice none 0 0] (some ⟨p14, 0, none⟩) 0 0 a11 n11 fun a15 n15 c15 =>
 .hold [(⟨p1, 2, none⟩, [.int .u64 i13]), (⟨p1, 2, none⟩, [.int .u64 i7, .int .u64 i8, .slice a9 n9 c9]), (⟨p1, 0, none⟩, [.int .u64 i4, .int .i64 i5])] <|
 .store ⟨p2, 0, none⟩ [.int .u64 i4, .int .i64 i5, .int .i64 id, .int .i64 n, .int .u64 i7, .int .u64 i8, .slice a9 n9 c9, .slice a15 n15 c15, .int .u64 i13, .int .i64 0, .int .i64 0, .slice none 0 0, .slice none 0 0, .slice none 0 0, .slice none 0 0, .int .u64 0, .slice none 0 0] <|
 .load ⟨p2, 0, none⟩ 17 fun v16 =>
 .exI fun i17 =>
 .exI fun i18 =>
 .exI fun i19 =>
 .exI fun i20 =>
 .exI fun i21 =>
 .exI fun i22 =>
 .exS fun a23 n23 c23 =>
 .exS fun a24 n24 c24 =>
 .exI fun i25 =>
 .exI fun i26 =>
 .exI fun i27 =>
 .exS fun a28 n28 c28 =>
 .exS fun a29 n29 c29 =>
 .exS fun a30 n30 c30 =>
 .exS fun a31 n31 c31 =>
 .exI fun i32 =>
 .exS fun a33 n33 c33 =>
 .isL v16 [.int .u64 i17, .int .i64 i18, .int .i64 i19, .int .i64 i20, .int .u64 i21, .int .u64 i22, .slice a23 n23 c23, .slice a24 n24 c24, .int .u64 i25, .int .i64 i26, .int .i64 i27, .slice a28 n28 c28, .slice a29 n29 c29, .slice a30 n30 c30, .slice a31 n31 c31, .int .u64 i32, .slice a33 n33 c33] <|
 .ret (.agg #[.int .u64 i17, .int .i64 i18, .int .i64 i19, .int .i64 i20, .int .u64 i21, .int .u64 i22, .slice a23 n23 c23, .slice a24 n24 c24, .int .u64 i25, .int .i64 i26, .int .i64 i27, .slice a28 n28 c28, .slice a29 n29 c29, .slice a30 n30 c30, .slice a31 n31 c31, .int .u64 i32, .slice a33 n33 c33])
theorem e24 (id : Int) (n : Int) (k0 : Int) (k1 : Int) (k2 : Int) (k3 : Int) (k4a : Option Addr) (k4n : Nat) (k4c : Nat) (k5a : Option Addr) (k5n : Nat) (k5c : Nat) : genFn Try.prog noM noM Try.f24 [.int .i64 id, .int .i64 n, .agg #[.int .u64 k0, .int .i64 k1, .int .u64 k2, .int .u64 k3, .slice k4a k4n k4c, .slice k5a k5n k5c]] = t24 id n k0 k1 k2 k3 k4a k4n k4c k5a k5n k5c := by kernel_rfl
theorem r24 (id : Int) (n : Int) (k0 : Int) (k1 : Int) (k2 : Int) (k3 : Int) (k4a : Option Addr) (k4n : Nat) (k4c : Nat) (k5a : Option Addr) (k5n : Nat) (k5c : Nat) {R : Value → World → Prop} {w : World} (h : (t24 id n k0 k1 k2 k3 k4a k4n k4c k5a k5n k5c).wp Try.prog R (fun _ _ _ => False) w) : Runs Try.prog 24 [.int .i64 id, .int .i64 n, .agg #[.int .u64 k0, .int .i64 k1, .int .u64 k2, .int .u64 k3, .slice k4a k4n k4c, .slice k5a k5n k5c]] w R :=
 genFn_runs mixed noM noM Try.func24 (by kernel_rfl) (by rw [e24]; exact h)
def t25 (r0 : Int) (r1 : Int) (r2 : Int) (r3 : Int) (r4 : Int) (r5 : Int) (r6a : Option Addr) (r6n : Nat) (r6c : Nat) (r7a : Option Addr) (r7n : Nat) (r7c : Nat) (r8 : Int) (r9 : Int) (r10 : Int) (r11a : Option Addr) (r11n : Nat) (r11c : Nat) (r12a : Option Addr) (r12n : Nat) (r12c : Nat) (r13a : Option Addr) (r13n : Nat) (r13c : Nat) (r14a : Option Addr) (r14n : Nat) (r14c : Nat) (r15 : Int) (r16a : Option Addr) (r16n : Nat) (r16c : Nat) : VC :=
 .new 36 [.int .u64 r0, .int .i64 r1, .int .i64 r2, .int .i64 r3, .int .u64 r4, .int .u64 r5, .slice r6a r6n r6c, .slice r7a r7n r7c, .int .u64 r8, .int .i64 r9, .int .i64 r10, .slice r11a r11n r11c, .slice r12a r12n r12c, .slice r13a r13n r13c, .slice r14a r14n r14c, .int .u64 r15, .slice r16a r16n r16c] fun p1 =>
 .load ⟨p1, 7, none⟩ 1 fun v2 =>
 .exS fun a3 n3 c3 =>
 .isL v2 [.slice a3 n3 c3] <|
 bif (decide ((↑n3 : Int) > 0)) then
  (.draw <|
  .load ⟨p1, 4, none⟩ 1 fun v4 =>
  .exI fun i5 =>
  .isL v4 [.int .u64 i5] <|
  .load ⟨p1, 7, none⟩ 1 fun v6 =>
  .exS fun a7 n7 c7 =>
  .isL v6 [.slice a7 n7 c7] <|
  .some a7 fun x8 =>
  .need ((0 : Int) ≤ IntKind.i64.wrap ((↑n3 : Int) - 1) ∧ IntKind.i64.wrap ((↑n3 : Int) - 1) < (↑n7 : Int)) <|
  .load (x8.add ((IntKind.i64.wrap ((↑n3 : Int) - 1)).toNat * 2)) 1 fun v9 =>
  .exI fun i10 =>
  .isL v9 [.int .u64 i10] <|
  .ret (.tuple #[.int .u64 (IntKind.u64.wrap (i5 + IntKind.u64.wrap (↑n3 : Int))), .int .u64 i10]))
 else
 (.draw <|
 .load ⟨p1, 4, none⟩ 1 fun v11 =>
 .exI fun i12 =>
 .isL v11 [.int .u64 i12] <|
 .load ⟨p1, 5, none⟩ 1 fun v13 =>
 .exI fun i14 =>
 .isL v13 [.int .u64 i14] <|
 .ret (.tuple #[.int .u64 i12, .int .u64 i14]))
theorem e25 (r0 : Int) (r1 : Int) (r2 : Int) (r3 : Int) (r4 : Int) (r5 : Int) (r6a : Option Addr) (r6n : Nat) (r6c : Nat) (r7a : Option Addr) (r7n : Nat) (r7c : Nat) (r8 : Int) (r9 : Int) (r10 : Int) (r11a : Option Addr) (r11n : Nat) (r11c : Nat) (r12a : Option Addr) (r12n : Nat) (r12c : Nat) (r13a : Option Addr) (r13n : Nat) (r13c : Nat) (r14a : Option Addr) (r14n : Nat) (r14c : Nat) (r15 : Int) (r16a : Option Addr) (r16n : Nat) (r16c : Nat) : genFn Try.prog noM noM Try.f25 [.agg #[.int .u64 r0, .int .i64 r1, .int .i64 r2, .int .i64 r3, .int .u64 r4, .int .u64 r5, .slice r6a r6n r6c, .slice r7a r7n r7c, .int .u64 r8, .int .i64 r9, .int .i64 r10, .slice r11a r11n r11c, .slice r12a r12n r12c, .slice r13a r13n r13c, .slice r14a r14n r14c, .int .u64 r15, .slice r16a r16n r16c]] = t25 r0 r1 r2 r3 r4 r5 r6a r6n r6c r7a r7n r7c r8 r9 r10 r11a r11n r11c r12a r12n r12c r13a r13n r13c r14a r14n r14c r15 r16a r16n r16c := by kernel_rfl
theorem r25 (r0 : Int) (r1 : Int) (r2 : Int) (r3 : Int) (r4 : Int) (r5 : Int) (r6a : Option Addr) (r6n : Nat) (r6c : Nat) (r7a : Option Addr) (r7n : Nat) (r7c : Nat) (r8 : Int) (r9 : Int) (r10 : Int) (r11a : Option Addr) (r11n : Nat) (r11c : Nat) (r12a : Option Addr) (r12n : Nat) (r12c : Nat) (r13a : Option Addr) (r13n : Nat) (r13c : Nat) (r14a : Option Addr) (r14n : Nat) (r14c : Nat) (r15 : Int) (r16a : Option Addr) (r16n : Nat) (r16c : Nat) {R : Value → World → Prop} {w : World} (h : (t25 r0 r1 r2 r3 r4 r5 r6a r6n r6c r7a r7n r7c r8 r9 r10 r11a r11n r11c r12a r12n r12c r13a r13n r13c r14a r14n r14c r15 r16a r16n r16c).wp Try.prog R (fun _ _ _ => False) w) : Runs Try.prog 25 [.agg #[.int .u64 r0, .int .i64 r1, .int .i64 r2, .int .i64 r3, .int .u64 r4, .int .u64 r5, .slice r6a r6n r6c, .slice r7a r7n r7c, .int .u64 r8, .int .i64 r9, .int .i64 r10, .slice r11a r11n r11c, .slice r12a r12n r12c, .slice r13a r13n r13c, .slice r14a r14n r14c, .int .u64 r15, .slice r16a r16n r16c]] w R :=
 genFn_runs mixed noM noM Try.func25 (by kernel_rfl) (by rw [e25]; exact h)
def t26 (r0 : Int) (r1 : Int) (r2 : Int) (r3 : Int) (r4 : Int) (r5 : Int) (r6a : Option Addr) (r6n : Nat) (r6c : Nat) (r7a : Option Addr) (r7n : Nat) (r7c : Nat) (r8 : Int) (r9 : Int) (r10 : Int) (r11a : Option Addr) (r11n : Nat) (r11c : Nat) (r12a : Option Addr) (r12n : Nat) (r12c : Nat) (r13a : Option Addr) (r13n : Nat) (r13c : Nat) (r14a : Option Addr) (r14n : Nat) (r14c : Nat) (r15 : Int) (r16a : Option Addr) (r16n : Nat) (r16c : Nat) : VC :=
 .new 36 [.int .u64 r0, .int .i64 r1, .int .i64 r2, .int .i64 r3, .int .u64 r4, .int .u64 r5, .slice r6a r6n r6c, .slice r7a r7n r7c, .int .u64 r8, .int .i64 r9, .int .i64 r10, .slice r11a r11n r11c, .slice r12a r12n r12c, .slice r13a r13n r13c, .slice r14a r14n r14c, .int .u64 r15, .slice r16a r16n r16c] fun p1 =>
 .load ⟨p1, 7, none⟩ 1 fun v2 =>
 .exS fun a3 n3 c3 =>
 .isL v2 [.slice a3 n3 c3] <|
 bif ((↑n3 : Int) == 0) then
  (.draw <|
  .load ⟨p1, 4, none⟩ 1 fun v4 =>
  .exI fun i5 =>
  .isL v4 [.int .u64 i5] <|
  .load ⟨p1, 5, none⟩ 1 fun v6 =>
  .exI fun i7 =>
  .isL v6 [.int .u64 i7] <|
  .ret (.tuple #[.int .u64 i5, .int .u64 i7]))
 else
 (.draw <|
 .load ⟨p1, 4, none⟩ 1 fun v8 =>
 .exI fun i9 =>
 .isL v8 [.int .u64 i9] <|
 .load ⟨p1, 7, none⟩ 1 fun v10 =>
 .exS fun a11 n11 c11 =>
 .isL v10 [.slice a11 n11 c11] <|
 .load ⟨p1, 7, none⟩ 1 fun v12 =>
 .exS fun a13 n13 c13 =>
 .isL v12 [.slice a13 n13 c13] <|
 .load ⟨p1, 7, none⟩ 1 fun v14 =>
 .exS fun a15 n15 c15 =>
 .isL v14 [.slice a15 n15 c15] <|
 .some a13 fun x16 =>
 .need ((0 : Int) ≤ IntKind.i64.wrap ((↑n15 : Int) - 1) ∧ IntKind.i64.wrap ((↑n15 : Int) - 1) < (↑n13 : Int)) <|
 .load (x16.add ((IntKind.i64.wrap ((↑n15 : Int) - 1)).toNat * 2)) 1 fun v17 =>
 .exI fun i18 =>
 .isL v17 [.int .u64 i18] <|
 .ret (.tuple #[.int .u64 (IntKind.u64.wrap (i9 + IntKind.u64.wrap (↑n11 : Int))), .int .u64 i18]))
theorem e26 (r0 : Int) (r1 : Int) (r2 : Int) (r3 : Int) (r4 : Int) (r5 : Int) (r6a : Option Addr) (r6n : Nat) (r6c : Nat) (r7a : Option Addr) (r7n : Nat) (r7c : Nat) (r8 : Int) (r9 : Int) (r10 : Int) (r11a : Option Addr) (r11n : Nat) (r11c : Nat) (r12a : Option Addr) (r12n : Nat) (r12c : Nat) (r13a : Option Addr) (r13n : Nat) (r13c : Nat) (r14a : Option Addr) (r14n : Nat) (r14c : Nat) (r15 : Int) (r16a : Option Addr) (r16n : Nat) (r16c : Nat) : genFn Try.prog noM noM Try.f26 [.agg #[.int .u64 r0, .int .i64 r1, .int .i64 r2, .int .i64 r3, .int .u64 r4, .int .u64 r5, .slice r6a r6n r6c, .slice r7a r7n r7c, .int .u64 r8, .int .i64 r9, .int .i64 r10, .slice r11a r11n r11c, .slice r12a r12n r12c, .slice r13a r13n r13c, .slice r14a r14n r14c, .int .u64 r15, .slice r16a r16n r16c]] = t26 r0 r1 r2 r3 r4 r5 r6a r6n r6c r7a r7n r7c r8 r9 r10 r11a r11n r11c r12a r12n r12c r13a r13n r13c r14a r14n r14c r15 r16a r16n r16c := by kernel_rfl
theorem r26 (r0 : Int) (r1 : Int) (r2 : Int) (r3 : Int) (r4 : Int) (r5 : Int) (r6a : Option Addr) (r6n : Nat) (r6c : Nat) (r7a : Option Addr) (r7n : Nat) (r7c : Nat) (r8 : Int) (r9 : Int) (r10 : Int) (r11a : Option Addr) (r11n : Nat) (r11c : Nat) (r12a : Option Addr) (r12n : Nat) (r12c : Nat) (r13a : Option Addr) (r13n : Nat) (r13c : Nat) (r14a : Option Addr) (r14n : Nat) (r14c : Nat) (r15 : Int) (r16a : Option Addr) (r16n : Nat) (r16c : Nat) {R : Value → World → Prop} {w : World} (h : (t26 r0 r1 r2 r3 r4 r5 r6a r6n r6c r7a r7n r7c r8 r9 r10 r11a r11n r11c r12a r12n r12c r13a r13n r13c r14a r14n r14c r15 r16a r16n r16c).wp Try.prog R (fun _ _ _ => False) w) : Runs Try.prog 26 [.agg #[.int .u64 r0, .int .i64 r1, .int .i64 r2, .int .i64 r3, .int .u64 r4, .int .u64 r5, .slice r6a r6n r6c, .slice r7a r7n r7c, .int .u64 r8, .int .i64 r9, .int .i64 r10, .slice r11a r11n r11c, .slice r12a r12n r12c, .slice r13a r13n r13c, .slice r14a r14n r14c, .int .u64 r15, .slice r16a r16n r16c]] w R :=
 genFn_runs mixed noM noM Try.func26 (by kernel_rfl) (by rw [e26]; exact h)
def t27 (r0 : Int) (r1 : Int) (r2 : Int) (r3 : Int) (r4 : Int) (r5 : Int) (r6a : Option Addr) (r6n : Nat) (r6c : Nat) (r7a : Option Addr) (r7n : Nat) (r7c : Nat) (r8 : Int) (r9 : Int) (r10 : Int) (r11a : Option Addr) (r11n : Nat) (r11c : Nat) (r12a : Option Addr) (r12n : Nat) (r12c : Nat) (r13a : Option Addr) (r13n : Nat) (r13c : Nat) (r14a : Option Addr) (r14n : Nat) (r14c : Nat) (r15 : Int) (r16a : Option Addr) (r16n : Nat) (r16c : Nat) (index : Int) : VC :=
 .new 36 [.int .u64 r0, .int .i64 r1, .int .i64 r2, .int .i64 r3, .int .u64 r4, .int .u64 r5, .slice r6a r6n r6c, .slice r7a r7n r7c, .int .u64 r8, .int .i64 r9, .int .i64 r10, .slice r11a r11n r11c, .slice r12a r12n r12c, .slice r13a r13n r13c, .slice r14a r14n r14c, .int .u64 r15, .slice r16a r16n r16c] fun p1 =>
 .load ⟨p1, 0, none⟩ 17 fun v2 =>
 .exI fun i3 =>
 .exI fun i4 =>
 .exI fun i5 =>
 .exI fun i6 =>
 .exI fun i7 =>
 .exI fun i8 =>
 .exS fun a9 n9 c9 =>
 .exS fun a10 n10 c10 =>
 .exI fun i11 =>
 .exI fun i12 =>
 .exI fun i13 =>
 .exS fun a14 n14 c14 =>
 .exS fun a15 n15 c15 =>
 .exS fun a16 n16 c16 =>
 .exS fun a17 n17 c17 =>
 .exI fun i18 =>
 .exS fun a19 n19 c19 =>
 .isL v2 [.int .u64 i3, .int .i64 i4, .int .i64 i5, .int .i64 i6, .int .u64 i7, .int .u64 i8, .slice a9 n9 c9, .slice a10 n10 c10, .int .u64 i11, .int .i64 i12, .int .i64 i13, .slice a14 n14 c14, .slice a15 n15 c15, .slice a16 n16 c16, .slice a17 n17 c17, .int .u64 i18, .slice a19 n19 c19] <|
 .call 25 ([.agg #[.int .u64 i3, .int .i64 i4, .int .i64 i5, .int .i64 i6, .int .u64 i7, .int .u64 i8, .slice a9 n9 c9, .slice a10 n10 c10, .int .u64 i11, .int .i64 i12, .int .i64 i13, .slice a14 n14 c14, .slice a15 n15 c15, .slice a16 n16 c16, .slice a17 n17 c17, .int .u64 i18, .slice a19 n19 c19]]) fun v20 =>
 .exI fun i21 =>
 .exI fun i22 =>
 .isL [v20] [.tuple #[.int .u64 i21, .int .u64 i22]] <|
 .load ⟨p1, 4, none⟩ 1 fun v23 =>
 .exI fun i24 =>
 .isL v23 [.int .u64 i24] <|
 bif (index == i24) then
  (.load ⟨p1, 5, none⟩ 1 fun v25 =>
  .exI fun i26 =>
  .isL v25 [.int .u64 i26] <|
  .ret (.tuple #[.int .u64 i26, .bool true]))
 else
 (.load ⟨p1, 4, none⟩ 1 fun v27 =>
 .exI fun i28 =>
 .isL v27 [.int .u64 i28] <|
 bif (decide (index < i28)) then
  (.ret (.tuple #[.int .u64 0, .bool false]))
 else
 (bif (decide (index > i21)) then
  (.ret (.tuple #[.int .u64 0, .bool false]))
 else
 (.load ⟨p1, 7, none⟩ 1 fun v29 =>
 .exS fun a30 n30 c30 =>
 .isL v29 [.slice a30 n30 c30] <|
 .load ⟨p1, 4, none⟩ 1 fun v31 =>
 .exI fun i32 =>
 .isL v31 [.int .u64 i32] <|
 .some a30 fun x33 =>
 .need ((0 : Int) ≤ IntKind.u64.wrap (IntKind.u64.wrap (index - i32) - 1) ∧ IntKind.u64.wrap (IntKind.u64.wrap (index - i32) - 1) < (↑n30 : Int)) <|
 .load (x33.add ((IntKind.u64.wrap (IntKind.u64.wrap (index - i32) - 1)).toNat * 2)) 1 fun v34 =>
 .exI fun i35 =>
 .isL v34 [.int .u64 i35] <|
 .ret (.tuple #[.int .u64 i35, .bool true]))))
theorem e27 (r0 : Int) (r1 : Int) (r2 : Int) (r3 : Int) (r4 : Int) (r5 : Int) (r6a : Option Addr) (r6n : Nat) (r6c : Nat) (r7a : Option Addr) (r7n : Nat) (r7c : Nat) (r8 : Int) (r9 : Int) (r10 : Int) (r11a : Option Addr) (r11n : Nat) (r11c : Nat) (r12a : Option Addr) (r12n : Nat) (r12c : Nat) (r13a : Option Addr) (r13n : Nat) (r13c : Nat) (r14a : Option Addr) (r14n : Nat) (r14c : Nat) (r15 : Int) (r16a : Option Addr) (r16n : Nat) (r16c : Nat) (index : Int) : genFn Try.prog noM noM Try.f27 [.agg #[.int .u64 r0, .int .i64 r1, .int .i64 r2, .int .i64 r3, .int .u64 r4, .int .u64 r5, .slice r6a r6n r6c, .slice r7a r7n r7c, .int .u64 r8, .int .i64 r9, .int .i64 r10, .slice r11a r11n r11c, .slice r12a r12n r12c, .slice r13a r13n r13c, .slice r14a r14n r14c, .int .u64 r15, .slice r16a r16n r16c], .int .u64 index] = t27 r0 r1 r2 r3 r4 r5 r6a r6n r6c r7a r7n r7c r8 r9 r10 r11a r11n r11c r12a r12n r12c r13a r13n r13c r14a r14n r14c r15 r16a r16n r16c index := by kernel_rfl
theorem r27 (r0 : Int) (r1 : Int) (r2 : Int) (r3 : Int) (r4 : Int) (r5 : Int) (r6a : Option Addr) (r6n : Nat) (r6c : Nat) (r7a : Option Addr) (r7n : Nat) (r7c : Nat) (r8 : Int) (r9 : Int) (r10 : Int) (r11a : Option Addr) (r11n : Nat) (r11c : Nat) (r12a : Option Addr) (r12n : Nat) (r12c : Nat) (r13a : Option Addr) (r13n : Nat) (r13c : Nat) (r14a : Option Addr) (r14n : Nat) (r14c : Nat) (r15 : Int) (r16a : Option Addr) (r16n : Nat) (r16c : Nat) (index : Int) {R : Value → World → Prop} {w : World} (h : (t27 r0 r1 r2 r3 r4 r5 r6a r6n r6c r7a r7n r7c r8 r9 r10 r11a r11n r11c r12a r12n r12c r13a r13n r13c r14a r14n r14c r15 r16a r16n r16c index).wp Try.prog R (fun _ _ _ => False) w) : Runs Try.prog 27 [.agg #[.int .u64 r0, .int .i64 r1, .int .i64 r2, .int .i64 r3, .int .u64 r4, .int .u64 r5, .slice r6a r6n r6c, .slice r7a r7n r7c, .int .u64 r8, .int .i64 r9, .int .i64 r10, .slice r11a r11n r11c, .slice r12a r12n r12c, .slice r13a r13n r13c, .slice r14a r14n r14c, .int .u64 r15, .slice r16a r16n r16c], .int .u64 index] w R :=
 genFn_runs mixed noM noM Try.func27 (by kernel_rfl) (by rw [e27]; exact h)
def t28 (r0 : Int) (r1 : Int) (r2 : Int) (r3 : Int) (r4 : Int) (r5 : Int) (r6a : Option Addr) (r6n : Nat) (r6c : Nat) (r7a : Option Addr) (r7n : Nat) (r7c : Nat) (r8 : Int) (r9 : Int) (r10 : Int) (r11a : Option Addr) (r11n : Nat) (r11c : Nat) (r12a : Option Addr) (r12n : Nat) (r12c : Nat) (r13a : Option Addr) (r13n : Nat) (r13c : Nat) (r14a : Option Addr) (r14n : Nat) (r14c : Nat) (r15 : Int) (r16a : Option Addr) (r16n : Nat) (r16c : Nat) (index : Int) : VC :=
 .new 36 [.int .u64 r0, .int .i64 r1, .int .i64 r2, .int .i64 r3, .int .u64 r4, .int .u64 r5, .slice r6a r6n r6c, .slice r7a r7n r7c, .int .u64 r8, .int .i64 r9, .int .i64 r10, .slice r11a r11n r11c, .slice r12a r12n r12c, .slice r13a r13n r13c, .slice r14a r14n r14c, .int .u64 r15, .slice r16a r16n r16c] fun p1 =>
 .load ⟨p1, 4, none⟩ 1 fun v2 =>
 .exI fun i3 =>
 .isL v2 [.int .u64 i3] <|
 bif (index == i3) then
  (.load ⟨p1, 5, none⟩ 1 fun v4 =>
  .exI fun i5 =>
  .isL v4 [.int .u64 i5] <|
  .ret (.tuple #[.int .u64 i5, .bool true]))
 else
 (.load ⟨p1, 4, none⟩ 1 fun v6 =>
 .exI fun i7 =>
 .isL v6 [.int .u64 i7] <|
 bif (decide (index < i7)) then
  (.ret (.tuple #[.int .u64 0, .bool false]))
 else
 (.load ⟨p1, 4, none⟩ 1 fun v8 =>
 .exI fun i9 =>
 .isL v8 [.int .u64 i9] <|
 .load ⟨p1, 7, none⟩ 1 fun v10 =>
 .exS fun a11 n11 c11 =>
 .isL v10 [.slice a11 n11 c11] <|
 bif (decide (IntKind.u64.wrap (index - i9) > IntKind.u64.wrap (↑n11 : Int))) then
  (.ret (.tuple #[.int .u64 0, .bool false]))
 else
 (.load ⟨p1, 7, none⟩ 1 fun v12 =>
 .exS fun a13 n13 c13 =>
 .isL v12 [.slice a13 n13 c13] <|
 .load ⟨p1, 4, none⟩ 1 fun v14 =>
 .exI fun i15 =>
 .isL v14 [.int .u64 i15] <|
 .some a13 fun x16 =>
 .need ((0 : Int) ≤ IntKind.u64.wrap (IntKind.u64.wrap (index - i15) - 1) ∧ IntKind.u64.wrap (IntKind.u64.wrap (index - i15) - 1) < (↑n13 : Int)) <|
 .load (x16.add ((IntKind.u64.wrap (IntKind.u64.wrap (index - i15) - 1)).toNat * 2)) 1 fun v17 =>
 .exI fun i18 =>
 .isL v17 [.int .u64 i18] <|
 .ret (.tuple #[.int .u64 i18, .bool true]))))
theorem e28 (r0 : Int) (r1 : Int) (r2 : Int) (r3 : Int) (r4 : Int) (r5 : Int) (r6a : Option Addr) (r6n : Nat) (r6c : Nat) (r7a : Option Addr) (r7n : Nat) (r7c : Nat) (r8 : Int) (r9 : Int) (r10 : Int) (r11a : Option Addr) (r11n : Nat) (r11c : Nat) (r12a : Option Addr) (r12n : Nat) (r12c : Nat) (r13a : Option Addr) (r13n : Nat) (r13c : Nat) (r14a : Option Addr) (r14n : Nat) (r14c : Nat) (r15 : Int) (r16a : Option Addr) (r16n : Nat) (r16c : Nat) (index : Int) : genFn Try.prog noM noM Try.f28 [.agg #[.int .u64 r0, .int .i64 r1, .int .i64 r2, .int .i64 r3, .int .u64 r4, .int .u64 r5, .slice r6a r6n r6c, .slice r7a r7n r7c, .int .u64 r8, .int .i64 r9, .int .i64 r10, .slice r11a r11n r11c, .slice r12a r12n r12c, .slice r13a r13n r13c, .slice r14a r14n r14c, .int .u64 r15, .slice r16a r16n r16c], .int .u64 index] = t28 r0 r1 r2 r3 r4 r5 r6a r6n r6c r7a r7n r7c r8 r9 r10 r11a r11n r11c r12a r12n r12c r13a r13n r13c r14a r14n r14c r15 r16a r16n r16c index := by kernel_rfl
theorem r28 (r0 : Int) (r1 : Int) (r2 : Int) (r3 : Int) (r4 : Int) (r5 : Int) (r6a : Option Addr) (r6n : Nat) (r6c : Nat) (r7a : Option Addr) (r7n : Nat) (r7c : Nat) (r8 : Int) (r9 : Int) (r10 : Int) (r11a : Option Addr) (r11n : Nat) (r11c : Nat) (r12a : Option Addr) (r12n : Nat) (r12c : Nat) (r13a : Option Addr) (r13n : Nat) (r13c : Nat) (r14a : Option Addr) (r14n : Nat) (r14c : Nat) (r15 : Int) (r16a : Option Addr) (r16n : Nat) (r16c : Nat) (index : Int) {R : Value → World → Prop} {w : World} (h : (t28 r0 r1 r2 r3 r4 r5 r6a r6n r6c r7a r7n r7c r8 r9 r10 r11a r11n r11c r12a r12n r12c r13a r13n r13c r14a r14n r14c r15 r16a r16n r16c index).wp Try.prog R (fun _ _ _ => False) w) : Runs Try.prog 28 [.agg #[.int .u64 r0, .int .i64 r1, .int .i64 r2, .int .i64 r3, .int .u64 r4, .int .u64 r5, .slice r6a r6n r6c, .slice r7a r7n r7c, .int .u64 r8, .int .i64 r9, .int .i64 r10, .slice r11a r11n r11c, .slice r12a r12n r12c, .slice r13a r13n r13c, .slice r14a r14n r14c, .int .u64 r15, .slice r16a r16n r16c], .int .u64 index] w R :=
 genFn_runs mixed noM noM Try.func28 (by kernel_rfl) (by rw [e28]; exact h)
def lv29 : Marks := (fun | some 5 => some [(6, .int .i64 0)] | _ => none)
def t29 (a0 : Int) (a1 : Int) (a2 : Int) (a3 : Int) (a4 : Int) (a5 : Int) (a6a : Option Addr) (a6n : Nat) (a6c : Nat) (a7a : Option Addr) (a7n : Nat) (a7c : Nat) (a8 : Int) (a9 : Int) (a10 : Int) (a11a : Option Addr) (a11n : Nat) (a11c : Nat) (a12a : Option Addr) (a12n : Nat) (a12c : Nat) (a13a : Option Addr) (a13n : Nat) (a13c : Nat) (a14a : Option Addr) (a14n : Nat) (a14c : Nat) (a15 : Int) (a16a : Option Addr) (a16n : Nat) (a16c : Nat) (b0 : Int) (b1 : Int) (b2 : Int) (b3 : Int) (b4 : Int) (b5 : Int) (b6a : Option Addr) (b6n : Nat) (b6c : Nat) (b7a : Option Addr) (b7n : Nat) (b7c : Nat) (b8 : Int) (b9 : Int) (b10 : Int) (b11a : Option Addr) (b11n : Nat) (b11c : Nat) (b12a : Option Addr) (b12n : Nat) (b12c : Nat) (b13a : Option Addr) (b13n : Nat) (b13c : Nat) (b14a : Option Addr) (b14n : Nat) (b14c : Nat) (b15 : Int) (b16a : Option Addr) (b16n : Nat) (b16c : Nat) : VC :=
 .new 36 [.int .u64 a0, .int .i64 a1, .int .i64 a2, .int .i64 a3, .int .u64 a4, .int .u64 a5, .slice a6a a6n a6c, .slice a7a a7n a7c, .int .u64 a8, .int .i64 a9, .int .i64 a10, .slice a11a a11n a11c, .slice a12a a12n a12c, .slice a13a a13n a13c, .slice a14a a14n a14c, .int .u64 a15, .slice a16a a16n a16c] fun p1 =>
 .new 36 [.int .u64 b0, .int .i64 b1, .int .i64 b2, .int .i64 b3, .int .u64 b4, .int .u64 b5, .slice b6a b6n b6c, .slice b7a b7n b7c, .int .u64 b8, .int .i64 b9, .int .i64 b10, .slice b11a b11n b11c, .slice b12a b12n b12c, .slice b13a b13n b13c, .slice b14a b14n b14c, .int .u64 b15, .slice b16a b16n b16c] fun p2 =>
 .load ⟨p1, 0, none⟩ 2 fun v3 =>
 .exI fun i4 =>
 .exI fun i5 =>
 .isL v3 [.int .u64 i4, .int .i64 i5] <|
 .load ⟨p2, 0, none⟩ 2 fun v6 =>
 .exI fun i7 =>
 .exI fun i8 =>
 .isL v6 [.int .u64 i7, .int .i64 i8] <|
 bif (i4 == i7 && (i5 == i8 && true)) then
  (.load ⟨p1, 2, none⟩ 1 fun v9 =>
  .exI fun i10 =>
  .isL v9 [.int .i64 i10] <|
  .load ⟨p2, 2, none⟩ 1 fun v11 =>
  .exI fun i12 =>
  .isL v11 [.int .i64 i12] <|
  bif (i10 == i12) then
   (.load ⟨p1, 3, none⟩ 1 fun v13 =>
   .exI fun i14 =>
   .isL v13 [.int .i64 i14] <|
   .load ⟨p2, 3, none⟩ 1 fun v15 =>
   .exI fun i16 =>
   .isL v15 [.int .i64 i16] <|
   bif (i14 == i16) then
    (.load ⟨p1, 4, none⟩ 3 fun v17 =>
    .exI fun i18 =>
    .exI fun i19 =>
    .exS fun a20 n20 c20 =>
    .isL v17 [.int .u64 i18, .int .u64 i19, .slice a20 n20 c20] <|
    .load ⟨p2, 4, none⟩ 3 fun v21 =>
    .exI fun i22 =>
    .exI fun i23 =>
    .exS fun a24 n24 c24 =>
    .isL v21 [.int .u64 i22, .int .u64 i23, .slice a24 n24 c24] <|
    .call 49 ([.agg #[.int .u64 i18, .int .u64 i19, .slice a20 n20 c20], .agg #[.int .u64 i22, .int .u64 i23, .slice a24 n24 c24]]) fun v25 =>
    .exB fun b26 =>
    .isL [v25] [.bool b26] <|
    bif b26 then
     (.load ⟨p1, 7, none⟩ 1 fun v27 =>
     .exS fun a28 n28 c28 =>
     .isL v27 [.slice a28 n28 c28] <|
     .load ⟨p2, 7, none⟩ 1 fun v29 =>
     .exS fun a30 n30 c30 =>
     .isL v29 [.slice a30 n30 c30] <|
     .call 48 ([.slice a28 n28 c28, .slice a30 n30 c30]) fun v31 =>
     .exB fun b32 =>
     .isL [v31] [.bool b32] <|
     bif b32 then
      (.load ⟨p1, 8, none⟩ 1 fun v33 =>
      .exI fun i34 =>
      .isL v33 [.int .u64 i34] <|
      .load ⟨p2, 8, none⟩ 1 fun v35 =>
      .exI fun i36 =>
      .isL v35 [.int .u64 i36] <|
      bif (i34 == i36) then
       (.load ⟨p1, 9, none⟩ 1 fun v37 =>
       .exI fun i38 =>
       .isL v37 [.int .i64 i38] <|
       .load ⟨p2, 9, none⟩ 1 fun v39 =>
       .exI fun i40 =>
       .isL v39 [.int .i64 i40] <|
       bif (i38 == i40) then
        (.load ⟨p1, 10, none⟩ 1 fun v41 =>
        .exI fun i42 =>
        .isL v41 [.int .i64 i42] <|
        .load ⟨p2, 10, none⟩ 1 fun v43 =>
        .exI fun i44 =>
        .isL v43 [.int .i64 i44] <|
        bif (i42 == i44) then
         (.load ⟨p1, 15, none⟩ 1 fun v45 =>
         .exI fun i46 =>
         .isL v45 [.int .u64 i46] <|
         .load ⟨p2, 15, none⟩ 1 fun v47 =>
         .exI fun i48 =>
         .isL v47 [.int .u64 i48] <|
         bif (!i46 == i48) then
          (.ret (.bool false))
         else
         (.load ⟨p1, 11, none⟩ 1 fun v49 =>
         .exS fun a50 n50 c50 =>
         .isL v49 [.slice a50 n50 c50] <|
         .load ⟨p2, 11, none⟩ 1 fun v51 =>
         .exS fun a52 n52 c52 =>
         .isL v51 [.slice a52 n52 c52] <|
         bif ((↑n50 : Int) != (↑n52 : Int)) then
          (.ret (.bool false))
         else
         (.load ⟨p1, 12, none⟩ 1 fun v53 =>
         .exS fun a54 n54 c54 =>
         .isL v53 [.slice a54 n54 c54] <|
         .load ⟨p2, 12, none⟩ 1 fun v55 =>
         .exS fun a56 n56 c56 =>
         .isL v55 [.slice a56 n56 c56] <|
         .call 51 ([.slice a54 n54 c54, .slice a56 n56 c56]) fun v57 =>
         .exB fun b58 =>
         .isL [v57] [.bool b58] <|
         bif !b58 then
          (.ret (.bool false))
         else
         (.load ⟨p1, 13, none⟩ 1 fun v59 =>
         .exS fun a60 n60 c60 =>
         .isL v59 [.slice a60 n60 c60] <|
         .load ⟨p2, 13, none⟩ 1 fun v61 =>
         .exS fun a62 n62 c62 =>
         .isL v61 [.slice a62 n62 c62] <|
         .call 51 ([.slice a60 n60 c60, .slice a62 n62 c62]) fun v63 =>
         .exB fun b64 =>
         .isL [v63] [.bool b64] <|
         bif !b64 then
          (.ret (.bool false))
         else
         (.load ⟨p1, 14, none⟩ 1 fun v65 =>
         .exS fun a66 n66 c66 =>
         .isL v65 [.slice a66 n66 c66] <|
         .load ⟨p2, 14, none⟩ 1 fun v67 =>
         .exS fun a68 n68 c68 =>
         .isL v67 [.slice a68 n68 c68] <|
         .call 51 ([.slice a66 n66 c66, .slice a68 n68 c68]) fun v69 =>
         .exB fun b70 =>
         .isL [v69] [.bool b70] <|
         bif !b70 then
          (.ret (.bool false))
         else
         (.load ⟨p1, 16, none⟩ 1 fun v71 =>
         .exS fun a72 n72 c72 =>
         .isL v71 [.slice a72 n72 c72] <|
         .load ⟨p2, 16, none⟩ 1 fun v73 =>
         .exS fun a74 n74 c74 =>
         .isL v73 [.slice a74 n74 c74] <|
         .call 52 ([.slice a72 n72 c72, .slice a74 n74 c74]) fun v75 =>
         .exB fun b76 =>
         .isL [v75] [.bool b76] <|
         bif !b76 then
          (.ret (.bool false))
         else
         (.loop 0 [.int .i64 0] (fun v77 =>
          .exI fun i78 =>
          .isL v77 [.int .i64 i78] <|
          .load ⟨p1, 11, none⟩ 1 fun v79 =>
          .exS fun a80 n80 c80 =>
          .isL v79 [.slice a80 n80 c80] <|
          bif (decide (i78 < (↑n80 : Int))) then
           (.draw <|
           .load ⟨p1, 11, none⟩ 1 fun v81 =>
           .exS fun a82 n82 c82 =>
           .isL v81 [.slice a82 n82 c82] <|
           .some a82 fun x83 =>
           .need ((0 : Int) ≤ i78 ∧ i78 < (↑n82 : Int)) <|
           .load (x83.add (i78.toNat * 1)) 1 fun v84 =>
           .exB fun b85 =>
           .isL v84 [.bool b85] <|
           .load ⟨p2, 11, none⟩ 1 fun v86 =>
           .exS fun a87 n87 c87 =>
           .isL v86 [.slice a87 n87 c87] <|
           .some a87 fun x88 =>
           .need ((0 : Int) ≤ i78 ∧ i78 < (↑n87 : Int)) <|
           .load (x88.add (i78.toNat * 1)) 1 fun v89 =>
           .exB fun b90 =>
           .isL v89 [.bool b90] <|
           bif (!b85 == b90) then
            (.ret (.bool false))
           else
           (.again 0 [.int .i64 (IntKind.i64.wrap (i78 + 1))]))
          else
          (.ret (.bool true))))))))))
        else
        (.ret (.bool false)))
       else
       (.ret (.bool false)))
      else
      (.ret (.bool false)))
     else
     (.ret (.bool false)))
    else
    (.ret (.bool false)))
   else
   (.ret (.bool false)))
  else
  (.ret (.bool false)))
 else
 (.ret (.bool false))
theorem e29 (a0 : Int) (a1 : Int) (a2 : Int) (a3 : Int) (a4 : Int) (a5 : Int) (a6a : Option Addr) (a6n : Nat) (a6c : Nat) (a7a : Option Addr) (a7n : Nat) (a7c : Nat) (a8 : Int) (a9 : Int) (a10 : Int) (a11a : Option Addr) (a11n : Nat) (a11c : Nat) (a12a : Option Addr) (a12n : Nat) (a12c : Nat) (a13a : Option Addr) (a13n : Nat) (a13c : Nat) (a14a : Option Addr) (a14n : Nat) (a14c : Nat) (a15 : Int) (a16a : Option Addr) (a16n : Nat) (a16c : Nat) (b0 : Int) (b1 : Int) (b2 : Int) (b3 : Int) (b4 : Int) (b5 : Int) (b6a : Option Addr) (b6n : Nat) (b6c : Nat) (b7a : Option Addr) (b7n : Nat) (b7c : Nat) (b8 : Int) (b9 : Int) (b10 : Int) (b11a : Option Addr) (b11n : Nat) (b11c : Nat) (b12a : Option Addr) (b12n : Nat) (b12c : Nat) (b13a : Option Addr) (b13n : Nat) (b13c : Nat) (b14a : Option Addr) (b14n : Nat) (b14c : Nat) (b15 : Int) (b16a : Option Addr) (b16n : Nat) (b16c : Nat) : genFn Try.prog lv29 noM Try.f29 [.agg #[.int .u64 a0, .int .i64 a1, .int .i64 a2, .int .i64 a3, .int .u64 a4, .int .u64 a5, .slice a6a a6n a6c, .slice a7a a7n a7c, .int .u64 a8, .int .i64 a9, .int .i64 a10, .slice a11a a11n a11c, .slice a12a a12n a12c, .slice a13a a13n a13c, .slice a14a a14n a14c, .int .u64 a15, .slice a16a a16n a16c], .agg #[.int .u64 b0, .int .i64 b1, .int .i64 b2, .int .i64 b3, .int .u64 b4, .int .u64 b5, .slice b6a b6n b6c, .slice b7a b7n b7c, .int .u64 b8, .int .i64 b9, .int .i64 b10, .slice b11a b11n b11c, .slice b12a b12n b12c, .slice b13a b13n b13c, .slice b14a b14n b14c, .int .u64 b15, .slice b16a b16n b16c]] = t29 a0 a1 a2 a3 a4 a5 a6a a6n a6c a7a a7n a7c a8 a9 a10 a11a a11n a11c a12a a12n a12c a13a a13n a13c a14a a14n a14c a15 a16a a16n a16c b0 b1 b2 b3 b4 b5 b6a b6n b6c b7a b7n b7c b8 b9 b10 b11a b11n b11c b12a b12n b12c b13a b13n b13c b14a b14n b14c b15 b16a b16n b16c := by kernel_rfl
theorem r29 (a0 : Int) (a1 : Int) (a2 : Int) (a3 : Int) (a4 : Int) (a5 : Int) (a6a : Option Addr) (a6n : Nat) (a6c : Nat) (a7a : Option Addr) (a7n : Nat) (a7c : Nat) (a8 : Int) (a9 : Int) (a10 : Int) (a11a : Option Addr) (a11n : Nat) (a11c : Nat) (a12a : Option Addr) (a12n : Nat) (a12c : Nat) (a13a : Option Addr) (a13n : Nat) (a13c : Nat) (a14a : Option Addr) (a14n : Nat) (a14c : Nat) (a15 : Int) (a16a : Option Addr) (a16n : Nat) (a16c : Nat) (b0 : Int) (b1 : Int) (b2 : Int) (b3 : Int) (b4 : Int) (b5 : Int) (b6a : Option Addr) (b6n : Nat) (b6c : Nat) (b7a : Option Addr) (b7n : Nat) (b7c : Nat) (b8 : Int) (b9 : Int) (b10 : Int) (b11a : Option Addr) (b11n : Nat) (b11c : Nat) (b12a : Option Addr) (b12n : Nat) (b12c : Nat) (b13a : Option Addr) (b13n : Nat) (b13c : Nat) (b14a : Option Addr) (b14n : Nat) (b14c : Nat) (b15 : Int) (b16a : Option Addr) (b16n : Nat) (b16c : Nat) {R : Value → World → Prop} {w : World} (h : (t29 a0 a1 a2 a3 a4 a5 a6a a6n a6c a7a a7n a7c a8 a9 a10 a11a a11n a11c a12a a12n a12c a13a a13n a13c a14a a14n a14c a15 a16a a16n a16c b0 b1 b2 b3 b4 b5 b6a b6n b6c b7a b7n b7c b8 b9 b10 b11a b11n b11c b12a b12n b12c b13a b13n b13c b14a b14n b14c b15 b16a b16n b16c).wp Try.prog R (fun _ _ _ => False) w) : Runs Try.prog 29 [.agg #[.int .u64 a0, .int .i64 a1, .int .i64 a2, .int .i64 a3, .int .u64 a4, .int .u64 a5, .slice a6a a6n a6c, .slice a7a a7n a7c, .int .u64 a8, .int .i64 a9, .int .i64 a10, .slice a11a a11n a11c, .slice a12a a12n a12c, .slice a13a a13n a13c, .slice a14a a14n a14c, .int .u64 a15, .slice a16a a16n a16c], .agg #[.int .u64 b0, .int .i64 b1, .int .i64 b2, .int .i64 b3, .int .u64 b4, .int .u64 b5, .slice b6a b6n b6c, .slice b7a b7n b7c, .int .u64 b8, .int .i64 b9, .int .i64 b10, .slice b11a b11n b11c, .slice b12a b12n b12c, .slice b13a b13n b13c, .slice b14a b14n b14c, .int .u64 b15, .slice b16a b16n b16c]] w R :=
 genFn_runs mixed lv29 noM Try.func29 (by kernel_rfl) (by rw [e29]; exact h)
def t50 (r0 : Int) (r1 : Int) (r2 : Int) (r3 : Int) (r4 : Int) (r5 : Int) (r6a : Option Addr) (r6n : Nat) (r6c : Nat) (r7a : Option Addr) (r7n : Nat) (r7c : Nat) (r8 : Int) (r9 : Int) (r10 : Int) (r11a : Option Addr) (r11n : Nat) (r11c : Nat) (r12a : Option Addr) (r12n : Nat) (r12c : Nat) (r13a : Option Addr) (r13n : Nat) (r13c : Nat) (r14a : Option Addr) (r14n : Nat) (r14c : Nat) (r15 : Int) (r16a : Option Addr) (r16n : Nat) (r16c : Nat) : VC :=
 .new 36 [.int .u64 r0, .int .i64 r1, .int .i64 r2, .int .i64 r3, .int .u64 r4, .int .u64 r5, .slice r6a r6n r6c, .slice r7a r7n r7c, .int .u64 r8, .int .i64 r9, .int .i64 r10, .slice r11a r11n r11c, .slice r12a r12n r12c, .slice r13a r13n r13c, .slice r14a r14n r14c, .int .u64 r15, .slice r16a r16n r16c] fun p1 =>
 .new 36 [.int .u64 0, .int .i64 0, .int .i64 0, .int .i64 0, .int .u64 0, .int .u64 0, .slice none 0 0, .slice none 0 0, .int .u64 0, .int .i64 0, .int .i64 0, .slice none 0 0, .slice none 0 0, .slice none 0 0, .slice none 0 0, .int .u64 0, .slice none 0 0] fun p2 =>
 .draw <|
 .load ⟨p1, 4, none⟩ 3 fun v3 =>
 .exI fun i4 =>
 .exI fun i5 =>
 .exS fun a6 n6 c6 =>
 .isL v3 [.int .u64 i4, .int .u64 i5, .slice a6 n6 c6] <|
 .load ⟨p1, 7, none⟩ 1 fun v7 =>
 .exS fun a8 n8 c8 =>
 .isL v7 [.slice a8 n8 c8] <|
 .call 57 ([.agg #[.int .u64 i4, .int .u64 i5, .slice a6 n6 c6]]) fun v9 =>
 .exI fun i10 =>
 .exI fun i11 =>
 .exS fun a12 n12 c12 =>
 .isL [v9] [.agg #[.int .u64 i10, .int .u64 i11, .slice a12 n12 c12]] <|
 .hold [(⟨p1, 7, none⟩, [.slice a8 n8 c8])] <|
 .call 94 ([.slice a8 n8 c8]) fun v13 =>
 .exS fun a14 n14 c14 =>
 .isL [v13] [.slice a14 n14 c14] <|
 .store ⟨p1, 4, none⟩ [.int .u64 i10, .int .u64 i11, .slice a12 n12 c12] <|
 .store ⟨p1, 7, none⟩ [.slice a14 n14 c14] <|
 .draw <|
 .load ⟨p1, 11, none⟩ 1 fun v15 =>
 .exS fun a16 n16 c16 =>
 .isL v15 [.slice a16 n16 c16] <|
 .load ⟨p1, 12, none⟩ 1 fun v17 =>
 .exS fun a18 n18 c18 =>
 .isL v17 [.slice a18 n18 c18] <|
 .load ⟨p1, 13, none⟩ 1 fun v19 =>
 .exS fun a20 n20 c20 =>
 .isL v19 [.slice a20 n20 c20] <|
 .load ⟨p1, 14, none⟩ 1 fun v21 =>
 .exS fun a22 n22 c22 =>
 .isL v21 [.slice a22 n22 c22] <|
 .load ⟨p1, 16, none⟩ 1 fun v23 =>
 .exS fun a24 n24 c24 =>
 .isL v23 [.slice a24 n24 c24] <|
 .call 95 ([.slice a16 n16 c16]) fun v25 =>
 .exS fun a26 n26 c26 =>
 .isL [v25] [.slice a26 n26 c26] <|
 .hold [(⟨p1, 16, none⟩, [.slice a24 n24 c24]), (⟨p1, 14, none⟩, [.slice a22 n22 c22]), (⟨p1, 13, none⟩, [.slice a20 n20 c20]), (⟨p1, 12, none⟩, [.slice a18 n18 c18])] <|
 .call 96 ([.slice a18 n18 c18]) fun v27 =>
 .exS fun a28 n28 c28 =>
 .isL [v27] [.slice a28 n28 c28] <|
 .hold [(⟨p1, 16, none⟩, [.slice a24 n24 c24]), (⟨p1, 14, none⟩, [.slice a22 n22 c22]), (⟨p1, 13, none⟩, [.slice a20 n20 c20])] <|
 .call 96 ([.slice a20 n20 c20]) fun v29 =>
 .exS fun a30 n30 c30 =>
 .isL [v29] [.slice a30 n30 c30] <|
 .hold [(⟨p1, 16, none⟩, [.slice a24 n24 c24]), (⟨p1, 14, none⟩, [.slice a22 n22 c22])] <|
 .call 96 ([.slice a22 n22 c22]) fun v31 =>
 .exS fun a32 n32 c32 =>
 .isL [v31] [.slice a32 n32 c32] <|
 .hold [(⟨p1, 16, none⟩, [.slice a24 n24 c24])] <|
 .call 97 ([.slice a24 n24 c24]) fun v33 =>
 .exS fun a34 n34 c34 =>
 .isL [v33] [.slice a34 n34 c34] <|
 .store ⟨p1, 11, none⟩ [.slice a26 n26 c26] <|
 .store ⟨p1, 12, none⟩ [.slice a28 n28 c28] <|
 .store ⟨p1, 13, none⟩ [.slice a30 n30 c30] <|
 .store ⟨p1, 14, none⟩ [.slice a32 n32 c32] <|
 .store ⟨p1, 16, none⟩ [.slice a34 n34 c34] <|
 .load ⟨p1, 0, none⟩ 17 fun v35 =>
 .exI fun i36 =>
 .exI fun i37 =>
 .exI fun i38 =>
 .exI fun i39 =>
 .exI fun i40 =>
 .exI fun i41 =>
 .exS fun a42 n42 c42 =>
 .exS fun a43 n43 c43 =>
 .exI fun i44 =>
 .exI fun i45 =>
 .exI fun i46 =>
 .exS fun a47 n47 c47 =>
 .exS fun a48 n48 c48 =>
 .exS fun a49 n49 c49 =>
 .exS fun a50 n50 c50 =>
 .exI fun i51 =>
 .exS fun a52 n52 c52 =>
 .isL v35 [.int .u64 i36, .int .i64 i37, .int .i64 i38, .int .i64 i39, .int .u64 i40, .int .u64 i41, .slice a42 n42 c42, .slice a43 n43 c43, .int .u64 i44, .int .i64 i45, .int .i64 i46, .slice a47 n47 c47, .slice a48 n48 c48, .slice a49 n49 c49, .slice a50 n50 c50, .int .u64 i51, .slice a52 n52 c52] <|
 .store ⟨p2, 0, none⟩ [.int .u64 i36, .int .i64 i37, .int .i64 i38, .int .i64 i39, .int .u64 i40, .int .u64 i41, .slice a42 n42 c42, .slice a43 n43 c43, .int .u64 i44, .int .i64 i45, .int .i64 i46, .slice a47 n47 c47, .slice a48 n48 c48, .slice a49 n49 c49, .slice a50 n50 c50, .int .u64 i51, .slice a52 n52 c52] <|
 .load ⟨p2, 0, none⟩ 17 fun v53 =>
 .exI fun i54 =>
 .exI fun i55 =>
 .exI fun i56 =>
 .exI fun i57 =>
 .exI fun i58 =>
 .exI fun i59 =>
 .exS fun a60 n60 c60 =>
 .exS fun a61 n61 c61 =>
 .exI fun i62 =>
 .exI fun i63 =>
 .exI fun i64 =>
 .exS fun a65 n65 c65 =>
 .exS fun a66 n66 c66 =>
 .exS fun a67 n67 c67 =>
 .exS fun a68 n68 c68 =>
 .exI fun i69 =>
 .exS fun a70 n70 c70 =>
 .isL v53 [.int .u64 i54, .int .i64 i55, .int .i64 i56, .int .i64 i57, .int .u64 i58, .int .u64 i59, .slice a60 n60 c60, .slice a61 n61 c61, .int .u64 i62, .int .i64 i63, .int .i64 i64, .slice a65 n65 c65, .slice a66 n66 c66, .slice a67 n67 c67, .slice a68 n68 c68, .int .u64 i69, .slice a70 n70 c70] <|
 .ret (.agg #[.int .u64 i54, .int .i64 i55, .int .i64 i56, .int .i64 i57, .int .u64 i58, .int .u64 i59, .slice a60 n60 c60, .slice a61 n61 c61, .int .u64 i62, .int .i64 i63, .int .i64 i64, .slice a65 n65 c65, .slice a66 n66 c66, .slice a67 n67 c67, .slice a68 n68 c68, .int .u64 i69, .slice a70 n70 c70])
theorem e50 (r0 : Int) (r1 : Int) (r2 : Int) (r3 : Int) (r4 : Int) (r5 : Int) (r6a : Option Addr) (r6n : Nat) (r6c : Nat) (r7a : Option Addr) (r7n : Nat) (r7c : Nat) (r8 : Int) (r9 : Int) (r10 : Int) (r11a : Option Addr) (r11n : Nat) (r11c : Nat) (r12a : Option Addr) (r12n : Nat) (r12c : Nat) (r13a : Option Addr) (r13n : Nat) (r13c : Nat) (r14a : Option Addr) (r14n : Nat) (r14c : Nat) (r15 : Int) (r16a : Option Addr) (r16n : Nat) (r16c : Nat) : genFn Try.prog noM noM Try.f50 [.agg #[.int .u64 r0, .int .i64 r1, .int .i64 r2, .int .i64 r3, .int .u64 r4, .int .u64 r5, .slice r6a r6n r6c, .slice r7a r7n r7c, .int .u64 r8, .int .i64 r9, .int .i64 r10, .slice r11a r11n r11c, .slice r12a r12n r12c, .slice r13a r13n r13c, .slice r14a r14n r14c, .int .u64 r15, .slice r16a r16n r16c]] = t50 r0 r1 r2 r3 r4 r5 r6a r6n r6c r7a r7n r7c r8 r9 r10 r11a r11n r11c r12a r12n r12c r13a r13n r13c r14a r14n r14c r15 r16a r16n r16c := by kernel_rfl
theorem r50 (r0 : Int) (r1 : Int) (r2 : Int) (r3 : Int) (r4 : Int) (r5 : Int) (r6a : Option Addr) (r6n : Nat) (r6c : Nat) (r7a : Option Addr) (r7n : Nat) (r7c : Nat) (r8 : Int) (r9 : Int) (r10 : Int) (r11a : Option Addr) (r11n : Nat) (r11c : Nat) (r12a : Option Addr) (r12n : Nat) (r12c : Nat) (r13a : Option Addr) (r13n : Nat) (r13c : Nat) (r14a : Option Addr) (r14n : Nat) (r14c : Nat) (r15 : Int) (r16a : Option Addr) (r16n : Nat) (r16c : Nat) {R : Value → World → Prop} {w : World} (h : (t50 r0 r1 r2 r3 r4 r5 r6a r6n r6c r7a r7n r7c r8 r9 r10 r11a r11n r11c r12a r12n r12c r13a r13n r13c r14a r14n r14c r15 r16a r16n r16c).wp Try.prog R (fun _ _ _ => False) w) : Runs Try.prog 50 [.agg #[.int .u64 r0, .int .i64 r1, .int .i64 r2, .int .i64 r3, .int .u64 r4, .int .u64 r5, .slice r6a r6n r6c, .slice r7a r7n r7c, .int .u64 r8, .int .i64 r9, .int .i64 r10, .slice r11a r11n r11c, .slice r12a r12n r12c, .slice r13a r13n r13c, .slice r14a r14n r14c, .int .u64 r15, .slice r16a r16n r16c]] w R :=
 genFn_runs mixed noM noM Try.func50 (by kernel_rfl) (by rw [e50]; exact h)
def lv51 : Marks := (fun | some 4 => some [(5, .int .i64 0)] | _ => none)
def t51 (aa : Option Addr) (an : Nat) (ac : Nat) (ba : Option Addr) (bn : Nat) (bc : Nat) : VC :=
 bif ((↑an : Int) != (↑bn : Int)) then
  (.ret (.bool false))
 else
 (.loop 0 [.int .i64 0] (fun v1 =>
  .exI fun i2 =>
  .isL v1 [.int .i64 i2] <|
  bif (decide (i2 < (↑an : Int))) then
   (.draw <|
   .some aa fun x3 =>
   .need ((0 : Int) ≤ i2 ∧ i2 < (↑an : Int)) <|
   .load (x3.add (i2.toNat * 1)) 1 fun v4 =>
   .exI fun i5 =>
   .isL v4 [.int .u64 i5] <|
   .some ba fun x6 =>
   .need ((0 : Int) ≤ i2 ∧ i2 < (↑bn : Int)) <|
   .load (x6.add (i2.toNat * 1)) 1 fun v7 =>
   .exI fun i8 =>
   .isL v7 [.int .u64 i8] <|
   bif (i5 != i8) then
    (.ret (.bool false))
   else
   (.again 0 [.int .i64 (IntKind.i64.wrap (i2 + 1))]))
  else
  (.ret (.bool true))))
theorem e51 (aa : Option Addr) (an : Nat) (ac : Nat) (ba : Option Addr) (bn : Nat) (bc : Nat) : genFn Try.prog lv51 noM Try.f51 [.slice aa an ac, .slice ba bn bc] = t51 aa an ac ba bn bc := by kernel_rfl
theorem r51 (aa : Option Addr) (an : Nat) (ac : Nat) (ba : Option Addr) (bn : Nat) (bc : Nat) {R : Value → World → Prop} {w : World} (h : (t51 aa an ac ba bn bc).wp Try.prog R (fun _ _ _ => False) w) : Runs Try.prog 51 [.slice aa an ac, .slice ba bn bc] w R :=
 genFn_runs mixed lv51 noM Try.func51 (by kernel_rfl) (by rw [e51]; exact h)
def lv52 : Marks := (fun | some 4 => some [(5, .int .i64 0)] | _ => none)
def t52 (aa : Option Addr) (an : Nat) (ac : Nat) (ba : Option Addr) (bn : Nat) (bc : Nat) : VC :=
 bif ((↑an : Int) != (↑bn : Int)) then
  (.ret (.bool false))
 else
 (.loop 0 [.int .i64 0] (fun v1 =>
  .exI fun i2 =>
  .isL v1 [.int .i64 i2] <|
  bif (decide (i2 < (↑an : Int))) then
   (.draw <|
   .some aa fun x3 =>
   .need ((0 : Int) ≤ i2 ∧ i2 < (↑an : Int)) <|
   .load (x3.add (i2.toNat * 3)) 3 fun v4 =>
   .exI fun i5 =>
   .exI fun i6 =>
   .exI fun i7 =>
   .isL v4 [.int .u64 i5, .int .u64 i6, .int .u64 i7] <|
   .some ba fun x8 =>
   .need ((0 : Int) ≤ i2 ∧ i2 < (↑bn : Int)) <|
   .load (x8.add (i2.toNat * 3)) 3 fun v9 =>
   .exI fun i10 =>
   .exI fun i11 =>
   .exI fun i12 =>
   .isL v9 [.int .u64 i10, .int .u64 i11, .int .u64 i12] <|
   bif (!(i5 == i10 && (i6 == i11 && (i7 == i12 && true)))) then
    (.ret (.bool false))
   else
   (.again 0 [.int .i64 (IntKind.i64.wrap (i2 + 1))]))
  else
  (.ret (.bool true))))
theorem e52 (aa : Option Addr) (an : Nat) (ac : Nat) (ba : Option Addr) (bn : Nat) (bc : Nat) : genFn Try.prog lv52 noM Try.f52 [.slice aa an ac, .slice ba bn bc] = t52 aa an ac ba bn bc := by kernel_rfl
theorem r52 (aa : Option Addr) (an : Nat) (ac : Nat) (ba : Option Addr) (bn : Nat) (bc : Nat) {R : Value → World → Prop} {w : World} (h : (t52 aa an ac ba bn bc).wp Try.prog R (fun _ _ _ => False) w) : Runs Try.prog 52 [.slice aa an ac, .slice ba bn bc] w R :=
 genFn_runs mixed lv52 noM Try.func52 (by kernel_rfl) (by rw [e52]; exact h)
def t53 (r0 : Int) (r1 : Int) (r2 : Int) (r3 : Int) (r4 : Int) (r5 : Int) (r6a : Option Addr) (r6n : Nat) (r6c : Nat) (r7a : Option Addr) (r7n : Nat) (r7c : Nat) (r8 : Int) (r9 : Int) (r10 : Int) (r11a : Option Addr) (r11n : Nat) (r11c : Nat) (r12a : Option Addr) (r12n : Nat) (r12c : Nat) (r13a : Option Addr) (r13n : Nat) (r13c : Nat) (r14a : Option Addr) (r14n : Nat) (r14c : Nat) (r15 : Int) (r16a : Option Addr) (r16n : Nat) (r16c : Nat) : VC :=
 .new 36 [.int .u64 r0, .int .i64 r1, .int .i64 r2, .int .i64 r3, .int .u64 r4, .int .u64 r5, .slice r6a r6n r6c, .slice r7a r7n r7c, .int .u64 r8, .int .i64 r9, .int .i64 r10, .slice r11a r11n r11c, .slice r12a r12n r12c, .slice r13a r13n r13c, .slice r14a r14n r14c, .int .u64 r15, .slice r16a r16n r16c] fun p1 =>
 .load ⟨p1, 0, none⟩ 17 fun v2 =>
 .exI fun i3 =>
 .exI fun i4 =>
 .exI fun i5 =>
 .exI fun i6 =>
 .exI fun i7 =>
 .exI fun i8 =>
 .exS fun a9 n9 c9 =>
 .exS fun a10 n10 c10 =>
 .exI fun i11 =>
 .exI fun i12 =>
 .exI fun i13 =>
 .exS fun a14 n14 c14 =>
 .exS fun a15 n15 c15 =>
 .exS fun a16 n16 c16 =>
 .exS fun a17 n17 c17 =>
 .exI fun i18 =>
 .exS fun a19 n19 c19 =>
 .isL v2 [.int .u64 i3, .int .i64 i4, .int .i64 i5, .int .i64 i6, .int .u64 i7, .int .u64 i8, .slice a9 n9 c9, .slice a10 n10 c10, .int .u64 i11, .int .i64 i12, .int .i64 i13, .slice a14 n14 c14, .slice a15 n15 c15, .slice a16 n16 c16, .slice a17 n17 c17, .int .u64 i18, .slice a19 n19 c19] <|
 .call 50 ([.agg #[.int .u64 i3, .int .i64 i4, .int .i64 i5, .int .i64 i6, .int .u64 i7, .int .u64 i8, .slice a9 n9 c9, .slice a10 n10 c10, .int .u64 i11, .int .i64 i12, .int .i64 i13, .slice a14 n14 c14, .slice a15 n15 c15, .slice a16 n16 c16, .slice a17 n17 c17, .int .u64 i18, .slice a19 n19 c19]]) fun v20 =>
 .exI fun i21 =>
 .exI fun i22 =>
 .exI fun i23 =>
 .exI fun i24 =>
 .exI fun i25 =>
 .exI fun i26 =>
 .exS fun a27 n27 c27 =>
 .exS fun a28 n28 c28 =>
 .exI fun i29 =>
 .exI fun i30 =>
 .exI fun i31 =>
 .exS fun a32 n32 c32 =>
 .exS fun a33 n33 c33 =>
 .exS fun a34 n34 c34 =>
 .exS fun a35 n35 c35 =>
 .exI fun i36 =>
 .exS fun a37 n37 c37 =>
 .isL [v20] [.agg #[.int .u64 i21, .int .i64 i22, .int .i64 i23, .int .i64 i24, .int .u64 i25, .int .u64 i26, .slice a27 n27 c27, .slice a28 n28 c28, .int .u64 i29, .int .i64 i30, .int .i64 i31, .slice a32 n32 c32, .slice a33 n33 c33, .slice a34 n34 c34, .slice a35 n35 c35, .int .u64 i36, .slice a37 n37 c37]] <|
 .new 88 [.int .u64 i21, .int .i64 i22, .int .i64 i23, .int .i64 i24, .int .u64 i25, .int .u64 i26, .slice a27 n27 c27, .slice a28 n28 c28, .int .u64 i29, .int .i64 i30, .int .i64 i31, .slice a32 n32 c32, .slice a33 n33 c33, .slice a34 n34 c34, .slice a35 n35 c35, .int .u64 i36, .slice a37 n37 c37, .slice none 0 0, .slice none 0 0, .slice none 0 0] fun p38 =>
 .ret (.pointer (some ⟨p38, 0, none⟩))
theorem e53 (r0 : Int) (r1 : Int) (r2 : Int) (r3 : Int) (r4 : Int) (r5 : Int) (r6a : Option Addr) (r6n : Nat) (r6c : Nat) (r7a : Option Addr) (r7n : Nat) (r7c : Nat) (r8 : Int) (r9 : Int) (r10 : Int) (r11a : Option Addr) (r11n : Nat) (r11c : Nat) (r12a : Option Addr) (r12n : Nat) (r12c : Nat) (r13a : Option Addr) (r13n : Nat) (r13c : Nat) (r14a : Option Addr) (r14n : Nat) (r14c : Nat) (r15 : Int) (r16a : Option Addr) (r16n : Nat) (r16c : Nat) : genFn Try.prog noM noM Try.f53 [.agg #[.int .u64 r0, .int .i64 r1, .int .i64 r2, .int .i64 r3, .int .u64 r4, .int .u64 r5, .slice r6a r6n r6c, .slice r7a r7n r7c, .int .u64 r8, .int .i64 r9, .int .i64 r10, .slice r11a r11n r11c, .slice r12a r12n r12c, .slice r13a r13n r13c, .slice r14a r14n r14c, .int .u64 r15, .slice r16a r16n r16c]] = t53 r0 r1 r2 r3 r4 r5 r6a r6n r6c r7a r7n r7c r8 r9 r10 r11a r11n r11c r12a r12n r12c r13a r13n r13c r14a r14n r14c r15 r16a r16n r16c := by kernel_rfl
theorem r53 (r0 : Int) (r1 : Int) (r2 : Int) (r3 : Int) (r4 : Int) (r5 : Int) (r6a : Option Addr) (r6n : Nat) (r6c : Nat) (r7a : Option Addr) (r7n : Nat) (r7c : Nat) (r8 : Int) (r9 : Int) (r10 : Int) (r11a : Option Addr) (r11n : Nat) (r11c : Nat) (r12a : Option Addr) (r12n : Nat) (r12c : Nat) (r13a : Option Addr) (r13n : Nat) (r13c : Nat) (r14a : Option Addr) (r14n : Nat) (r14c : Nat) (r15 : Int) (r16a : Option Addr) (r16n : Nat) (r16c : Nat) {R : Value → World → Prop} {w : World} (h : (t53 r0 r1 r2 r3 r4 r5 r6a r6n r6c r7a r7n r7c r8 r9 r10 r11a r11n r11c r12a r12n r12c r13a r13n r13c r14a r14n r14c r15 r16a r16n r16c).wp Try.prog R (fun _ _ _ => False) w) : Runs Try.prog 53 [.agg #[.int .u64 r0, .int .i64 r1, .int .i64 r2, .int .i64 r3, .int .u64 r4, .int .u64 r5, .slice r6a r6n r6c, .slice r7a r7n r7c, .int .u64 r8, .int .i64 r9, .int .i64 r10, .slice r11a r11n r11c, .slice r12a r12n r12c, .slice r13a r13n r13c, .slice r14a r14n r14c, .int .u64 r15, .slice r16a r16n r16c]] w R :=
 genFn_runs mixed noM noM Try.func53 (by kernel_rfl) (by rw [e53]; exact h)
def t54 (sa : Option Addr) (sn : Nat) (sc : Nat) : VC :=
 bif sa.isNone then
  (.ret (.slice none 0 0))
 else
 (.new 5 [] fun p1 =>
 .append 5 1 1 [.int .u8 0] (some ⟨p1, 0, none⟩) 0 0 sa sn fun a2 n2 c2 =>
 .ret (.slice a2 n2 c2))
theorem e54 (sa : Option Addr) (sn : Nat) (sc : Nat) : genFn Try.prog noM noM Try.f54 [.slice sa sn sc] = t54 sa sn sc := by kernel_rfl
theorem r54 (sa : Option Addr) (sn : Nat) (sc : Nat) {R : Value → World → Prop} {w : World} (h : (t54 sa sn sc).wp Try.prog R (fun _ _ _ => False) w) : Runs Try.prog 54 [.slice sa sn sc] w R :=
 genFn_runs mixed noM noM Try.func54 (by kernel_rfl) (by rw [e54]; exact h)
def t55 (s : Nat) (x0 : Int) (x1 : Int) (x2a : Option Addr) (x2n : Nat) (x2c : Nat) : VC :=
 .new 27 [.int .u64 x0, .int .u64 x1, .slice x2a x2n x2c] fun p1 =>
 .draw <|
 .load ⟨s, 0, none⟩ 17 fun v2 =>
 .exI fun i3 =>
 .exI fun i4 =>
 .exI fun i5 =>
 .exI fun i6 =>
 .exI fun i7 =>
 .exI fun i8 =>
 .exS fun a9 n9 c9 =>
 .exS fun a10 n10 c10 =>
 .exI fun i11 =>
 .exI fun i12 =>
 .exI fun i13 =>
 .exS fun a14 n14 c14 =>
 .exS fun a15 n15 c15 =>
 .exS fun a16 n16 c16 =>
 .exS fun a17 n17 c17 =>
 .exI fun i18 =>
 .exS fun a19 n19 c19 =>
 .isL v2 [.int .u64 i3, .int .i64 i4, .int .i64 i5, .int .i64 i6, .int .u64 i7, .int .u64 i8, .slice a9 n9 c9, .slice a10 n10 c10, .int .u64 i11, .int .i64 i12, .int .i64 i13, .slice a14 n14 c14, .slice a15 n15 c15, .slice a16 n16 c16, .slice a17 n17 c17, .int .u64 i18, .slice a19 n19 c19] <|
 .load ⟨p1, 0, none⟩ 1 fun v20 =>
 .exI fun i21 =>
 .isL v20 [.int .u64 i21] <|
 .call 27 ([.agg #[.int .u64 i3, .int .i64 i4, .int .i64 i5, .int .i64 i6, .int .u64 i7, .int .u64 i8, .slice a9 n9 c9, .slice a10 n10 c10, .int .u64 i11, .int .i64 i12, .int .i64 i13, .slice a14 n14 c14, .slice a15 n15 c15, .slice a16 n16 c16, .slice a17 n17 c17, .int .u64 i18, .slice a19 n19 c19], .int .u64 i21]) fun v22 =>
 .exI fun i23 =>
 .exB fun b24 =>
 .isL [v22] [.tuple #[.int .u64 i23, .bool b24]] <|
 bif b24 then
  (.load ⟨p1, 1, none⟩ 1 fun v25 =>
  .exI fun i26 =>
  .isL v25 [.int .u64 i26] <|
  bif (i23 == i26) then
   (.draw <|
   .load ⟨s, 7, none⟩ 1 fun v27 =>
   .exS fun a28 n28 c28 =>
   .isL v27 [.slice a28 n28 c28] <|
   .load ⟨p1, 0, none⟩ 1 fun v29 =>
   .exI fun i30 =>
   .isL v29 [.int .u64 i30] <|
   .load ⟨s, 4, none⟩ 1 fun v31 =>
   .exI fun i32 =>
   .isL v31 [.int .u64 i32] <|
   .need ((0 : Int) ≤ IntKind.u64.wrap (i30 - i32) ∧ IntKind.u64.wrap (i30 - i32) ≤ (↑n28 : Int)) <|
   .call 94 ([.slice (if c28 = (IntKind.u64.wrap (i30 - i32)).toNat then a28 else Option.map (fun x => x.add ((IntKind.u64.wrap (i30 - i32)).toNat * 2)) a28) (n28 - (IntKind.u64.wrap (i30 - i32)).toNat) (c28 - (IntKind.u64.wrap (i30 - i32)).toNat)]) fun v33 =>
   .exS fun a34 n34 c34 =>
   .isL [v33] [.slice a34 n34 c34] <|
   .store ⟨s, 7, none⟩ [.slice a34 n34 c34] <|
   .load ⟨p1, 0, none⟩ 3 fun v35 =>
   .exI fun i36 =>
   .exI fun i37 =>
   .exS fun a38 n38 c38 =>
   .isL v35 [.int .u64 i36, .int .u64 i37, .slice a38 n38 c38] <|
   .call 57 ([.agg #[.int .u64 i36, .int .u64 i37, .slice a38 n38 c38]]) fun v39 =>
   .exI fun i40 =>
   .exI fun i41 =>
   .exS fun a42 n42 c42 =>
   .isL [v39] [.agg #[.int .u64 i40, .int .u64 i41, .slice a42 n42 c42]] <|
   .store ⟨s, 4, none⟩ [.int .u64 i40, .int .u64 i41, .slice a42 n42 c42] <|
   .ret (.tuple #[]))
  else
  (.store ⟨s, 7, none⟩ [.slice none 0 0] <|
  .load ⟨p1, 0, none⟩ 3 fun v43 =>
  .exI fun i44 =>
  .exI fun i45 =>
  .exS fun a46 n46 c46 =>
  .isL v43 [.int .u64 i44, .int .u64 i45, .slice a46 n46 c46] <|
  .call 57 ([.agg #[.int .u64 i44, .int .u64 i45, .slice a46 n46 c46]]) fun v47 =>
  .exI fun i48 =>
  .exI fun i49 =>
  .exS fun a50 n50 c50 =>
  .isL [v47] [.agg #[.int .u64 i48, .int .u64 i49, .slice a50 n50 c50]] <|
  .store ⟨s, 4, none⟩ [.int .u64 i48, .int .u64 i49, .slice a50 n50 c50] <|
  .ret (.tuple #[])))
 else
 (.store ⟨s, 7, none⟩ [.slice none 0 0] <|
 .load ⟨p1, 0, none⟩ 3 fun v51 =>
 .exI fun i52 =>
 .exI fun i53 =>
 .exS fun a54 n54 c54 =>
 .isL v51 [.int .u64 i52, .int .u64 i53, .slice a54 n54 c54] <|
 .call 57 ([.agg #[.int .u64 i52, .int .u64 i53, .slice a54 n54 c54]]) fun v55 =>
 .exI fun i56 =>
 .exI fun i57 =>
 .exS fun a58 n58 c58 =>
 .isL [v55] [.agg #[.int .u64 i56, .int .u64 i57, .slice a58 n58 c58]] <|
 .store ⟨s, 4, none⟩ [.int .u64 i56, .int .u64 i57, .slice a58 n58 c58] <|
 .ret (.tuple #[]))
theorem e55 (s : Nat) (x0 : Int) (x1 : Int) (x2a : Option Addr) (x2n : Nat) (x2c : Nat) : genFn Try.prog noM noM Try.f55 [.pointer (some ⟨s, 0, none⟩), .agg #[.int .u64 x0, .int .u64 x1, .slice x2a x2n x2c]] = t55 s x0 x1 x2a x2n x2c := by kernel_rfl
theorem r55 (s : Nat) (x0 : Int) (x1 : Int) (x2a : Option Addr) (x2n : Nat) (x2c : Nat) {R : Value → World → Prop} {w : World} (h : (t55 s x0 x1 x2a x2n x2c).wp Try.prog R (fun _ _ _ => False) w) : Runs Try.prog 55 [.pointer (some ⟨s, 0, none⟩), .agg #[.int .u64 x0, .int .u64 x1, .slice x2a x2n x2c]] w R :=
 genFn_runs mixed noM noM Try.func55 (by kernel_rfl) (by rw [e55]; exact h)
def t56 (s : Nat) (la : Option Addr) (ln : Nat) (lc : Nat) : VC :=
 .load ⟨s, 17, none⟩ 1 fun v1 =>
 .exS fun a2 n2 c2 =>
 .isL v1 [.slice a2 n2 c2] <|
 .append 59 9 104 [.int .i64 0, .int .u64 0, .int .i64 0, .int .u64 0, .slice none 0 0, .int .u64 0, .int .u64 0, .int .u64 0, .slice none 0 0] a2 n2 c2 la ln fun a3 n3 c3 =>
 .store ⟨s, 17, none⟩ [.slice a3 n3 c3] <|
 .ret (.tuple #[])
theorem e56 (s : Nat) (la : Option Addr) (ln : Nat) (lc : Nat) : genFn Try.prog noM noM Try.f56 [.pointer (some ⟨s, 0, none⟩), .slice la ln lc] = t56 s la ln lc := by kernel_rfl
theorem r56 (s : Nat) (la : Option Addr) (ln : Nat) (lc : Nat) {R : Value → World → Prop} {w : World} (h : (t56 s la ln lc).wp Try.prog R (fun _ _ _ => False) w) : Runs Try.prog 56 [.pointer (some ⟨s, 0, none⟩), .slice la ln lc] w R :=
 genFn_runs mixed noM noM Try.func56 (by kernel_rfl) (by rw [e56]; exact h)
def t57 (s0 : Int) (s1 : Int) (s2a : Option Addr) (s2n : Nat) (s2c : Nat) : VC :=
 .new 27 [.int .u64 s0, .int .u64 s1, .slice s2a s2n s2c] fun p1 =>
 .new 27 [.int .u64 0, .int .u64 0, .slice none 0 0] fun p2 =>
 .load ⟨p1, 2, none⟩ 1 fun v3 =>
 .exS fun a4 n4 c4 =>
 .isL v3 [.slice a4 n4 c4] <|
 .call 54 ([.slice a4 n4 c4]) fun v5 =>
 .exS fun a6 n6 c6 =>
 .isL [v5] [.slice a6 n6 c6] <|
 .store ⟨p1, 2, none⟩ [.slice a6 n6 c6] <|
 .load ⟨p1, 0, none⟩ 3 fun v7 =>
 .exI fun i8 =>
 .exI fun i9 =>
 .exS fun a10 n10 c10 =>
 .isL v7 [.int .u64 i8, .int .u64 i9, .slice a10 n10 c10] <|
 .store ⟨p2, 0, none⟩ [.int .u64 i8, .int .u64 i9, .slice a10 n10 c10] <|
 .load ⟨p2, 0, none⟩ 3 fun v11 =>
 .exI fun i12 =>
 .exI fun i13 =>
 .exS fun a14 n14 c14 =>
 .isL v11 [.int .u64 i12, .int .u64 i13, .slice a14 n14 c14] <|
 .ret (.agg #[.int .u64 i12, .int .u64 i13, .slice a14 n14 c14])
theorem e57 (s0 : Int) (s1 : Int) (s2a : Option Addr) (s2n : Nat) (s2c : Nat) : genFn Try.prog noM noM Try.f57 [.agg #[.int .u64 s0, .int .u64 s1, .slice s2a s2n s2c]] = t57 s0 s1 s2a s2n s2c := by kernel_rfl
theorem r57 (s0 : Int) (s1 : Int) (s2a : Option Addr) (s2n : Nat) (s2c : Nat) {R : Value → World → Prop} {w : World} (h : (t57 s0 s1 s2a s2n s2c).wp Try.prog R (fun _ _ _ => False) w) : Runs Try.prog 57 [.agg #[.int .u64 s0, .int .u64 s1, .slice s2a s2n s2c]] w R :=
 genFn_runs mixed noM noM Try.func57 (by kernel_rfl) (by rw [e57]; exact h)
def t58 (s : Nat) : VC :=
 .new 36 [.int .u64 0, .int .i64 0, .int .i64 0, .int .i64 0, .int .u64 0, .int .u64 0, .slice none 0 0, .slice none 0 0, .int .u64 0, .int .i64 0, .int .i64 0, .slice none 0 0, .slice none 0 0, .slice none 0 0, .slice none 0 0, .int .u64 0, .slice none 0 0] fun p1 =>
 .new 48 [.slice none 0 0, .slice none 0 0, .slice none 0 0] fun p2 =>
 .draw <|
 .load ⟨s, 0, none⟩ 17 fun v3 =>
 .exI fun i4 =>
 .exI fun i5 =>
 .exI fun i6 =>
 .exI fun i7 =>
 .exI fun i8 =>
 .exI fun i9 =>
 .exS fun a10 n10 c10 =>
 .exS fun a11 n11 c11 =>
 .exI fun i12 =>
 .exI fun i13 =>
 .exI fun i14 =>
 .exS fun a15 n15 c15 =>
 .exS fun a16 n16 c16 =>
 .exS fun a17 n17 c17 =>
 .exS fun a18 n18 c18 =>
 .exI fun i19 =>
 .exS fun a20 n20 c20 =>
 .isL v3 [.int .u64 i4, .int .i64 i5, .int .i64 i6, .int .i64 i7, .int .u64 i8, .int .u64 i9, .slice a10 n10 c10, .slice a11 n11 c11, .int .u64 i12, .int .i64 i13, .int .i64 i14, .slice a15 n15 c15, .slice a16 n16 c16, .slice a17 n17 c17, .slice a18 n18 c18, .int .u64 i19, .slice a20 n20 c20] <|
 .load ⟨s, 17, none⟩ 3 fun v21 =>
 .exS fun a22 n22 c22 =>
 .exS fun a23 n23 c23 =>
 .exS fun a24 n24 c24 =>
 .isL v21 [.slice a22 n22 c22, .slice a23 n23 c23, .slice a24 n24 c24] <|
 .store ⟨p1, 0, none⟩ [.int .u64 i4, .int .i64 i5, .int .i64 i6, .int .i64 i7, .int .u64 i8, .int .u64 i9, .slice a10 n10 c10, .slice a11 n11 c11, .int .u64 i12, .int .i64 i13, .int .i64 i14, .slice a15 n15 c15, .slice a16 n16 c16, .slice a17 n17 c17, .slice a18 n18 c18, .int .u64 i19, .slice a20 n20 c20] <|
 .hold [(⟨s, 17, none⟩, [.slice a22 n22 c22, .slice a23 n23 c23, .slice a24 n24 c24])] <|
 .store ⟨p2, 0, none⟩ [.slice a22 n22 c22, .slice a23 n23 c23, .slice a24 n24 c24] <|
 .load ⟨p1, 0, none⟩ 17 fun v25 =>
 .exI fun i26 =>
 .exI fun i27 =>
 .exI fun i28 =>
 .exI fun i29 =>
 .exI fun i30 =>
 .exI fun i31 =>
 .exS fun a32 n32 c32 =>
 .exS fun a33 n33 c33 =>
 .exI fun i34 =>
 .exI fun i35 =>
 .exI fun i36 =>
 .exS fun a37 n37 c37 =>
 .exS fun a38 n38 c38 =>
 .exS fun a39 n39 c39 =>
 .exS fun a40 n40 c40 =>
 .exI fun i41 =>
 .exS fun a42 n42 c42 =>
 .isL v25 [.int .u64 i26, .int .i64 i27, .int .i64 i28, .int .i64 i29, .int .u64 i30, .int .u64 i31, .slice a32 n32 c32, .slice a33 n33 c33, .int .u64 i34, .int .i64 i35, .int .i64 i36, .slice a37 n37 c37, .slice a38 n38 c38, .slice a39 n39 c39, .slice a40 n40 c40, .int .u64 i41, .slice a42 n42 c42] <|
 .load ⟨p2, 0, none⟩ 3 fun v43 =>
 .exS fun a44 n44 c44 =>
 .exS fun a45 n45 c45 =>
 .exS fun a46 n46 c46 =>
 .isL v43 [.slice a44 n44 c44, .slice a45 n45 c45, .slice a46 n46 c46] <|
 .ret (.tuple #[.agg #[.int .u64 i26, .int .i64 i27, .int .i64 i28, .int .i64 i29, .int .u64 i30, .int .u64 i31, .slice a32 n32 c32, .slice a33 n33 c33, .int .u64 i34, .int .i64 i35, .int .i64 i36, .slice a37 n37 c37, .slice a38 n38 c38, .slice a39 n39 c39, .slice a40 n40 c40, .int .u64 i41, .slice a42 n42 c42], .agg #[.slice a44 n44 c44, .slice a45 n45 c45, .slice a46 n46 c46]])
theorem e58 (s : Nat) : genFn Try.prog noM noM Try.f58 [.pointer (some ⟨s, 0, none⟩)] = t58 s := by kernel_rfl
theorem r58 (s : Nat) {R : Value → World → Prop} {w : World} (h : (t58 s).wp Try.prog R (fun _ _ _ => False) w) : Runs Try.prog 58 [.pointer (some ⟨s, 0, none⟩)] w R :=
 genFn_runs mixed noM noM Try.func58 (by kernel_rfl) (by rw [e58]; exact h)
def t59 (r0 : Int) (r1 : Int) (r2 : Int) (r3 : Int) (r4 : Int) (r5 : Int) (r6a : Option Addr) (r6n : Nat) (r6c : Nat) (r7a : Option Addr) (r7n : Nat) (r7c : Nat) (r8 : Int) (r9 : Int) (r10 : Int) (r11a : Option Addr) (r11n : Nat) (r11c : Nat) (r12a : Option Addr) (r12n : Nat) (r12c : Nat) (r13a : Option Addr) (r13n : Nat) (r13c : Nat) (r14a : Option Addr) (r14n : Nat) (r14c : Nat) (r15 : Int) (r16a : Option Addr) (r16n : Nat) (r16c : Nat) : VC :=
 .new 36 [.int .u64 r0, .int .i64 r1, .int .i64 r2, .int .i64 r3, .int .u64 r4, .int .u64 r5, .slice r6a r6n r6c, .slice r7a r7n r7c, .int .u64 r8, .int .i64 r9, .int .i64 r10, .slice r11a r11n r11c, .slice r12a r12n r12c, .slice r13a r13n r13c, .slice r14a r14n r14c, .int .u64 r15, .slice r16a r16n r16c] fun p1 =>
 .load ⟨p1, 2, none⟩ 1 fun v2 =>
 .exI fun i3 =>
 .isL v2 [.int .i64 i3] <|
 bif (decide (i3 < 1)) then
  (.ret (.bool false))
 else
 (.load ⟨p1, 2, none⟩ 1 fun v4 =>
 .exI fun i5 =>
 .isL v4 [.int .i64 i5] <|
 .load ⟨p1, 3, none⟩ 1 fun v6 =>
 .exI fun i7 =>
 .isL v6 [.int .i64 i7] <|
 bif (decide (i5 > i7)) then
  (.ret (.bool false))
 else
 (.load ⟨p1, 3, none⟩ 1 fun v8 =>
 .exI fun i9 =>
 .isL v8 [.int .i64 i9] <|
 bif (decide (i9 > 7)) then
  (.ret (.bool false))
 else
 (.load ⟨p1, 9, none⟩ 1 fun v10 =>
 .exI fun i11 =>
 .isL v10 [.int .i64 i11] <|
 bif (i11 == 2) then
  (.load ⟨p1, 12, none⟩ 1 fun v12 =>
  .exS fun a13 n13 c13 =>
  .isL v12 [.slice a13 n13 c13] <|
  .load ⟨p1, 3, none⟩ 1 fun v14 =>
  .exI fun i15 =>
  .isL v14 [.int .i64 i15] <|
  bif ((↑n13 : Int) == i15) then
   (.load ⟨p1, 13, none⟩ 1 fun v16 =>
   .exS fun a17 n17 c17 =>
   .isL v16 [.slice a17 n17 c17] <|
   .load ⟨p1, 3, none⟩ 1 fun v18 =>
   .exI fun i19 =>
   .isL v18 [.int .i64 i19] <|
   bif ((↑n17 : Int) == i19) then
    (.load ⟨p1, 14, none⟩ 1 fun v20 =>
    .exS fun a21 n21 c21 =>
    .isL v20 [.slice a21 n21 c21] <|
    .load ⟨p1, 3, none⟩ 1 fun v22 =>
    .exI fun i23 =>
    .isL v22 [.int .i64 i23] <|
    .ret (.bool ((↑n21 : Int) == i23)))
   else
   (.ret (.bool false)))
  else
  (.ret (.bool false)))
 else
 (.load ⟨p1, 9, none⟩ 1 fun v24 =>
 .exI fun i25 =>
 .isL v24 [.int .i64 i25] <|
 bif (i25 == 1) then
  (.load ⟨p1, 11, none⟩ 1 fun v26 =>
  .exS fun a27 n27 c27 =>
  .isL v26 [.slice a27 n27 c27] <|
  .load ⟨p1, 3, none⟩ 1 fun v28 =>
  .exI fun i29 =>
  .isL v28 [.int .i64 i29] <|
  .ret (.bool ((↑n27 : Int) == i29)))
 else
 (.ret (.bool true))))))
theorem e59 (r0 : Int) (r1 : Int) (r2 : Int) (r3 : Int) (r4 : Int) (r5 : Int) (r6a : Option Addr) (r6n : Nat) (r6c : Nat) (r7a : Option Addr) (r7n : Nat) (r7c : Nat) (r8 : Int) (r9 : Int) (r10 : Int) (r11a : Option Addr) (r11n : Nat) (r11c : Nat) (r12a : Option Addr) (r12n : Nat) (r12c : Nat) (r13a : Option Addr) (r13n : Nat) (r13c : Nat) (r14a : Option Addr) (r14n : Nat) (r14c : Nat) (r15 : Int) (r16a : Option Addr) (r16n : Nat) (r16c : Nat) : genFn Try.prog noM noM Try.f59 [.agg #[.int .u64 r0, .int .i64 r1, .int .i64 r2, .int .i64 r3, .int .u64 r4, .int .u64 r5, .slice r6a r6n r6c, .slice r7a r7n r7c, .int .u64 r8, .int .i64 r9, .int .i64 r10, .slice r11a r11n r11c, .slice r12a r12n r12c, .slice r13a r13n r13c, .slice r14a r14n r14c, .int .u64 r15, .slice r16a r16n r16c]] = t59 r0 r1 r2 r3 r4 r5 r6a r6n r6c r7a r7n r7c r8 r9 r10 r11a r11n r11c r12a r12n r12c r13a r13n r13c r14a r14n r14c r15 r16a r16n r16c := by kernel_rfl
theorem r59 (r0 : Int) (r1 : Int) (r2 : Int) (r3 : Int) (r4 : Int) (r5 : Int) (r6a : Option Addr) (r6n : Nat) (r6c : Nat) (r7a : Option Addr) (r7n : Nat) (r7c : Nat) (r8 : Int) (r9 : Int) (r10 : Int) (r11a : Option Addr) (r11n : Nat) (r11c : Nat) (r12a : Option Addr) (r12n : Nat) (r12c : Nat) (r13a : Option Addr) (r13n : Nat) (r13c : Nat) (r14a : Option Addr) (r14n : Nat) (r14c : Nat) (r15 : Int) (r16a : Option Addr) (r16n : Nat) (r16c : Nat) {R : Value → World → Prop} {w : World} (h : (t59 r0 r1 r2 r3 r4 r5 r6a r6n r6c r7a r7n r7c r8 r9 r10 r11a r11n r11c r12a r12n r12c r13a r13n r13c r14a r14n r14c r15 r16a r16n r16c).wp Try.prog R (fun _ _ _ => False) w) : Runs Try.prog 59 [.agg #[.int .u64 r0, .int .i64 r1, .int .i64 r2, .int .i64 r3, .int .u64 r4, .int .u64 r5, .slice r6a r6n r6c, .slice r7a r7n r7c, .int .u64 r8, .int .i64 r9, .int .i64 r10, .slice r11a r11n r11c, .slice r12a r12n r12c, .slice r13a r13n r13c, .slice r14a r14n r14c, .int .u64 r15, .slice r16a r16n r16c]] w R :=
 genFn_runs mixed noM noM Try.func59 (by kernel_rfl) (by rw [e59]; exact h)
def t60 (s : Nat) : VC :=
 .store ⟨s, 11, none⟩ [.slice none 0 0] <|
 .store ⟨s, 12, none⟩ [.slice none 0 0] <|
 .store ⟨s, 13, none⟩ [.slice none 0 0] <|
 .store ⟨s, 14, none⟩ [.slice none 0 0] <|
 .store ⟨s, 16, none⟩ [.slice none 0 0] <|
 .ret (.tuple #[])
theorem e60 (s : Nat) : genFn Try.prog noM noM Try.f60 [.pointer (some ⟨s, 0, none⟩)] = t60 s := by kernel_rfl
theorem r60 (s : Nat) {R : Value → World → Prop} {w : World} (h : (t60 s).wp Try.prog R (fun _ _ _ => False) w) : Runs Try.prog 60 [.pointer (some ⟨s, 0, none⟩)] w R :=
 genFn_runs mixed noM noM Try.func60 (by kernel_rfl) (by rw [e60]; exact h)
def t61 (s : Nat) : VC :=
 .load ⟨s, 0, none⟩ 2 fun v1 =>
 .exI fun i2 =>
 .exI fun i3 =>
 .isL v1 [.int .u64 i2, .int .i64 i3] <|
 .new 59 [.int .i64 1, .int .u64 i2, .int .i64 i3, .int .u64 0, .slice none 0 0, .int .u64 0, .int .u64 0, .int .u64 0, .slice none 0 0] fun p4 =>
 .call 56 ([.pointer (some ⟨s, 0, none⟩), .slice (some ⟨p4, 0, none⟩) 1 1]) fun v5 =>
 .isL [v5] [.tuple #[]] <|
 .ret (.tuple #[])
theorem e61 (s : Nat) : genFn Try.prog noM noM Try.f61 [.pointer (some ⟨s, 0, none⟩)] = t61 s := by kernel_rfl
theorem r61 (s : Nat) {R : Value → World → Prop} {w : World} (h : (t61 s).wp Try.prog R (fun _ _ _ => False) w) : Runs Try.prog 61 [.pointer (some ⟨s, 0, none⟩)] w R :=
 genFn_runs mixed noM noM Try.func61 (by kernel_rfl) (by rw [e61]; exact h)
def t62 (s : Nat) : VC :=
 .new 85 [.pointer (some ⟨s, 0, none⟩)] fun p1 =>
 .draw <|
 .load ⟨p1, 0, none⟩ 1 fun v2 =>
 .exN fun p3 =>
 .isL v2 [.pointer (some ⟨p3, 0, none⟩)] <|
 .load ⟨p1, 0, none⟩ 1 fun v4 =>
 .exN fun p5 =>
 .isL v4 [.pointer (some ⟨p5, 0, none⟩)] <|
 .load ⟨p5, 11, none⟩ 1 fun v6 =>
 .exS fun a7 n7 c7 =>
 .isL v6 [.slice a7 n7 c7] <|
 .load ⟨p1, 0, none⟩ 1 fun v8 =>
 .exN fun p9 =>
 .isL v8 [.pointer (some ⟨p9, 0, none⟩)] <|
 .load ⟨p9, 2, none⟩ 1 fun v10 =>
 .exI fun i11 =>
 .isL v10 [.int .i64 i11] <|
 .some a7 fun x12 =>
 .need ((0 : Int) ≤ IntKind.i64.wrap (i11 - 1) ∧ IntKind.i64.wrap (i11 - 1) < (↑n7 : Int)) <|
 .load (x12.add ((IntKind.i64.wrap (i11 - 1)).toNat * 1)) 1 fun v13 =>
 .exB fun b14 =>
 .isL v13 [.bool b14] <|
 .call 98 ([.pointer (some ⟨p3, 0, none⟩), .bool b14, .func (Fn.func 99) #[] #[.pointer (some ⟨p1, 0, none⟩)]]) fun v15 =>
 .exB fun b16 =>
 .isL [v15] [.bool b16] <|
 bif b16 then
  (.load ⟨p1, 0, none⟩ 1 fun v17 =>
  .exN fun p18 =>
  .isL v17 [.pointer (some ⟨p18, 0, none⟩)] <|
  .call 100 ([.pointer (some ⟨p18, 0, none⟩)]) fun v19 =>
  .isL [v19] [.tuple #[]] <|
  .ret (.tuple #[]))
 else
 (.ret (.tuple #[]))
theorem e62 (s : Nat) : genFn Try.prog noM noM Try.f62 [.pointer (some ⟨s, 0, none⟩)] = t62 s := by kernel_rfl
theorem r62 (s : Nat) {R : Value → World → Prop} {w : World} (h : (t62 s).wp Try.prog R (fun _ _ _ => False) w) : Runs Try.prog 62 [.pointer (some ⟨s, 0, none⟩)] w R :=
 genFn_runs mixed noM noM Try.func62 (by kernel_rfl) (by rw [e62]; exact h)
def lv63 : Marks := (fun | some 3 => some [(3, .slice none 0 0), (4, .int .i64 0)] | _ => none)
def t63 (s : Nat) : VC :=
 .loop 0 [.slice none 0 0, .int .i64 1] (fun v1 =>
  .exS fun a2 n2 c2 =>
  .exI fun i3 =>
  .isL v1 [.slice a2 n2 c2, .int .i64 i3] <|
  .load ⟨s, 3, none⟩ 1 fun v4 =>
  .exI fun i5 =>
  .isL v4 [.int .i64 i5] <|
  bif (decide (i3 ≤ i5)) then
   (.load ⟨s, 2, none⟩ 1 fun v6 =>
   .exI fun i7 =>
   .isL v6 [.int .i64 i7] <|
   bif (i3 != i7) then
    (.new 3 [.int .i64 i3] fun p8 =>
    .append 3 1 8 [.int .i64 0] a2 n2 c2 (some ⟨p8, 0, none⟩) 1 fun a9 n9 c9 =>
    .again 0 [.slice a9 n9 c9, .int .i64 (IntKind.i64.wrap (i3 + 1))])
   else
   (.again 0 [.slice a2 n2 c2, .int .i64 (IntKind.i64.wrap (i3 + 1))]))
  else
  (.ret (.slice a2 n2 c2)))
theorem e63 (s : Nat) : genFn Try.prog lv63 noM Try.f63 [.pointer (some ⟨s, 0, none⟩)] = t63 s := by kernel_rfl
theorem r63 (s : Nat) {R : Value → World → Prop} {w : World} (h : (t63 s).wp Try.prog R (fun _ _ _ => False) w) : Runs Try.prog 63 [.pointer (some ⟨s, 0, none⟩)] w R :=
 genFn_runs mixed lv63 noM Try.func63 (by kernel_rfl) (by rw [e63]; exact h)
def lv64 : Marks := (fun | some 1 => some [(8, .int .i64 0)] | _ => none)
def t64 (s : Nat) (la : Option Addr) (ln : Nat) (lc : Nat) : VC :=
 .loop 0 [.int .i64 0] (fun v1 =>
  .exI fun i2 =>
  .isL v1 [.int .i64 i2] <|
  bif (decide (i2 < (↑ln : Int))) then
   (.some la fun x3 =>
   .need ((0 : Int) ≤ i2 ∧ i2 < (↑ln : Int)) <|
   .load (x3.add (i2.toNat * 21)) 21 fun v4 =>
   .exI fun i5 =>
   .exI fun i6 =>
   .exI fun i7 =>
   .exI fun i8 =>
   .exI fun i9 =>
   .exI fun i10 =>
   .exS fun a11 n11 c11 =>
   .exI fun i12 =>
   .exI fun i13 =>
   .exB fun b14 =>
   .exI fun i15 =>
   .exI fun i16 =>
   .exS fun a17 n17 c17 =>
   .exI fun i18 =>
   .exI fun i19 =>
   .exI fun i20 =>
   .exT fun s21 =>
   .exT fun s22 =>
   .exI fun i23 =>
   .exI fun i24 =>
   .exT fun s25 =>
   .isL v4 [.int .i64 i5, .int .i64 i6, .int .i64 i7, .int .u64 i8, .int .u64 i9, .int .u64 i10, .slice a11 n11 c11, .int .u64 i12, .int .u64 i13, .bool b14, .int .u64 i15, .int .u64 i16, .slice a17 n17 c17, .int .i64 i18, .int .i64 i19, .int .u64 i20, .string s21, .string s22, .int .u64 i23, .int .i64 i24, .string s25] <|
   .new 70 [.int .i64 0, .int .i64 0, .int .i64 0, .int .u64 0, .int .u64 0, .int .u64 0, .slice none 0 0, .int .u64 0, .int .u64 0, .bool false, .int .u64 0, .int .u64 0, .slice none 0 0, .int .i64 0, .int .i64 0, .int .u64 0, .string ({ data := #[] }), .string ({ data := #[] }), .int .u64 0, .int .i64 0, .string ({ data := #[] })] fun p26 =>
   .store ⟨p26, 0, none⟩ [.int .i64 i5, .int .i64 i6, .int .i64 i7, .int .u64 i8, .int .u64 i9, .int .u64 i10, .slice a11 n11 c11, .int .u64 i12, .int .u64 i13, .bool b14, .int .u64 i15, .int .u64 i16, .slice a17 n17 c17, .int .i64 i18, .int .i64 i19, .int .u64 i20, .string s21, .string s22, .int .u64 i23, .int .i64 i24, .string s25] <|
   .draw <|
   .load ⟨s, 2, none⟩ 1 fun v27 =>
   .exI fun i28 =>
   .isL v27 [.int .i64 i28] <|
   .load ⟨s, 0, none⟩ 1 fun v29 =>
   .exI fun i30 =>
   .isL v29 [.int .u64 i30] <|
   .store ⟨p26, 1, none⟩ [.int .i64 i28] <|
   .hold [(⟨s, 0, none⟩, [.int .u64 i30])] <|
   .store ⟨p26, 3, none⟩ [.int .u64 i30] <|
   .draw <|
   .load ⟨s, 18, none⟩ 1 fun v31 =>
   .exS fun a32 n32 c32 =>
   .isL v31 [.slice a32 n32 c32] <|
   .load ⟨p26, 0, none⟩ 21 fun v33 =>
   .exI fun i34 =>
   .exI fun i35 =>
   .exI fun i36 =>
   .exI fun i37 =>
   .exI fun i38 =>
   .exI fun i39 =>
   .exS fun a40 n40 c40 =>
   .exI fun i41 =>
   .exI fun i42 =>
   .exB fun b43 =>
   .exI fun i44 =>
   .exI fun i45 =>
   .exS fun a46 n46 c46 =>
   .exI fun i47 =>
   .exI fun i48 =>
   .exI fun i49 =>
   .exT fun s50 =>
   .exT fun s51 =>
   .exI fun i52 =>
   .exI fun i53 =>
   .exT fun s54 =>
   .isL v33 [.int .i64 i34, .int .i64 i35, .int .i64 i36, .int .u64 i37, .int .u64 i38, .int .u64 i39, .slice a40 n40 c40, .int .u64 i41, .int .u64 i42, .bool b43, .int .u64 i44, .int .u64 i45, .slice a46 n46 c46, .int .i64 i47, .int .i64 i48, .int .u64 i49, .string s50, .string s51, .int .u64 i52, .int .i64 i53, .string s54] <|
   .new 70 [.int .i64 i34, .int .i64 i35, .int .i64 i36, .int .u64 i37, .int .u64 i38, .int .u64 i39, .slice a40 n40 c40, .int .u64 i41, .int .u64 i42, .bool b43, .int .u64 i44, .int .u64 i45, .slice a46 n46 c46, .int .i64 i47, .int .i64 i48, .int .u64 i49, .string s50, .string s51, .int .u64 i52, .int .i64 i53, .string s54] fun p55 =>
   .append 70 21 224 [.int .i64 0, .int .i64 0, .int .i64 0, .int .u64 0, .int .u64 0, .int .u64 0, .slice none 0 0, .int .u64 0, .int .u64 0, .bool false, .int .u64 0, .int .u64 0, .slice none 0 0, .int .i64 0, .int .i64 0, .int .u64 0, .string ({ data := #[] }), .string ({ data := #[] }), .int .u64 0, .int .i64 0, .string ({ data := #[] })] a32 n32 c32 (some ⟨p55, 0, none⟩) 1 fun a56 n56 c56 =>
   .store ⟨s, 18, none⟩ [.slice a56 n56 c56] <|
   .again 0 [.int .i64 (IntKind.i64.wrap (i2 + 1))])
  else
  (.ret (.tuple #[])))
theorem e64 (s : Nat) (la : Option Addr) (ln : Nat) (lc : Nat) : genFn Try.prog lv64 noM Try.f64 [.pointer (some ⟨s, 0, none⟩), .slice la ln lc] = t64 s la ln lc := by kernel_rfl
theorem r64 (s : Nat) (la : Option Addr) (ln : Nat) (lc : Nat) {R : Value → World → Prop} {w : World} (h : (t64 s la ln lc).wp Try.prog R (fun _ _ _ => False) w) : Runs Try.prog 64 [.pointer (some ⟨s, 0, none⟩), .slice la ln lc] w R :=
 genFn_runs mixed lv64 noM Try.func64 (by kernel_rfl) (by rw [e64]; exact h)
def ct65 : Marks := (fun | some 1 => some [(4, .pointer none)] | _ => none)
def t65 (s : Nat) (dataa : Option Addr) (datan : Nat) (datac : Nat) : VC :=
 .cut 0 (.draw <|
  .load ⟨s, 0, none⟩ 1 fun v1 =>
  .exI fun i2 =>
  .isL v1 [.int .u64 i2] <|
  .both
   (.call 54 ([.slice dataa datan datac]) fun v3 =>
   .exS fun a4 n4 c4 =>
   .isL [v3] [.slice a4 n4 c4] <|
   .hold [(⟨s, 0, none⟩, [.int .u64 i2])] <|
   .new 57 [.int .u64 0, .slice none 0 0] fun p5 =>
   .store ⟨p5, 0, none⟩ [.int .u64 i2, .slice a4 n4 c4] <|
   .again 0 [.pointer (some ⟨p5, 0, none⟩)])
  (.new 57 [.int .u64 0, .slice none 0 0] fun p6 =>
  .call 54 ([.slice dataa datan datac]) fun v7 =>
  .exS fun a8 n8 c8 =>
  .isL [v7] [.slice a8 n8 c8] <|
  .hold [(⟨s, 0, none⟩, [.int .u64 i2])] <|
  .store ⟨p6, 0, none⟩ [.int .u64 i2, .slice a8 n8 c8] <|
  .again 0 [.pointer (some ⟨p6, 0, none⟩)])) (fun v1001 =>
 .exN fun p10 =>
 .isL v1001 [.pointer (some ⟨p10, 0, none⟩)] <|
 .draw <|
 .load ⟨s, 7, none⟩ 1 fun v11 =>
 .exS fun a12 n12 c12 =>
 .isL v11 [.slice a12 n12 c12] <|
 .load ⟨p10, 0, none⟩ 2 fun v13 =>
 .exI fun i14 =>
 .exS fun a15 n15 c15 =>
 .isL v13 [.int .u64 i14, .slice a15 n15 c15] <|
 .new 57 [.int .u64 i14, .slice a15 n15 c15] fun p16 =>
 .append 57 2 32 [.int .u64 0, .slice none 0 0] a12 n12 c12 (some ⟨p16, 0, none⟩) 1 fun a17 n17 c17 =>
 .store ⟨s, 7, none⟩ [.slice a17 n17 c17] <|
 .draw <|
 .load ⟨p10, 0, none⟩ 1 fun v18 =>
 .exI fun i19 =>
 .isL v18 [.int .u64 i19] <|
 .call 54 ([.slice dataa datan datac]) fun v20 =>
 .exS fun a21 n21 c21 =>
 .isL [v20] [.slice a21 n21 c21] <|
 .hold [(⟨p10, 0, none⟩, [.int .u64 i19])] <|
 .new 59 [.int .i64 2, .int .u64 0, .int .i64 0, .int .u64 i19, .slice a21 n21 c21, .int .u64 0, .int .u64 0, .int .u64 0, .slice none 0 0] fun p22 =>
 .call 56 ([.pointer (some ⟨s, 0, none⟩), .slice (some ⟨p22, 0, none⟩) 1 1]) fun v23 =>
 .isL [v23] [.tuple #[]] <|
 .ret (.tuple #[]))
theorem e65 (s : Nat) (dataa : Option Addr) (datan : Nat) (datac : Nat) : genFn Try.prog noM ct65 Try.f65 [.pointer (some ⟨s, 0, none⟩), .slice dataa datan datac] = t65 s dataa datan datac := by kernel_rfl
theorem r65 (s : Nat) (dataa : Option Addr) (datan : Nat) (datac : Nat) {R : Value → World → Prop} {w : World} (h : (t65 s dataa datan datac).wp Try.prog R (fun _ _ _ => False) w) : Runs Try.prog 65 [.pointer (some ⟨s, 0, none⟩), .slice dataa datan datac] w R :=
 genFn_runs mixed noM ct65 Try.func65 (by kernel_rfl) (by rw [e65]; exact h)
def lv66 : Marks := (fun | some 2 => some [(2, .int .i64 0)] | _ => none)
def t66 (s : Nat) : VC :=
 .new 85 [.pointer (some ⟨s, 0, none⟩)] fun p1 =>
 .load ⟨p1, 0, none⟩ 1 fun v2 =>
 .exN fun p3 =>
 .isL v2 [.pointer (some ⟨p3, 0, none⟩)] <|
 .load ⟨p3, 7, none⟩ 1 fun v4 =>
 .exS fun a5 n5 c5 =>
 .isL v4 [.slice a5 n5 c5] <|
 .loop 0 [.int .i64 ((↑n5 : Int))] (fun v6 =>
  .exI fun i7 =>
  .isL v6 [.int .i64 i7] <|
  bif (decide (i7 > 0)) then
   (.load ⟨p1, 0, none⟩ 1 fun v8 =>
   .exN fun p9 =>
   .isL v8 [.pointer (some ⟨p9, 0, none⟩)] <|
   .load ⟨p9, 4, none⟩ 1 fun v10 =>
   .exI fun i11 =>
   .isL v10 [.int .u64 i11] <|
   .new 22 [.int .u64 0] fun p12 =>
   .store ⟨p12, 0, none⟩ [.int .u64 (IntKind.u64.wrap (i11 + IntKind.u64.wrap i7))] <|
   .draw <|
   .load ⟨p12, 0, none⟩ 1 fun v13 =>
   .exI fun i14 =>
   .isL v13 [.int .u64 i14] <|
   .load ⟨p1, 0, none⟩ 1 fun v15 =>
   .exN fun p16 =>
   .isL v15 [.pointer (some ⟨p16, 0, none⟩)] <|
   .load ⟨p16, 8, none⟩ 1 fun v17 =>
   .exI fun i18 =>
   .isL v17 [.int .u64 i18] <|
   bif (decide (i14 ≤ i18)) then
    (.ret (.tuple #[]))
   else
   (.draw <|
   .load ⟨p1, 0, none⟩ 1 fun v19 =>
   .exN fun p20 =>
   .isL v19 [.pointer (some ⟨p20, 0, none⟩)] <|
   .load ⟨p20, 7, none⟩ 1 fun v21 =>
   .exS fun a22 n22 c22 =>
   .isL v21 [.slice a22 n22 c22] <|
   .some a22 fun x23 =>
   .need ((0 : Int) ≤ IntKind.i64.wrap (i7 - 1) ∧ IntKind.i64.wrap (i7 - 1) < (↑n22 : Int)) <|
   .load (x23.add ((IntKind.i64.wrap (i7 - 1)).toNat * 2)) 1 fun v24 =>
   .exI fun i25 =>
   .isL v24 [.int .u64 i25] <|
   .load ⟨p1, 0, none⟩ 1 fun v26 =>
   .exN fun p27 =>
   .isL v26 [.pointer (some ⟨p27, 0, none⟩)] <|
   .load ⟨p27, 0, none⟩ 1 fun v28 =>
   .exI fun i29 =>
   .isL v28 [.int .u64 i29] <|
   bif (i25 == i29) then
    (.load ⟨p1, 0, none⟩ 1 fun v30 =>
    .exN fun p31 =>
    .isL v30 [.pointer (some ⟨p31, 0, none⟩)] <|
    .call 98 ([.pointer (some ⟨p31, 0, none⟩), .bool true, .func (Fn.func 101) #[] #[.pointer (some ⟨p1, 0, none⟩), .pointer (some ⟨p12, 0, none⟩)]]) fun v32 =>
    .exB fun b33 =>
    .isL [v32] [.bool b33] <|
    bif b33 then
     (.load ⟨p1, 0, none⟩ 1 fun v34 =>
     .exN fun p35 =>
     .isL v34 [.pointer (some ⟨p35, 0, none⟩)] <|
     .load ⟨p12, 0, none⟩ 1 fun v36 =>
     .exI fun i37 =>
     .isL v36 [.int .u64 i37] <|
     .store ⟨p35, 8, none⟩ [.int .u64 i37] <|
     .ret (.tuple #[]))
    else
    (.again 0 [.int .i64 (IntKind.i64.wrap (i7 - 1))]))
   else
   (.again 0 [.int .i64 (IntKind.i64.wrap (i7 - 1))])))
  else
  (.ret (.tuple #[])))
theorem e66 (s : Nat) : genFn Try.prog lv66 noM Try.f66 [.pointer (some ⟨s, 0, none⟩)] = t66 s := by kernel_rfl
theorem r66 (s : Nat) {R : Value → World → Prop} {w : World} (h : (t66 s).wp Try.prog R (fun _ _ _ => False) w) : Runs Try.prog 66 [.pointer (some ⟨s, 0, none⟩)] w R :=
 genFn_runs mixed lv66 noM Try.func66 (by kernel_rfl) (by rw [e66]; exact h)
def lv67 : Marks := (fun | some 2 => some [(16, .int .i64 0)] | _ => none)
def t67 (s : Nat) : VC :=
 .load ⟨s, 15, none⟩ 1 fun v1 =>
 .exI fun i2 =>
 .isL v1 [.int .u64 i2] <|
 .store ⟨s, 15, none⟩ [.int .u64 (IntKind.u64.wrap (i2 + 1))] <|
 .call 63 ([.pointer (some ⟨s, 0, none⟩)]) fun v3 =>
 .exS fun a4 n4 c4 =>
 .isL [v3] [.slice a4 n4 c4] <|
 .loop 0 [.int .i64 0] (fun v5 =>
  .exI fun i6 =>
  .isL v5 [.int .i64 i6] <|
  bif (decide (i6 < (↑n4 : Int))) then
   (.some a4 fun x7 =>
   .need ((0 : Int) ≤ i6 ∧ i6 < (↑n4 : Int)) <|
   .load (x7.add (i6.toNat * 1)) 1 fun v8 =>
   .exI fun i9 =>
   .isL v8 [.int .i64 i9] <|
   .call 102 ([.pointer (some ⟨s, 0, none⟩), .int .i64 i9]) fun v10 =>
   .isL [v10] [.tuple #[]] <|
   .again 0 [.int .i64 (IntKind.i64.wrap (i6 + 1))])
  else
  (.call 103 ([.pointer (some ⟨s, 0, none⟩)]) fun v11 =>
  .isL [v11] [.tuple #[]] <|
  .ret (.tuple #[])))
theorem e67 (s : Nat) : genFn Try.prog lv67 noM Try.f67 [.pointer (some ⟨s, 0, none⟩)] = t67 s := by kernel_rfl
theorem r67 (s : Nat) {R : Value → World → Prop} {w : World} (h : (t67 s).wp Try.prog R (fun _ _ _ => False) w) : Runs Try.prog 67 [.pointer (some ⟨s, 0, none⟩)] w R :=
 genFn_runs mixed lv67 noM Try.func67 (by kernel_rfl) (by rw [e67]; exact h)
def lv68 : Marks := (fun | some 4 => some [(3, .int .i64 0)] | _ => none)
def t68 (m0 : Int) (m1 : Int) (m2 : Int) (m3 : Int) (m4 : Int) (m5 : Int) (m6a : Option Addr) (m6n : Nat) (m6c : Nat) (m7 : Int) (m8 : Int) (m9 : Bool) (m10 : Int) (m11 : Int) (m12a : Option Addr) (m12n : Nat) (m12c : Nat) (m13 : Int) (m14 : Int) (m15 : Int) (m16 : ByteArray) (m17 : ByteArray) (m18 : Int) (m19 : Int) (m20 : ByteArray) : VC :=
 .new 70 [.int .i64 m0, .int .i64 m1, .int .i64 m2, .int .u64 m3, .int .u64 m4, .int .u64 m5, .slice m6a m6n m6c, .int .u64 m7, .int .u64 m8, .bool m9, .int .u64 m10, .int .u64 m11, .slice m12a m12n m12c, .int .i64 m13, .int .i64 m14, .int .u64 m15, .string m16, .string m17, .int .u64 m18, .int .i64 m19, .string m20] fun p1 =>
 .load ⟨p1, 0, none⟩ 1 fun v2 =>
 .exI fun i3 =>
 .isL v2 [.int .i64 i3] <|
 bif (decide (i3 < 0)) then
  (.ret (.bool false))
 else
 (.load ⟨p1, 0, none⟩ 1 fun v4 =>
 .exI fun i5 =>
 .isL v4 [.int .i64 i5] <|
 bif (decide (i5 > 255)) then
  (.ret (.bool false))
 else
 (.load ⟨p1, 6, none⟩ 1 fun v6 =>
 .exS fun a7 n7 c7 =>
 .isL v6 [.slice a7 n7 c7] <|
 bif (decide ((↑n7 : Int) > 20)) then
  (.ret (.bool false))
 else
 (.load ⟨p1, 12, none⟩ 1 fun v8 =>
 .exS fun a9 n9 c9 =>
 .isL v8 [.slice a9 n9 c9] <|
 bif (decide ((↑n9 : Int) > 400)) then
  (.ret (.bool false))
 else
 (.load ⟨p1, 16, none⟩ 1 fun v10 =>
 .exT fun s11 =>
 .isL v10 [.string s11] <|
 bif (decide ((↑s11.size : Int) > 100)) then
  (.ret (.bool false))
 else
 (.load ⟨p1, 17, none⟩ 1 fun v12 =>
 .exT fun s13 =>
 .isL v12 [.string s13] <|
 bif (decide ((↑s13.size : Int) > 500)) then
  (.ret (.bool false))
 else
 (.load ⟨p1, 20, none⟩ 1 fun v14 =>
 .exT fun s15 =>
 .isL v14 [.string s15] <|
 bif (decide ((↑s15.size : Int) > 500)) then
  (.ret (.bool false))
 else
 (.load ⟨p1, 13, none⟩ 1 fun v16 =>
 .exI fun i17 =>
 .isL v16 [.int .i64 i17] <|
 bif (decide (i17 < 0)) then
  (.ret (.bool false))
 else
 (.load ⟨p1, 13, none⟩ 1 fun v18 =>
 .exI fun i19 =>
 .isL v18 [.int .i64 i19] <|
 bif (decide (i19 > 255)) then
  (.ret (.bool false))
 else
 (.load ⟨p1, 14, none⟩ 1 fun v20 =>
 .exI fun i21 =>
 .isL v20 [.int .i64 i21] <|
 bif (decide (i21 < 0)) then
  (.ret (.bool false))
 else
 (.load ⟨p1, 14, none⟩ 1 fun v22 =>
 .exI fun i23 =>
 .isL v22 [.int .i64 i23] <|
 bif (decide (i23 > 255)) then
  (.ret (.bool false))
 else
 (.load ⟨p1, 19, none⟩ 1 fun v24 =>
 .exI fun i25 =>
 .isL v24 [.int .i64 i25] <|
 bif (decide (i25 < 0)) then
  (.ret (.bool false))
 else
 (.load ⟨p1, 19, none⟩ 1 fun v26 =>
 .exI fun i27 =>
 .isL v26 [.int .i64 i27] <|
 bif (decide (i27 > 255)) then
  (.ret (.bool false))
 else
 (.loop 0 [.int .i64 0] (fun v28 =>
  .exI fun i29 =>
  .isL v28 [.int .i64 i29] <|
  .load ⟨p1, 6, none⟩ 1 fun v30 =>
  .exS fun a31 n31 c31 =>
  .isL v30 [.slice a31 n31 c31] <|
  bif (decide (i29 < (↑n31 : Int))) then
   (.load ⟨p1, 6, none⟩ 1 fun v32 =>
   .exS fun a33 n33 c33 =>
   .isL v32 [.slice a33 n33 c33] <|
   .some a33 fun x34 =>
   .need ((0 : Int) ≤ i29 ∧ i29 < (↑n33 : Int)) <|
   .load ((x34.add (i29.toNat * 2)).add 1) 1 fun v35 =>
   .exS fun a36 n36 c36 =>
   .isL v35 [.slice a36 n36 c36] <|
   bif (decide ((↑n36 : Int) > 100)) then
    (.ret (.bool false))
   else
   (.again 0 [.int .i64 (IntKind.i64.wrap (i29 + 1))]))
  else
  (.load ⟨p1, 1, none⟩ 1 fun v37 =>
  .exI fun i38 =>
  .isL v37 [.int .i64 i38] <|
  bif (decide (i38 ≥ -32768)) then
   (.load ⟨p1, 1, none⟩ 1 fun v39 =>
   .exI fun i40 =>
   .isL v39 [.int .i64 i40] <|
   bif (decide (i40 ≤ 32767)) then
    (.load ⟨p1, 2, none⟩ 1 fun v41 =>
    .exI fun i42 =>
    .isL v41 [.int .i64 i42] <|
    bif (decide (i42 ≥ -32768)) then
     (.load ⟨p1, 2, none⟩ 1 fun v43 =>
     .exI fun i44 =>
     .isL v43 [.int .i64 i44] <|
     .ret (.bool (decide (i44 ≤ 32767))))
    else
    (.ret (.bool false)))
   else
   (.ret (.bool false)))
  else
  (.ret (.bool false)))))))))))))))))
theorem e68 (m0 : Int) (m1 : Int) (m2 : Int) (m3 : Int) (m4 : Int) (m5 : Int) (m6a : Option Addr) (m6n : Nat) (m6c : Nat) (m7 : Int) (m8 : Int) (m9 : Bool) (m10 : Int) (m11 : Int) (m12a : Option Addr) (m12n : Nat) (m12c : Nat) (m13 : Int) (m14 : Int) (m15 : Int) (m16 : ByteArray) (m17 : ByteArray) (m18 : Int) (m19 : Int) (m20 : ByteArray) : genFn Try.prog lv68 noM Try.f68 [.agg #[.int .i64 m0, .int .i64 m1, .int .i64 m2, .int .u64 m3, .int .u64 m4, .int .u64 m5, .slice m6a m6n m6c, .int .u64 m7, .int .u64 m8, .bool m9, .int .u64 m10, .int .u64 m11, .slice m12a m12n m12c, .int .i64 m13, .int .i64 m14, .int .u64 m15, .string m16, .string m17, .int .u64 m18, .int .i64 m19, .string m20]] = t68 m0 m1 m2 m3 m4 m5 m6a m6n m6c m7 m8 m9 m10 m11 m12a m12n m12c m13 m14 m15 m16 m17 m18 m19 m20 := by kernel_rfl
theorem r68 (m0 : Int) (m1 : Int) (m2 : Int) (m3 : Int) (m4 : Int) (m5 : Int) (m6a : Option Addr) (m6n : Nat) (m6c : Nat) (m7 : Int) (m8 : Int) (m9 : Bool) (m10 : Int) (m11 : Int) (m12a : Option Addr) (m12n : Nat) (m12c : Nat) (m13 : Int) (m14 : Int) (m15 : Int) (m16 : ByteArray) (m17 : ByteArray) (m18 : Int) (m19 : Int) (m20 : ByteArray) {R : Value → World → Prop} {w : World} (h : (t68 m0 m1 m2 m3 m4 m5 m6a m6n m6c m7 m8 m9 m10 m11 m12a m12n m12c m13 m14 m15 m16 m17 m18 m19 m20).wp Try.prog R (fun _ _ _ => False) w) : Runs Try.prog 68 [.agg #[.int .i64 m0, .int .i64 m1, .int .i64 m2, .int .u64 m3, .int .u64 m4, .int .u64 m5, .slice m6a m6n m6c, .int .u64 m7, .int .u64 m8, .bool m9, .int .u64 m10, .int .u64 m11, .slice m12a m12n m12c, .int .i64 m13, .int .i64 m14, .int .u64 m15, .string m16, .string m17, .int .u64 m18, .int .i64 m19, .string m20]] w R :=
 genFn_runs mixed lv68 noM Try.func68 (by kernel_rfl) (by rw [e68]; exact h)
def t69 (r0 : Int) (r1 : Int) (r2 : Int) (r3 : Int) (r4 : Int) (r5 : Int) (r6a : Option Addr) (r6n : Nat) (r6c : Nat) (r7a : Option Addr) (r7n : Nat) (r7c : Nat) (r8 : Int) (r9 : Int) (r10 : Int) (r11a : Option Addr) (r11n : Nat) (r11c : Nat) (r12a : Option Addr) (r12n : Nat) (r12c : Nat) (r13a : Option Addr) (r13n : Nat) (r13c : Nat) (r14a : Option Addr) (r14n : Nat) (r14c : Nat) (r15 : Int) (r16a : Option Addr) (r16n : Nat) (r16c : Nat) : VC :=
 .new 36 [.int .u64 r0, .int .i64 r1, .int .i64 r2, .int .i64 r3, .int .u64 r4, .int .u64 r5, .slice r6a r6n r6c, .slice r7a r7n r7c, .int .u64 r8, .int .i64 r9, .int .i64 r10, .slice r11a r11n r11c, .slice r12a r12n r12c, .slice r13a r13n r13c, .slice r14a r14n r14c, .int .u64 r15, .slice r16a r16n r16c] fun p1 =>
 .new 57 [] fun p2 =>
 .load ⟨p1, 7, none⟩ 1 fun v3 =>
 .exS fun a4 n4 c4 =>
 .isL v3 [.slice a4 n4 c4] <|
 .append 57 2 32 [.int .u64 0, .slice none 0 0] (some ⟨p2, 0, none⟩) 0 0 a4 n4 fun a5 n5 c5 =>
 .store ⟨p1, 7, none⟩ [.slice a5 n5 c5] <|
 .new 4 [] fun p6 =>
 .load ⟨p1, 11, none⟩ 1 fun v7 =>
 .exS fun a8 n8 c8 =>
 .isL v7 [.slice a8 n8 c8] <|
 .append 4 1 1 [.bool false] (some ⟨p6, 0, none⟩) 0 0 a8 n8 fun a9 n9 c9 =>
 .store ⟨p1, 11, none⟩ [.slice a9 n9 c9] <|
 .new 22 [] fun p10 =>
 .load ⟨p1, 12, none⟩ 1 fun v11 =>
 .exS fun a12 n12 c12 =>
 .isL v11 [.slice a12 n12 c12] <|
 .append 22 1 8 [.int .u64 0] (some ⟨p10, 0, none⟩) 0 0 a12 n12 fun a13 n13 c13 =>
 .store ⟨p1, 12, none⟩ [.slice a13 n13 c13] <|
 .new 22 [] fun p14 =>
 .load ⟨p1, 13, none⟩ 1 fun v15 =>
 .exS fun a16 n16 c16 =>
 .isL v15 [.slice a16 n16 c16] <|
 .append 22 1 8 [.int .u64 0] (some ⟨p14, 0, none⟩) 0 0 a16 n16 fun a17 n17 c17 =>
 .store ⟨p1, 13, none⟩ [.slice a17 n17 c17] <|
 .new 22 [] fun p18 =>
 .load ⟨p1, 14, none⟩ 1 fun v19 =>
 .exS fun a20 n20 c20 =>
 .isL v19 [.slice a20 n20 c20] <|
 .append 22 1 8 [.int .u64 0] (some ⟨p18, 0, none⟩) 0 0 a20 n20 fun a21 n21 c21 =>
 .store ⟨p1, 14, none⟩ [.slice a21 n21 c21] <|
 .new 62 [] fun p22 =>
 .load ⟨p1, 16, none⟩ 1 fun v23 =>
 .exS fun a24 n24 c24 =>
 .isL v23 [.slice a24 n24 c24] <|
 .append 62 3 24 [.int .u64 0, .int .u64 0, .int .u64 0] (some ⟨p22, 0, none⟩) 0 0 a24 n24 fun a25 n25 c25 =>
 .store ⟨p1, 16, none⟩ [.slice a25 n25 c25] <|
 .load ⟨p1, 0, none⟩ 17 fun v26 =>
 .exI fun i27 =>
 .exI fun i28 =>
 .exI fun i29 =>
 .exI fun i30 =>
 .exI fun i31 =>
 .exI fun i32 =>
 .exS fun a33 n33 c33 =>
 .exS fun a34 n34 c34 =>
 .exI fun i35 =>
 .exI fun i36 =>
 .exI fun i37 =>
 .exS fun a38 n38 c38 =>
 .exS fun a39 n39 c39 =>
 .exS fun a40 n40 c40 =>
 .exS fun a41 n41 c41 =>
 .exI fun i42 =>
 .exS fun a43 n43 c43 =>
 .isL v26 [.int .u64 i27, .int .i64 i28, .int .i64 i29, .int .i64 i30, .int .u64 i31, .int .u64 i32, .slice a33 n33 c33, .slice a34 n34 c34, .int .u64 i35, .int .i64 i36, .int .i64 i37, .slice a38 n38 c38, .slice a39 n39 c39, .slice a40 n40 c40, .slice a41 n41 c41, .int .u64 i42, .slice a43 n43 c43] <|
 .new 101 [.int .u64 i27, .int .i64 i28, .int .i64 i29, .int .i64 i30, .int .u64 i31, .int .u64 i32, .slice a33 n33 c33, .slice a34 n34 c34, .int .u64 i35, .int .i64 i36, .int .i64 i37, .slice a38 n38 c38, .slice a39 n39 c39, .slice a40 n40 c40, .slice a41 n41 c41, .int .u64 i42, .slice a43 n43 c43, .slice none 0 0, .slice none 0 0, .slice none 0 0] fun p44 =>
 .ret (.pointer (some ⟨p44, 0, none⟩))
theorem e69 (r0 : Int) (r1 : Int) (r2 : Int) (r3 : Int) (r4 : Int) (r5 : Int) (r6a : Option Addr) (r6n : Nat) (r6c : Nat) (r7a : Option Addr) (r7n : Nat) (r7c : Nat) (r8 : Int) (r9 : Int) (r10 : Int) (r11a : Option Addr) (r11n : Nat) (r11c : Nat) (r12a : Option Addr) (r12n : Nat) (r12c : Nat) (r13a : Option Addr) (r13n : Nat) (r13c : Nat) (r14a : Option Addr) (r14n : Nat) (r14c : Nat) (r15 : Int) (r16a : Option Addr) (r16n : Nat) (r16c : Nat) : genFn Try.prog noM noM Try.f69 [.agg #[.int .u64 r0, .int .i64 r1, .int .i64 r2, .int .i64 r3, .int .u64 r4, .int .u64 r5, .slice r6a r6n r6c, .slice r7a r7n r7c, .int .u64 r8, .int .i64 r9, .int .i64 r10, .slice r11a r11n r11c, .slice r12a r12n r12c, .slice r13a r13n r13c, .slice r14a r14n r14c, .int .u64 r15, .slice r16a r16n r16c]] = t69 r0 r1 r2 r3 r4 r5 r6a r6n r6c r7a r7n r7c r8 r9 r10 r11a r11n r11c r12a r12n r12c r13a r13n r13c r14a r14n r14c r15 r16a r16n r16c := by kernel_rfl
theorem r69 (r0 : Int) (r1 : Int) (r2 : Int) (r3 : Int) (r4 : Int) (r5 : Int) (r6a : Option Addr) (r6n : Nat) (r6c : Nat) (r7a : Option Addr) (r7n : Nat) (r7c : Nat) (r8 : Int) (r9 : Int) (r10 : Int) (r11a : Option Addr) (r11n : Nat) (r11c : Nat) (r12a : Option Addr) (r12n : Nat) (r12c : Nat) (r13a : Option Addr) (r13n : Nat) (r13c : Nat) (r14a : Option Addr) (r14n : Nat) (r14c : Nat) (r15 : Int) (r16a : Option Addr) (r16n : Nat) (r16c : Nat) {R : Value → World → Prop} {w : World} (h : (t69 r0 r1 r2 r3 r4 r5 r6a r6n r6c r7a r7n r7c r8 r9 r10 r11a r11n r11c r12a r12n r12c r13a r13n r13c r14a r14n r14c r15 r16a r16n r16c).wp Try.prog R (fun _ _ _ => False) w) : Runs Try.prog 69 [.agg #[.int .u64 r0, .int .i64 r1, .int .i64 r2, .int .i64 r3, .int .u64 r4, .int .u64 r5, .slice r6a r6n r6c, .slice r7a r7n r7c, .int .u64 r8, .int .i64 r9, .int .i64 r10, .slice r11a r11n r11c, .slice r12a r12n r12c, .slice r13a r13n r13c, .slice r14a r14n r14c, .int .u64 r15, .slice r16a r16n r16c]] w R :=
 genFn_runs mixed noM noM Try.func69 (by kernel_rfl) (by rw [e69]; exact h)
def lv70 : Marks := (fun | some 2 => some [(2, .int .i64 0)] | _ => none)
def t70 (s : Nat) : VC :=
 .load ⟨s, 15, none⟩ 1 fun v1 =>
 .exI fun i2 =>
 .isL v1 [.int .u64 i2] <|
 .store ⟨s, 15, none⟩ [.int .u64 (IntKind.u64.wrap (i2 + 1))] <|
 .loop 0 [.int .i64 1] (fun v3 =>
  .exI fun i4 =>
  .isL v3 [.int .i64 i4] <|
  .load ⟨s, 3, none⟩ 1 fun v5 =>
  .exI fun i6 =>
  .isL v5 [.int .i64 i6] <|
  bif (decide (i4 ≤ i6)) then
   (.load ⟨s, 2, none⟩ 1 fun v7 =>
   .exI fun i8 =>
   .isL v7 [.int .i64 i8] <|
   bif (i4 != i8) then
    (.call 104 ([.pointer (some ⟨s, 0, none⟩), .int .i64 i4]) fun v9 =>
    .isL [v9] [.tuple #[]] <|
    .again 0 [.int .i64 (IntKind.i64.wrap (i4 + 1))])
   else
   (.again 0 [.int .i64 (IntKind.i64.wrap (i4 + 1))]))
  else
  (.call 105 ([.pointer (some ⟨s, 0, none⟩)]) fun v10 =>
  .isL [v10] [.tuple #[]] <|
  .ret (.tuple #[])))
theorem e70 (s : Nat) : genFn Try.prog lv70 noM Try.f70 [.pointer (some ⟨s, 0, none⟩)] = t70 s := by kernel_rfl
theorem r70 (s : Nat) {R : Value → World → Prop} {w : World} (h : (t70 s).wp Try.prog R (fun _ _ _ => False) w) : Runs Try.prog 70 [.pointer (some ⟨s, 0, none⟩)] w R :=
 genFn_runs mixed lv70 noM Try.func70 (by kernel_rfl) (by rw [e70]; exact h)
def t71 (s : Nat) (term : Int) : VC :=
 .store ⟨s, 0, none⟩ [.int .u64 term, .int .i64 0] <|
 .store ⟨s, 9, none⟩ [.int .i64 0] <|
 .store ⟨s, 10, none⟩ [.int .i64 0] <|
 .call 60 ([.pointer (some ⟨s, 0, none⟩)]) fun v1 =>
 .isL [v1] [.tuple #[]] <|
 .call 61 ([.pointer (some ⟨s, 0, none⟩)]) fun v2 =>
 .isL [v2] [.tuple #[]] <|
 .ret (.tuple #[])
theorem e71 (s : Nat) (term : Int) : genFn Try.prog noM noM Try.f71 [.pointer (some ⟨s, 0, none⟩), .int .u64 term] = t71 s term := by kernel_rfl
theorem r71 (s : Nat) (term : Int) {R : Value → World → Prop} {w : World} (h : (t71 s term).wp Try.prog R (fun _ _ _ => False) w) : Runs Try.prog 71 [.pointer (some ⟨s, 0, none⟩), .int .u64 term] w R :=
 genFn_runs mixed noM noM Try.func71 (by kernel_rfl) (by rw [e71]; exact h)
def t72 (s : Nat) (m0 : Int) (m1 : Int) (m2 : Int) (m3 : Int) (m4 : Int) (m5 : Int) (m6a : Option Addr) (m6n : Nat) (m6c : Nat) (m7 : Int) (m8 : Int) (m9 : Bool) (m10 : Int) (m11 : Int) (m12a : Option Addr) (m12n : Nat) (m12c : Nat) (m13 : Int) (m14 : Int) (m15 : Int) (m16 : ByteArray) (m17 : ByteArray) (m18 : Int) (m19 : Int) (m20 : ByteArray) : VC :=
 .new 70 [.int .i64 m0, .int .i64 m1, .int .i64 m2, .int .u64 m3, .int .u64 m4, .int .u64 m5, .slice m6a m6n m6c, .int .u64 m7, .int .u64 m8, .bool m9, .int .u64 m10, .int .u64 m11, .slice m12a m12n m12c, .int .i64 m13, .int .i64 m14, .int .u64 m15, .string m16, .string m17, .int .u64 m18, .int .i64 m19, .string m20] fun p1 =>
 .load ⟨s, 0, none⟩ 17 fun v2 =>
 .exI fun i3 =>
 .exI fun i4 =>
 .exI fun i5 =>
 .exI fun i6 =>
 .exI fun i7 =>
 .exI fun i8 =>
 .exS fun a9 n9 c9 =>
 .exS fun a10 n10 c10 =>
 .exI fun i11 =>
 .exI fun i12 =>
 .exI fun i13 =>
 .exS fun a14 n14 c14 =>
 .exS fun a15 n15 c15 =>
 .exS fun a16 n16 c16 =>
 .exS fun a17 n17 c17 =>
 .exI fun i18 =>
 .exS fun a19 n19 c19 =>
 .isL v2 [.int .u64 i3, .int .i64 i4, .int .i64 i5, .int .i64 i6, .int .u64 i7, .int .u64 i8, .slice a9 n9 c9, .slice a10 n10 c10, .int .u64 i11, .int .i64 i12, .int .i64 i13, .slice a14 n14 c14, .slice a15 n15 c15, .slice a16 n16 c16, .slice a17 n17 c17, .int .u64 i18, .slice a19 n19 c19] <|
 .call 25 ([.agg #[.int .u64 i3, .int .i64 i4, .int .i64 i5, .int .i64 i6, .int .u64 i7, .int .u64 i8, .slice a9 n9 c9, .slice a10 n10 c10, .int .u64 i11, .int .i64 i12, .int .i64 i13, .slice a14 n14 c14, .slice a15 n15 c15, .slice a16 n16 c16, .slice a17 n17 c17, .int .u64 i18, .slice a19 n19 c19]]) fun v20 =>
 .exI fun i21 =>
 .exI fun i22 =>
 .isL [v20] [.tuple #[.int .u64 i21, .int .u64 i22]] <|
 .load ⟨p1, 5, none⟩ 1 fun v23 =>
 .exI fun i24 =>
 .isL v23 [.int .u64 i24] <|
 bif (decide (i24 > i22)) then
  (.draw <|
  .load ⟨p1, 3, none⟩ 1 fun v25 =>
  .exI fun i26 =>
  .isL v25 [.int .u64 i26] <|
  .load ⟨s, 0, none⟩ 1 fun v27 =>
  .exI fun i28 =>
  .isL v27 [.int .u64 i28] <|
  bif (i26 == i28) then
   (.load ⟨s, 1, none⟩ 1 fun v29 =>
   .exI fun i30 =>
   .isL v29 [.int .i64 i30] <|
   bif (i30 == 0) then
    (.load ⟨s, 1, none⟩ 1 fun v31 =>
    .exI fun i32 =>
    .isL v31 [.int .i64 i32] <|
    bif (i32 == 0) then
     (.load ⟨p1, 1, none⟩ 1 fun v33 =>
     .exI fun i34 =>
     .isL v33 [.int .i64 i34] <|
     .store ⟨s, 1, none⟩ [.int .i64 i34] <|
     .call 61 ([.pointer (some ⟨s, 0, none⟩)]) fun v35 =>
     .isL [v35] [.tuple #[]] <|
     .load ⟨p1, 1, none⟩ 1 fun v36 =>
     .exI fun i37 =>
     .isL v36 [.int .i64 i37] <|
     .new 70 [.int .i64 2, .int .i64 0, .int .i64 i37, .int .u64 0, .int .u64 0, .int .u64 0, .slice none 0 0, .int .u64 0, .int .u64 0, .bool true, .int .u64 0, .int .u64 0, .slice none 0 0, .int .i64 0, .int .i64 0, .int .u64 0, .string ({ data := #[] }), .string ({ data := #[] }), .int .u64 0, .int .i64 0, .string ({ data := #[] })] fun p38 =>
     .call 64 ([.pointer (some ⟨s, 0, none⟩), .slice (some ⟨p38, 0, none⟩) 1 1]) fun v39 =>
     .isL [v39] [.tuple #[]] <|
     .ret (.tuple #[]))
    else
    (.load ⟨p1, 1, none⟩ 1 fun v40 =>
    .exI fun i41 =>
    .isL v40 [.int .i64 i41] <|
    .new 70 [.int .i64 2, .int .i64 0, .int .i64 i41, .int .u64 0, .int .u64 0, .int .u64 0, .slice none 0 0, .int .u64 0, .int .u64 0, .bool true, .int .u64 0, .int .u64 0, .slice none 0 0, .int .i64 0, .int .i64 0, .int .u64 0, .string ({ data := #[] }), .string ({ data := #[] }), .int .u64 0, .int .i64 0, .string ({ data := #[] })] fun p42 =>
    .call 64 ([.pointer (some ⟨s, 0, none⟩), .slice (some ⟨p42, 0, none⟩) 1 1]) fun v43 =>
    .isL [v43] [.tuple #[]] <|
    .ret (.tuple #[])))
   else
   (.load ⟨s, 1, none⟩ 1 fun v44 =>
   .exI fun i45 =>
   .isL v44 [.int .i64 i45] <|
   .load ⟨p1, 1, none⟩ 1 fun v46 =>
   .exI fun i47 =>
   .isL v46 [.int .i64 i47] <|
   bif (i45 == i47) then
    (.load ⟨s, 1, none⟩ 1 fun v48 =>
    .exI fun i49 =>
    .isL v48 [.int .i64 i49] <|
    bif (i49 == 0) then
     (.load ⟨p1, 1, none⟩ 1 fun v50 =>
     .exI fun i51 =>
     .isL v50 [.int .i64 i51] <|
     .store ⟨s, 1, none⟩ [.int .i64 i51] <|
     .call 61 ([.pointer (some ⟨s, 0, none⟩)]) fun v52 =>
     .isL [v52] [.tuple #[]] <|
     .load ⟨p1, 1, none⟩ 1 fun v53 =>
     .exI fun i54 =>
     .isL v53 [.int .i64 i54] <|
     .new 70 [.int .i64 2, .int .i64 0, .int .i64 i54, .int .u64 0, .int .u64 0, .int .u64 0, .slice none 0 0, .int .u64 0, .int .u64 0, .bool true, .int .u64 0, .int .u64 0, .slice none 0 0, .int .i64 0, .int .i64 0, .int .u64 0, .string ({ data := #[] }), .string ({ data := #[] }), .int .u64 0, .int .i64 0, .string ({ data := #[] })] fun p55 =>
     .call 64 ([.pointer (some ⟨s, 0, none⟩), .slice (some ⟨p55, 0, none⟩) 1 1]) fun v56 =>
     .isL [v56] [.tuple #[]] <|
     .ret (.tuple #[]))
    else
    (.load ⟨p1, 1, none⟩ 1 fun v57 =>
    .exI fun i58 =>
    .isL v57 [.int .i64 i58] <|
    .new 70 [.int .i64 2, .int .i64 0, .int .i64 i58, .int .u64 0, .int .u64 0, .int .u64 0, .slice none 0 0, .int .u64 0, .int .u64 0, .bool true, .int .u64 0, .int .u64 0, .slice none 0 0, .int .i64 0, .int .i64 0, .int .u64 0, .string ({ data := #[] }), .string ({ data := #[] }), .int .u64 0, .int .i64 0, .string ({ data := #[] })] fun p59 =>
    .call 64 ([.pointer (some ⟨s, 0, none⟩), .slice (some ⟨p59, 0, none⟩) 1 1]) fun v60 =>
    .isL [v60] [.tuple #[]] <|
    .ret (.tuple #[])))
   else
   (.load ⟨p1, 1, none⟩ 1 fun v61 =>
   .exI fun i62 =>
   .isL v61 [.int .i64 i62] <|
   .new 70 [.int .i64 2, .int .i64 0, .int .i64 i62, .int .u64 0, .int .u64 0, .int .u64 0, .slice none 0 0, .int .u64 0, .int .u64 0, .bool false, .int .u64 0, .int .u64 0, .slice none 0 0, .int .i64 0, .int .i64 0, .int .u64 0, .string ({ data := #[] }), .string ({ data := #[] }), .int .u64 0, .int .i64 0, .string ({ data := #[] })] fun p63 =>
   .call 64 ([.pointer (some ⟨s, 0, none⟩), .slice (some ⟨p63, 0, none⟩) 1 1]) fun v64 =>
   .isL [v64] [.tuple #[]] <|
   .ret (.tuple #[]))))
  else
  (.load ⟨p1, 1, none⟩ 1 fun v65 =>
  .exI fun i66 =>
  .isL v65 [.int .i64 i66] <|
  .new 70 [.int .i64 2, .int .i64 0, .int .i64 i66, .int .u64 0, .int .u64 0, .int .u64 0, .slice none 0 0, .int .u64 0, .int .u64 0, .bool false, .int .u64 0, .int .u64 0, .slice none 0 0, .int .i64 0, .int .i64 0, .int .u64 0, .string ({ data := #[] }), .string ({ data := #[] }), .int .u64 0, .int .i64 0, .string ({ data := #[] })] fun p67 =>
  .call 64 ([.pointer (some ⟨s, 0, none⟩), .slice (some ⟨p67, 0, none⟩) 1 1]) fun v68 =>
  .isL [v68] [.tuple #[]] <|
  .ret (.tuple #[])))
 else
 (.load ⟨p1, 5, none⟩ 1 fun v69 =>
 .exI fun i70 =>
 .isL v69 [.int .u64 i70] <|
 bif (i70 == i22) then
  (.load ⟨p1, 4, none⟩ 1 fun v71 =>
  .exI fun i72 =>
  .isL v71 [.int .u64 i72] <|
  .draw <|
  .load ⟨p1, 3, none⟩ 1 fun v73 =>
  .exI fun i74 =>
  .isL v73 [.int .u64 i74] <|
  .load ⟨s, 0, none⟩ 1 fun v75 =>
  .exI fun i76 =>
  .isL v75 [.int .u64 i76] <|
  bif (i74 == i76) then
   (.load ⟨s, 1, none⟩ 1 fun v77 =>
   .exI fun i78 =>
   .isL v77 [.int .i64 i78] <|
   bif (i78 == 0) then
    (bif (decide (i72 ≥ i21)) then
     (.load ⟨s, 1, none⟩ 1 fun v79 =>
     .exI fun i80 =>
     .isL v79 [.int .i64 i80] <|
     bif (i80 == 0) then
      (.load ⟨p1, 1, none⟩ 1 fun v81 =>
      .exI fun i82 =>
      .isL v81 [.int .i64 i82] <|
      .store ⟨s, 1, none⟩ [.int .i64 i82] <|
      .call 61 ([.pointer (some ⟨s, 0, none⟩)]) fun v83 =>
      .isL [v83] [.tuple #[]] <|
      .load ⟨p1, 1, none⟩ 1 fun v84 =>
      .exI fun i85 =>
      .isL v84 [.int .i64 i85] <|
      .new 70 [.int .i64 2, .int .i64 0, .int .i64 i85, .int .u64 0, .int .u64 0, .int .u64 0, .slice none 0 0, .int .u64 0, .int .u64 0, .bool (decide (i72 ≥ i21)), .int .u64 0, .int .u64 0, .slice none 0 0, .int .i64 0, .int .i64 0, .int .u64 0, .string ({ data := #[] }), .string ({ data := #[] }), .int .u64 0, .int .i64 0, .string ({ data := #[] })] fun p86 =>
      .call 64 ([.pointer (some ⟨s, 0, none⟩), .slice (some ⟨p86, 0, none⟩) 1 1]) fun v87 =>
      .isL [v87] [.tuple #[]] <|
      .ret (.tuple #[]))
     else
     (.load ⟨p1, 1, none⟩ 1 fun v88 =>
     .exI fun i89 =>
     .isL v88 [.int .i64 i89] <|
     .new 70 [.int .i64 2, .int .i64 0, .int .i64 i89, .int .u64 0, .int .u64 0, .int .u64 0, .slice none 0 0, .int .u64 0, .int .u64 0, .bool (decide (i72 ≥ i21)), .int .u64 0, .int .u64 0, .slice none 0 0, .int .i64 0, .int .i64 0, .int .u64 0, .string ({ data := #[] }), .string ({ data := #[] }), .int .u64 0, .int .i64 0, .string ({ data := #[] })] fun p90 =>
     .call 64 ([.pointer (some ⟨s, 0, none⟩), .slice (some ⟨p90, 0, none⟩) 1 1]) fun v91 =>
     .isL [v91] [.tuple #[]] <|
     .ret (.tuple #[])))
    else
    (.load ⟨p1, 1, none⟩ 1 fun v92 =>
    .exI fun i93 =>
    .isL v92 [.int .i64 i93] <|
    .new 70 [.int .i64 2, .int .i64 0, .int .i64 i93, .int .u64 0, .int .u64 0, .int .u64 0, .slice none 0 0, .int .u64 0, .int .u64 0, .bool (decide (i72 ≥ i21)), .int .u64 0, .int .u64 0, .slice none 0 0, .int .i64 0, .int .i64 0, .int .u64 0, .string ({ data := #[] }), .string ({ data := #[] }), .int .u64 0, .int .i64 0, .string ({ data := #[] })] fun p94 =>
    .call 64 ([.pointer (some ⟨s, 0, none⟩), .slice (some ⟨p94, 0, none⟩) 1 1]) fun v95 =>
    .isL [v95] [.tuple #[]] <|
    .ret (.tuple #[])))
   else
   (.load ⟨s, 1, none⟩ 1 fun v96 =>
   .exI fun i97 =>
   .isL v96 [.int .i64 i97] <|
   .load ⟨p1, 1, none⟩ 1 fun v98 =>
   .exI fun i99 =>
   .isL v98 [.int .i64 i99] <|
   bif (i97 == i99) then
    (bif (decide (i72 ≥ i21)) then
     (.load ⟨s, 1, none⟩ 1 fun v100 =>
     .exI fun i101 =>
     .isL v100 [.int .i64 i101] <|
     bif (i101 == 0) then
      (.load ⟨p1, 1, none⟩ 1 fun v102 =>
      .exI fun i103 =>
      .isL v102 [.int .i64 i103] <|
      .store ⟨s, 1, none⟩ [.int .i64 i103] <|
      .call 61 ([.pointer (some ⟨s, 0, none⟩)]) fun v104 =>
      .isL [v104] [.tuple #[]] <|
      .load ⟨p1, 1, none⟩ 1 fun v105 =>
      .exI fun i106 =>
      .isL v105 [.int .i64 i106] <|
      .new 70 [.int .i64 2, .int .i64 0, .int .i64 i106, .int .u64 0, .int .u64 0, .int .u64 0, .slice none 0 0, .int .u64 0, .int .u64 0, .bool (decide (i72 ≥ i21)), .int .u64 0, .int .u64 0, .slice none 0 0, .int .i64 0, .int .i64 0, .int .u64 0, .string ({ data := #[] }), .string ({ data := #[] }), .int .u64 0, .int .i64 0, .string ({ data := #[] })] fun p107 =>
      .call 64 ([.pointer (some ⟨s, 0, none⟩), .slice (some ⟨p107, 0, none⟩) 1 1]) fun v108 =>
      .isL [v108] [.tuple #[]] <|
      .ret (.tuple #[]))
     else
     (.load ⟨p1, 1, none⟩ 1 fun v109 =>
     .exI fun i110 =>
     .isL v109 [.int .i64 i110] <|
     .new 70 [.int .i64 2, .int .i64 0, .int .i64 i110, .int .u64 0, .int .u64 0, .int .u64 0, .slice none 0 0, .int .u64 0, .int .u64 0, .bool (decide (i72 ≥ i21)), .int .u64 0, .int .u64 0, .slice none 0 0, .int .i64 0, .int .i64 0, .int .u64 0, .string ({ data := #[] }), .string ({ data := #[] }), .int .u64 0, .int .i64 0, .string ({ data := #[] })] fun p111 =>
     .call 64 ([.pointer (some ⟨s, 0, none⟩), .slice (some ⟨p111, 0, none⟩) 1 1]) fun v112 =>
     .isL [v112] [.tuple #[]] <|
     .ret (.tuple #[])))
    else
    (.load ⟨p1, 1, none⟩ 1 fun v113 =>
    .exI fun i114 =>
    .isL v113 [.int .i64 i114] <|
    .new 70 [.int .i64 2, .int .i64 0, .int .i64 i114, .int .u64 0, .int .u64 0, .int .u64 0, .slice none 0 0, .int .u64 0, .int .u64 0, .bool (decide (i72 ≥ i21)), .int .u64 0, .int .u64 0, .slice none 0 0, .int .i64 0, .int .i64 0, .int .u64 0, .string ({ data := #[] }), .string ({ data := #[] }), .int .u64 0, .int .i64 0, .string ({ data := #[] })] fun p115 =>
    .call 64 ([.pointer (some ⟨s, 0, none⟩), .slice (some ⟨p115, 0, none⟩) 1 1]) fun v116 =>
    .isL [v116] [.tuple #[]] <|
    .ret (.tuple #[])))
   else
   (.load ⟨p1, 1, none⟩ 1 fun v117 =>
   .exI fun i118 =>
   .isL v117 [.int .i64 i118] <|
   .new 70 [.int .i64 2, .int .i64 0, .int .i64 i118, .int .u64 0, .int .u64 0, .int .u64 0, .slice none 0 0, .int .u64 0, .int .u64 0, .bool false, .int .u64 0, .int .u64 0, .slice none 0 0, .int .i64 0, .int .i64 0, .int .u64 0, .string ({ data := #[] }), .string ({ data := #[] }), .int .u64 0, .int .i64 0, .string ({ data := #[] })] fun p119 =>
   .call 64 ([.pointer (some ⟨s, 0, none⟩), .slice (some ⟨p119, 0, none⟩) 1 1]) fun v120 =>
   .isL [v120] [.tuple #[]] <|
   .ret (.tuple #[]))))
  else
  (.load ⟨p1, 1, none⟩ 1 fun v121 =>
  .exI fun i122 =>
  .isL v121 [.int .i64 i122] <|
  .new 70 [.int .i64 2, .int .i64 0, .int .i64 i122, .int .u64 0, .int .u64 0, .int .u64 0, .slice none 0 0, .int .u64 0, .int .u64 0, .bool false, .int .u64 0, .int .u64 0, .slice none 0 0, .int .i64 0, .int .i64 0, .int .u64 0, .string ({ data := #[] }), .string ({ data := #[] }), .int .u64 0, .int .i64 0, .string ({ data := #[] })] fun p123 =>
  .call 64 ([.pointer (some ⟨s, 0, none⟩), .slice (some ⟨p123, 0, none⟩) 1 1]) fun v124 =>
  .isL [v124] [.tuple #[]] <|
  .ret (.tuple #[])))
 else
 (.draw <|
 .load ⟨p1, 3, none⟩ 1 fun v125 =>
 .exI fun i126 =>
 .isL v125 [.int .u64 i126] <|
 .load ⟨s, 0, none⟩ 1 fun v127 =>
 .exI fun i128 =>
 .isL v127 [.int .u64 i128] <|
 bif (i126 == i128) then
  (.load ⟨s, 1, none⟩ 1 fun v129 =>
  .exI fun i130 =>
  .isL v129 [.int .i64 i130] <|
  bif (i130 == 0) then
   (.load ⟨p1, 1, none⟩ 1 fun v131 =>
   .exI fun i132 =>
   .isL v131 [.int .i64 i132] <|
   .new 70 [.int .i64 2, .int .i64 0, .int .i64 i132, .int .u64 0, .int .u64 0, .int .u64 0, .slice none 0 0, .int .u64 0, .int .u64 0, .bool false, .int .u64 0, .int .u64 0, .slice none 0 0, .int .i64 0, .int .i64 0, .int .u64 0, .string ({ data := #[] }), .string ({ data := #[] }), .int .u64 0, .int .i64 0, .string ({ data := #[] })] fun p133 =>
   .call 64 ([.pointer (some ⟨s, 0, none⟩), .slice (some ⟨p133, 0, none⟩) 1 1]) fun v134 =>
   .isL [v134] [.tuple #[]] <|
   .ret (.tuple #[]))
  else
  (.load ⟨s, 1, none⟩ 1 fun v135 =>
  .exI fun i136 =>
  .isL v135 [.int .i64 i136] <|
  .load ⟨p1, 1, none⟩ 1 fun v137 =>
  .exI fun i138 =>
  .isL v137 [.int .i64 i138] <|
  bif (i136 == i138) then
   (.load ⟨p1, 1, none⟩ 1 fun v139 =>
   .exI fun i140 =>
   .isL v139 [.int .i64 i140] <|
   .new 70 [.int .i64 2, .int .i64 0, .int .i64 i140, .int .u64 0, .int .u64 0, .int .u64 0, .slice none 0 0, .int .u64 0, .int .u64 0, .bool false, .int .u64 0, .int .u64 0, .slice none 0 0, .int .i64 0, .int .i64 0, .int .u64 0, .string ({ data := #[] }), .string ({ data := #[] }), .int .u64 0, .int .i64 0, .string ({ data := #[] })] fun p141 =>
   .call 64 ([.pointer (some ⟨s, 0, none⟩), .slice (some ⟨p141, 0, none⟩) 1 1]) fun v142 =>
   .isL [v142] [.tuple #[]] <|
   .ret (.tuple #[]))
  else
  (.load ⟨p1, 1, none⟩ 1 fun v143 =>
  .exI fun i144 =>
  .isL v143 [.int .i64 i144] <|
  .new 70 [.int .i64 2, .int .i64 0, .int .i64 i144, .int .u64 0, .int .u64 0, .int .u64 0, .slice none 0 0, .int .u64 0, .int .u64 0, .bool false, .int .u64 0, .int .u64 0, .slice none 0 0, .int .i64 0, .int .i64 0, .int .u64 0, .string ({ data := #[] }), .string ({ data := #[] }), .int .u64 0, .int .i64 0, .string ({ data := #[] })] fun p145 =>
  .call 64 ([.pointer (some ⟨s, 0, none⟩), .slice (some ⟨p145, 0, none⟩) 1 1]) fun v146 =>
  .isL [v146] [.tuple #[]] <|
  .ret (.tuple #[]))))
 else
 (.load ⟨p1, 1, none⟩ 1 fun v147 =>
 .exI fun i148 =>
 .isL v147 [.int .i64 i148] <|
 .new 70 [.int .i64 2, .int .i64 0, .int .i64 i148, .int .u64 0, .int .u64 0, .int .u64 0, .slice none 0 0, .int .u64 0, .int .u64 0, .bool false, .int .u64 0, .int .u64 0, .slice none 0 0, .int .i64 0, .int .i64 0, .int .u64 0, .string ({ data := #[] }), .string ({ data := #[] }), .int .u64 0, .int .i64 0, .string ({ data := #[] })] fun p149 =>
 .call 64 ([.pointer (some ⟨s, 0, none⟩), .slice (some ⟨p149, 0, none⟩) 1 1]) fun v150 =>
 .isL [v150] [.tuple #[]] <|
 .ret (.tuple #[]))))
theorem e72 (s : Nat) (m0 : Int) (m1 : Int) (m2 : Int) (m3 : Int) (m4 : Int) (m5 : Int) (m6a : Option Addr) (m6n : Nat) (m6c : Nat) (m7 : Int) (m8 : Int) (m9 : Bool) (m10 : Int) (m11 : Int) (m12a : Option Addr) (m12n : Nat) (m12c : Nat) (m13 : Int) (m14 : Int) (m15 : Int) (m16 : ByteArray) (m17 : ByteArray) (m18 : Int) (m19 : Int) (m20 : ByteArray) : genFn Try.prog noM noM Try.f72 [.pointer (some ⟨s, 0, none⟩), .agg #[.int .i64 m0, .int .i64 m1, .int .i64 m2, .int .u64 m3, .int .u64 m4, .int .u64 m5, .slice m6a m6n m6c, .int .u64 m7, .int .u64 m8, .bool m9, .int .u64 m10, .int .u64 m11, .slice m12a m12n m12c, .int .i64 m13, .int .i64 m14, .int .u64 m15, .string m16, .string m17, .int .u64 m18, .int .i64 m19, .string m20]] = t72 s m0 m1 m2 m3 m4 m5 m6a m6n m6c m7 m8 m9 m10 m11 m12a m12n m12c m13 m14 m15 m16 m17 m18 m19 m20 := by kernel_rfl
theorem r72 (s : Nat) (m0 : Int) (m1 : Int) (m2 : Int) (m3 : Int) (m4 : Int) (m5 : Int) (m6a : Option Addr) (m6n : Nat) (m6c : Nat) (m7 : Int) (m8 : Int) (m9 : Bool) (m10 : Int) (m11 : Int) (m12a : Option Addr) (m12n : Nat) (m12c : Nat) (m13 : Int) (m14 : Int) (m15 : Int) (m16 : ByteArray) (m17 : ByteArray) (m18 : Int) (m19 : Int) (m20 : ByteArray) {R : Value → World → Prop} {w : World} (h : (t72 s m0 m1 m2 m3 m4 m5 m6a m6n m6c m7 m8 m9 m10 m11 m12a m12n m12c m13 m14 m15 m16 m17 m18 m19 m20).wp Try.prog R (fun _ _ _ => False) w) : Runs Try.prog 72 [.pointer (some ⟨s, 0, none⟩), .agg #[.int .i64 m0, .int .i64 m1, .int .i64 m2, .int .u64 m3, .int .u64 m4, .int .u64 m5, .slice m6a m6n m6c, .int .u64 m7, .int .u64 m8, .bool m9, .int .u64 m10, .int .u64 m11, .slice m12a m12n m12c, .int .i64 m13, .int .i64 m14, .int .u64 m15, .string m16, .string m17, .int .u64 m18, .int .i64 m19, .string m20]] w R :=
 genFn_runs mixed noM noM Try.func72 (by kernel_rfl) (by rw [e72]; exact h)
def t73 (s : Nat) (m0 : Int) (m1 : Int) (m2 : Int) (m3 : Int) (m4 : Int) (m5 : Int) (m6a : Option Addr) (m6n : Nat) (m6c : Nat) (m7 : Int) (m8 : Int) (m9 : Bool) (m10 : Int) (m11 : Int) (m12a : Option Addr) (m12n : Nat) (m12c : Nat) (m13 : Int) (m14 : Int) (m15 : Int) (m16 : ByteArray) (m17 : ByteArray) (m18 : Int) (m19 : Int) (m20 : ByteArray) : VC :=
 .new 70 [.int .i64 m0, .int .i64 m1, .int .i64 m2, .int .u64 m3, .int .u64 m4, .int .u64 m5, .slice m6a m6n m6c, .int .u64 m7, .int .u64 m8, .bool m9, .int .u64 m10, .int .u64 m11, .slice m12a m12n m12c, .int .i64 m13, .int .i64 m14, .int .u64 m15, .string m16, .string m17, .int .u64 m18, .int .i64 m19, .string m20] fun p1 =>
 .draw <|
 .load ⟨s, 9, none⟩ 1 fun v2 =>
 .exI fun i3 =>
 .isL v2 [.int .i64 i3] <|
 bif (i3 == 1) then
  (.load ⟨p1, 3, none⟩ 1 fun v4 =>
  .exI fun i5 =>
  .isL v4 [.int .u64 i5] <|
  .load ⟨s, 0, none⟩ 1 fun v6 =>
  .exI fun i7 =>
  .isL v6 [.int .u64 i7] <|
  bif (i5 == i7) then
   (.load ⟨p1, 9, none⟩ 1 fun v8 =>
   .exB fun b9 =>
   .isL v8 [.bool b9] <|
   bif b9 then
    (.draw <|
    .load ⟨s, 11, none⟩ 1 fun v10 =>
    .exS fun a11 n11 c11 =>
    .isL v10 [.slice a11 n11 c11] <|
    .load ⟨p1, 1, none⟩ 1 fun v12 =>
    .exI fun i13 =>
    .isL v12 [.int .i64 i13] <|
    .some a11 fun x14 =>
    .need ((0 : Int) ≤ IntKind.i64.wrap (i13 - 1) ∧ IntKind.i64.wrap (i13 - 1) < (↑n11 : Int)) <|
    .store (x14.add ((IntKind.i64.wrap (i13 - 1)).toNat * 1)) [.bool true] <|
    .call 62 ([.pointer (some ⟨s, 0, none⟩)]) fun v15 =>
    .isL [v15] [.tuple #[]] <|
    .ret (.tuple #[]))
   else
   (.ret (.tuple #[])))
  else
  (.ret (.tuple #[])))
 else
 (.ret (.tuple #[]))
theorem e73 (s : Nat) (m0 : Int) (m1 : Int) (m2 : Int) (m3 : Int) (m4 : Int) (m5 : Int) (m6a : Option Addr) (m6n : Nat) (m6c : Nat) (m7 : Int) (m8 : Int) (m9 : Bool) (m10 : Int) (m11 : Int) (m12a : Option Addr) (m12n : Nat) (m12c : Nat) (m13 : Int) (m14 : Int) (m15 : Int) (m16 : ByteArray) (m17 : ByteArray) (m18 : Int) (m19 : Int) (m20 : ByteArray) : genFn Try.prog noM noM Try.f73 [.pointer (some ⟨s, 0, none⟩), .agg #[.int .i64 m0, .int .i64 m1, .int .i64 m2, .int .u64 m3, .int .u64 m4, .int .u64 m5, .slice m6a m6n m6c, .int .u64 m7, .int .u64 m8, .bool m9, .int .u64 m10, .int .u64 m11, .slice m12a m12n m12c, .int .i64 m13, .int .i64 m14, .int .u64 m15, .string m16, .string m17, .int .u64 m18, .int .i64 m19, .string m20]] = t73 s m0 m1 m2 m3 m4 m5 m6a m6n m6c m7 m8 m9 m10 m11 m12a m12n m12c m13 m14 m15 m16 m17 m18 m19 m20 := by kernel_rfl
theorem r73 (s : Nat) (m0 : Int) (m1 : Int) (m2 : Int) (m3 : Int) (m4 : Int) (m5 : Int) (m6a : Option Addr) (m6n : Nat) (m6c : Nat) (m7 : Int) (m8 : Int) (m9 : Bool) (m10 : Int) (m11 : Int) (m12a : Option Addr) (m12n : Nat) (m12c : Nat) (m13 : Int) (m14 : Int) (m15 : Int) (m16 : ByteArray) (m17 : ByteArray) (m18 : Int) (m19 : Int) (m20 : ByteArray) {R : Value → World → Prop} {w : World} (h : (t73 s m0 m1 m2 m3 m4 m5 m6a m6n m6c m7 m8 m9 m10 m11 m12a m12n m12c m13 m14 m15 m16 m17 m18 m19 m20).wp Try.prog R (fun _ _ _ => False) w) : Runs Try.prog 73 [.pointer (some ⟨s, 0, none⟩), .agg #[.int .i64 m0, .int .i64 m1, .int .i64 m2, .int .u64 m3, .int .u64 m4, .int .u64 m5, .slice m6a m6n m6c, .int .u64 m7, .int .u64 m8, .bool m9, .int .u64 m10, .int .u64 m11, .slice m12a m12n m12c, .int .i64 m13, .int .i64 m14, .int .u64 m15, .string m16, .string m17, .int .u64 m18, .int .i64 m19, .string m20]] w R :=
 genFn_runs mixed noM noM Try.func73 (by kernel_rfl) (by rw [e73]; exact h)
def lv94 : Marks := (fun | some 3 => some [(9, .int .i64 0)] | _ => none)
def t94 (la : Option Addr) (ln : Nat) (lc : Nat) : VC :=
 .call 110 ([.slice la ln lc]) fun v1 =>
 .exS fun a2 n2 c2 =>
 .isL [v1] [.slice a2 n2 c2] <|
 .loop 0 [.int .i64 0] (fun v3 =>
  .exI fun i4 =>
  .isL v3 [.int .i64 i4] <|
  bif (decide (i4 < (↑n2 : Int))) then
   (.some a2 fun x5 =>
   .need ((0 : Int) ≤ i4 ∧ i4 < (↑n2 : Int)) <|
   .load ((x5.add (i4.toNat * 2)).add 1) 1 fun v6 =>
   .exS fun a7 n7 c7 =>
   .isL v6 [.slice a7 n7 c7] <|
   .call 54 ([.slice a7 n7 c7]) fun v8 =>
   .exS fun a9 n9 c9 =>
   .isL [v8] [.slice a9 n9 c9] <|
   .some a2 fun x10 =>
   .need ((0 : Int) ≤ i4 ∧ i4 < (↑n2 : Int)) <|
   .store ((x10.add (i4.toNat * 2)).add 1) [.slice a9 n9 c9] <|
   .again 0 [.int .i64 (IntKind.i64.wrap (i4 + 1))])
  else
  (.ret (.slice a2 n2 c2)))
theorem e94 (la : Option Addr) (ln : Nat) (lc : Nat) : genFn Try.prog lv94 noM Try.f94 [.slice la ln lc] = t94 la ln lc := by kernel_rfl
theorem r94 (la : Option Addr) (ln : Nat) (lc : Nat) {R : Value → World → Prop} {w : World} (h : (t94 la ln lc).wp Try.prog R (fun _ _ _ => False) w) : Runs Try.prog 94 [.slice la ln lc] w R :=
 genFn_runs mixed lv94 noM Try.func94 (by kernel_rfl) (by rw [e94]; exact h)
def t95 (sa : Option Addr) (sn : Nat) (sc : Nat) : VC :=
 bif sa.isNone then
  (.ret (.slice none 0 0))
 else
 (.new 4 [] fun p1 =>
 .append 4 1 1 [.bool false] (some ⟨p1, 0, none⟩) 0 0 sa sn fun a2 n2 c2 =>
 .ret (.slice a2 n2 c2))
theorem e95 (sa : Option Addr) (sn : Nat) (sc : Nat) : genFn Try.prog noM noM Try.f95 [.slice sa sn sc] = t95 sa sn sc := by kernel_rfl
theorem r95 (sa : Option Addr) (sn : Nat) (sc : Nat) {R : Value → World → Prop} {w : World} (h : (t95 sa sn sc).wp Try.prog R (fun _ _ _ => False) w) : Runs Try.prog 95 [.slice sa sn sc] w R :=
 genFn_runs mixed noM noM Try.func95 (by kernel_rfl) (by rw [e95]; exact h)
def t96 (sa : Option Addr) (sn : Nat) (sc : Nat) : VC :=
 bif sa.isNone then
  (.ret (.slice none 0 0))
 else
 (.new 22 [] fun p1 =>
 .append 22 1 8 [.int .u64 0] (some ⟨p1, 0, none⟩) 0 0 sa sn fun a2 n2 c2 =>
 .ret (.slice a2 n2 c2))
theorem e96 (sa : Option Addr) (sn : Nat) (sc : Nat) : genFn Try.prog noM noM Try.f96 [.slice sa sn sc] = t96 sa sn sc := by kernel_rfl
theorem r96 (sa : Option Addr) (sn : Nat) (sc : Nat) {R : Value → World → Prop} {w : World} (h : (t96 sa sn sc).wp Try.prog R (fun _ _ _ => False) w) : Runs Try.prog 96 [.slice sa sn sc] w R :=
 genFn_runs mixed noM noM Try.func96 (by kernel_rfl) (by rw [e96]; exact h)
def t97 (sa : Option Addr) (sn : Nat) (sc : Nat) : VC :=
 bif sa.isNone then
  (.ret (.slice none 0 0))
 else
 (.new 62 [] fun p1 =>
 .append 62 3 24 [.int .u64 0, .int .u64 0, .int .u64 0] (some ⟨p1, 0, none⟩) 0 0 sa sn fun a2 n2 c2 =>
 .ret (.slice a2 n2 c2))
theorem e97 (sa : Option Addr) (sn : Nat) (sc : Nat) : genFn Try.prog noM noM Try.f97 [.slice sa sn sc] = t97 sa sn sc := by kernel_rfl
theorem r97 (sa : Option Addr) (sn : Nat) (sc : Nat) {R : Value → World → Prop} {w : World} (h : (t97 sa sn sc).wp Try.prog R (fun _ _ _ => False) w) : Runs Try.prog 97 [.slice sa sn sc] w R :=
 genFn_runs mixed noM noM Try.func97 (by kernel_rfl) (by rw [e97]; exact h)
def lv98 : Marks := (fun | some 5 => some [(7, .int .i64 0), (14, .int .i64 0)] | _ => none)
def t98 (s : Nat) (own : Bool) (hasf : Nat) (hasc : Array Value) : VC :=
 bif own then
  (.call 63 ([.pointer (some ⟨s, 0, none⟩)]) fun v1 =>
  .exS fun a2 n2 c2 =>
  .isL [v1] [.slice a2 n2 c2] <|
  .loop 0 [.int .i64 1, .int .i64 0] (fun v3 =>
   .exI fun i4 =>
   .exI fun i5 =>
   .isL v3 [.int .i64 i4, .int .i64 i5] <|
   bif (decide (i5 < (↑n2 : Int))) then
    (.some a2 fun x6 =>
    .need ((0 : Int) ≤ i5 ∧ i5 < (↑n2 : Int)) <|
    .load (x6.add (i5.toNat * 1)) 1 fun v7 =>
    .exI fun i8 =>
    .isL v7 [.int .i64 i8] <|
    .call hasf ([.int .i64 (IntKind.i64.wrap (i8 - 1))] ++ hasc.1) fun v9 =>
    .exB fun b10 =>
    .isL [v9] [.bool b10] <|
    bif b10 then
     (.again 0 [.int .i64 (IntKind.i64.wrap (i4 + 1)), .int .i64 (IntKind.i64.wrap (i5 + 1))])
    else
    (.again 0 [.int .i64 i4, .int .i64 (IntKind.i64.wrap (i5 + 1))]))
   else
   (.load ⟨s, 3, none⟩ 1 fun v11 =>
   .exI fun i12 =>
   .isL v11 [.int .i64 i12] <|
   .ret (.bool (decide (IntKind.i64.wrap (2 * i4) > i12))))))
 else
 (.call 63 ([.pointer (some ⟨s, 0, none⟩)]) fun v13 =>
 .exS fun a14 n14 c14 =>
 .isL [v13] [.slice a14 n14 c14] <|
 .loop 0 [.int .i64 0, .int .i64 0] (fun v15 =>
  .exI fun i16 =>
  .exI fun i17 =>
  .isL v15 [.int .i64 i16, .int .i64 i17] <|
  bif (decide (i17 < (↑n14 : Int))) then
   (.some a14 fun x18 =>
   .need ((0 : Int) ≤ i17 ∧ i17 < (↑n14 : Int)) <|
   .load (x18.add (i17.toNat * 1)) 1 fun v19 =>
   .exI fun i20 =>
   .isL v19 [.int .i64 i20] <|
   .call hasf ([.int .i64 (IntKind.i64.wrap (i20 - 1))] ++ hasc.1) fun v21 =>
   .exB fun b22 =>
   .isL [v21] [.bool b22] <|
   bif b22 then
    (.again 0 [.int .i64 (IntKind.i64.wrap (i16 + 1)), .int .i64 (IntKind.i64.wrap (i17 + 1))])
   else
   (.again 0 [.int .i64 i16, .int .i64 (IntKind.i64.wrap (i17 + 1))]))
  else
  (.load ⟨s, 3, none⟩ 1 fun v23 =>
  .exI fun i24 =>
  .isL v23 [.int .i64 i24] <|
  .ret (.bool (decide (IntKind.i64.wrap (2 * i16) > i24))))))
theorem e98 (s : Nat) (own : Bool) (hasf : Nat) (hasc : Array Value) : genFn Try.prog lv98 noM Try.f98 [.pointer (some ⟨s, 0, none⟩), .bool own, .func (.func hasf) #[] hasc] = t98 s own hasf hasc := by kernel_rfl
theorem r98 (s : Nat) (own : Bool) (hasf : Nat) (hasc : Array Value) {R : Value → World → Prop} {w : World} (h : (t98 s own hasf hasc).wp Try.prog R (fun _ _ _ => False) w) : Runs Try.prog 98 [.pointer (some ⟨s, 0, none⟩), .bool own, .func (.func hasf) #[] hasc] w R :=
 genFn_runs mixed lv98 noM Try.func98 (by kernel_rfl) (by rw [e98]; exact h)
def t99 (i : Int) (cap0 : Nat) : VC :=
 .load ⟨cap0, 0, none⟩ 1 fun v1 =>
 .exN fun p2 =>
 .isL v1 [.pointer (some ⟨p2, 0, none⟩)] <|
 .load ⟨p2, 11, none⟩ 1 fun v3 =>
 .exS fun a4 n4 c4 =>
 .isL v3 [.slice a4 n4 c4] <|
 .some a4 fun x5 =>
 .need ((0 : Int) ≤ i ∧ i < (↑n4 : Int)) <|
 .load (x5.add (i.toNat * 1)) 1 fun v6 =>
 .exB fun b7 =>
 .isL v6 [.bool b7] <|
 .ret (.bool b7)
theorem e99 (i : Int) (cap0 : Nat) : genFn Try.prog noM noM Try.f99 [.int .i64 i, .pointer (some ⟨cap0, 0, none⟩)] = t99 i cap0 := by kernel_rfl
theorem r99 (i : Int) (cap0 : Nat) {R : Value → World → Prop} {w : World} (h : (t99 i cap0).wp Try.prog R (fun _ _ _ => False) w) : Runs Try.prog 99 [.int .i64 i, .pointer (some ⟨cap0, 0, none⟩)] w R :=
 genFn_runs mixed noM noM Try.func99 (by kernel_rfl) (by rw [e99]; exact h)
def lv100 : Marks := (fun | some 4 => some [(36, .int .i64 0)] | _ => none)
def t100 (s : Nat) : VC :=
 .load ⟨s, 0, none⟩ 17 fun v1 =>
 .exI fun i2 =>
 .exI fun i3 =>
 .exI fun i4 =>
 .exI fun i5 =>
 .exI fun i6 =>
 .exI fun i7 =>
 .exS fun a8 n8 c8 =>
 .exS fun a9 n9 c9 =>
 .exI fun i10 =>
 .exI fun i11 =>
 .exI fun i12 =>
 .exS fun a13 n13 c13 =>
 .exS fun a14 n14 c14 =>
 .exS fun a15 n15 c15 =>
 .exS fun a16 n16 c16 =>
 .exI fun i17 =>
 .exS fun a18 n18 c18 =>
 .isL v1 [.int .u64 i2, .int .i64 i3, .int .i64 i4, .int .i64 i5, .int .u64 i6, .int .u64 i7, .slice a8 n8 c8, .slice a9 n9 c9, .int .u64 i10, .int .i64 i11, .int .i64 i12, .slice a13 n13 c13, .slice a14 n14 c14, .slice a15 n15 c15, .slice a16 n16 c16, .int .u64 i17, .slice a18 n18 c18] <|
 .call 25 ([.agg #[.int .u64 i2, .int .i64 i3, .int .i64 i4, .int .i64 i5, .int .u64 i6, .int .u64 i7, .slice a8 n8 c8, .slice a9 n9 c9, .int .u64 i10, .int .i64 i11, .int .i64 i12, .slice a13 n13 c13, .slice a14 n14 c14, .slice a15 n15 c15, .slice a16 n16 c16, .int .u64 i17, .slice a18 n18 c18]]) fun v19 =>
 .exI fun i20 =>
 .exI fun i21 =>
 .isL [v19] [.tuple #[.int .u64 i20, .int .u64 i21]] <|
 .call 60 ([.pointer (some ⟨s, 0, none⟩)]) fun v22 =>
 .isL [v22] [.tuple #[]] <|
 .load ⟨s, 2, none⟩ 1 fun v23 =>
 .exI fun i24 =>
 .isL v23 [.int .i64 i24] <|
 .store ⟨s, 9, none⟩ [.int .i64 2] <|
 .store ⟨s, 10, none⟩ [.int .i64 i24] <|
 .store ⟨s, 15, none⟩ [.int .u64 0] <|
 .load ⟨s, 3, none⟩ 1 fun v25 =>
 .exI fun i26 =>
 .isL v25 [.int .i64 i26] <|
 .loop 0 [.int .i64 0] (fun v27 =>
  .exI fun i28 =>
  .isL v27 [.int .i64 i28] <|
  bif (decide (i28 < i26)) then
   (.draw <|
   .load ⟨s, 12, none⟩ 1 fun v29 =>
   .exS fun a30 n30 c30 =>
   .isL v29 [.slice a30 n30 c30] <|
   .load ⟨s, 13, none⟩ 1 fun v31 =>
   .exS fun a32 n32 c32 =>
   .isL v31 [.slice a32 n32 c32] <|
   .load ⟨s, 14, none⟩ 1 fun v33 =>
   .exS fun a34 n34 c34 =>
   .isL v33 [.slice a34 n34 c34] <|
   .both
    (.new 22 [.int .u64 (IntKind.u64.wrap (i20 + 1))] fun p35 =>
    .both
     (.append 22 1 8 [.int .u64 0] a30 n30 c30 (some ⟨p35, 0, none⟩) 1 fun a36 n36 c36 =>
     .hold [(⟨s, 14, none⟩, [.slice a34 n34 c34]), (⟨s, 13, none⟩, [.slice a32 n32 c32])] <|
     .both
      (.new 22 [.int .u64 0] fun p37 =>
      .both
       (.append 22 1 8 [.int .u64 0] a32 n32 c32 (some ⟨p37, 0, none⟩) 1 fun a38 n38 c38 =>
       .hold [(⟨s, 14, none⟩, [.slice a34 n34 c34])] <|
       .new 22 [.int .u64 0] fun p39 =>
       .append 22 1 8 [.int .u64 0] a34 n34 c34 (some ⟨p39, 0, none⟩) 1 fun a40 n40 c40 =>
       .store ⟨s, 12, none⟩ [.slice a36 n36 c36] <|
       .store ⟨s, 13, none⟩ [.slice a38 n38 c38] <|
       .store ⟨s, 14, none⟩ [.slice a40 n40 c40] <|
       .again 0 [.int .i64 (IntKind.i64.wrap (i28 + 1))])
      (.new 22 [.int .u64 0] fun p41 =>
      .append 22 1 8 [.int .u64 0] a32 n32 c32 (some ⟨p37, 0, none⟩) 1 fun a42 n42 c42 =>
      .hold [(⟨s, 14, none⟩, [.slice a34 n34 c34])] <|
      .append 22 1 8 [.int .u64 0] a34 n34 c34 (some ⟨p41, 0, none⟩) 1 fun a43 n43 c43 =>
      .store ⟨s, 12, none⟩ [.slice a36 n36 c36] <|
      .store ⟨s, 13, none⟩ [.slice a42 n42 c42] <|
      .store ⟨s, 14, none⟩ [.slice a43 n43 c43] <|
      .again 0 [.int .i64 (IntKind.i64.wrap (i28 + 1))]))
     (.new 22 [.int .u64 0] fun p44 =>
     .new 22 [.int .u64 0] fun p45 =>
     .append 22 1 8 [.int .u64 0] a32 n32 c32 (some ⟨p45, 0, none⟩) 1 fun a46 n46 c46 =>
     .hold [(⟨s, 14, none⟩, [.slice a34 n34 c34])] <|
     .append 22 1 8 [.int .u64 0] a34 n34 c34 (some ⟨p44, 0, none⟩) 1 fun a47 n47 c47 =>
     .store ⟨s, 12, none⟩ [.slice a36 n36 c36] <|
     .store ⟨s, 13, none⟩ [.slice a46 n46 c46] <|
     .store ⟨s, 14, none⟩ [.slice a47 n47 c47] <|
     .again 0 [.int .i64 (IntKind.i64.wrap (i28 + 1))]))
    (.both
     (.new 22 [.int .u64 0] fun p48 =>
     .both
      (.append 22 1 8 [.int .u64 0] a30 n30 c30 (some ⟨p35, 0, none⟩) 1 fun a49 n49 c49 =>
      .hold [(⟨s, 14, none⟩, [.slice a34 n34 c34]), (⟨s, 13, none⟩, [.slice a32 n32 c32])] <|
      .both
       (.append 22 1 8 [.int .u64 0] a32 n32 c32 (some ⟨p48, 0, none⟩) 1 fun a50 n50 c50 =>
       .hold [(⟨s, 14, none⟩, [.slice a34 n34 c34])] <|
       .new 22 [.int .u64 0] fun p51 =>
       .append 22 1 8 [.int .u64 0] a34 n34 c34 (some ⟨p51, 0, none⟩) 1 fun a52 n52 c52 =>
       .store ⟨s, 12, none⟩ [.slice a49 n49 c49] <|
       .store ⟨s, 13, none⟩ [.slice a50 n50 c50] <|
       .store ⟨s, 14, none⟩ [.slice a52 n52 c52] <|
       .again 0 [.int .i64 (IntKind.i64.wrap (i28 + 1))])
      (.new 22 [.int .u64 0] fun p53 =>
      .append 22 1 8 [.int .u64 0] a32 n32 c32 (some ⟨p48, 0, none⟩) 1 fun a54 n54 c54 =>
      .hold [(⟨s, 14, none⟩, [.slice a34 n34 c34])] <|
      .append 22 1 8 [.int .u64 0] a34 n34 c34 (some ⟨p53, 0, none⟩) 1 fun a55 n55 c55 =>
      .store ⟨s, 12, none⟩ [.slice a49 n49 c49] <|
      .store ⟨s, 13, none⟩ [.slice a54 n54 c54] <|
      .store ⟨s, 14, none⟩ [.slice a55 n55 c55] <|
      .again 0 [.int .i64 (IntKind.i64.wrap (i28 + 1))]))
     (.new 22 [.int .u64 0] fun p56 =>
     .append 22 1 8 [.int .u64 0] a30 n30 c30 (some ⟨p35, 0, none⟩) 1 fun a57 n57 c57 =>
     .hold [(⟨s, 14, none⟩, [.slice a34 n34 c34]), (⟨s, 13, none⟩, [.slice a32 n32 c32])] <|
     .append 22 1 8 [.int .u64 0] a32 n32 c32 (some ⟨p48, 0, none⟩) 1 fun a58 n58 c58 =>
     .hold [(⟨s, 14, none⟩, [.slice a34 n34 c34])] <|
     .append 22 1 8 [.int .u64 0] a34 n34 c34 (some ⟨p56, 0, none⟩) 1 fun a59 n59 c59 =>
     .store ⟨s, 12, none⟩ [.slice a57 n57 c57] <|
     .store ⟨s, 13, none⟩ [.slice a58 n58 c58] <|
     .store ⟨s, 14, none⟩ [.slice a59 n59 c59] <|
     .again 0 [.int .i64 (IntKind.i64.wrap (i28 + 1))]))
    (.new 22 [.int .u64 0] fun p60 =>
    .both
     (.append 22 1 8 [.int .u64 0] a30 n30 c30 (some ⟨p35, 0, none⟩) 1 fun a61 n61 c61 =>
     .hold [(⟨s, 14, none⟩, [.slice a34 n34 c34]), (⟨s, 13, none⟩, [.slice a32 n32 c32])] <|
     .new 22 [.int .u64 0] fun p62 =>
     .append 22 1 8 [.int .u64 0] a32 n32 c32 (some ⟨p62, 0, none⟩) 1 fun a63 n63 c63 =>
     .hold [(⟨s, 14, none⟩, [.slice a34 n34 c34])] <|
     .append 22 1 8 [.int .u64 0] a34 n34 c34 (some ⟨p60, 0, none⟩) 1 fun a64 n64 c64 =>
     .store ⟨s, 12, none⟩ [.slice a61 n61 c61] <|
     .store ⟨s, 13, none⟩ [.slice a63 n63 c63] <|
     .store ⟨s, 14, none⟩ [.slice a64 n64 c64] <|
     .again 0 [.int .i64 (IntKind.i64.wrap (i28 + 1))])
    (.new 22 [.int .u64 0] fun p65 =>
    .append 22 1 8 [.int .u64 0] a30 n30 c30 (some ⟨p35, 0, none⟩) 1 fun a66 n66 c66 =>
    .hold [(⟨s, 14, none⟩, [.slice a34 n34 c34]), (⟨s, 13, none⟩, [.slice a32 n32 c32])] <|
    .append 22 1 8 [.int .u64 0] a32 n32 c32 (some ⟨p65, 0, none⟩) 1 fun a67 n67 c67 =>
    .hold [(⟨s, 14, none⟩, [.slice a34 n34 c34])] <|
    .append 22 1 8 [.int .u64 0] a34 n34 c34 (some ⟨p60, 0, none⟩) 1 fun a68 n68 c68 =>
    .store ⟨s, 12, none⟩ [.slice a66 n66 c66] <|
    .store ⟨s, 13, none⟩ [.slice a67 n67 c67] <|
    .store ⟨s, 14, none⟩ [.slice a68 n68 c68] <|
    .again 0 [.int .i64 (IntKind.i64.wrap (i28 + 1))]))))
   (.both
    (.new 22 [.int .u64 0] fun p69 =>
    .both
     (.new 22 [.int .u64 (IntKind.u64.wrap (i20 + 1))] fun p70 =>
     .both
      (.append 22 1 8 [.int .u64 0] a30 n30 c30 (some ⟨p70, 0, none⟩) 1 fun a71 n71 c71 =>
      .hold [(⟨s, 14, none⟩, [.slice a34 n34 c34]), (⟨s, 13, none⟩, [.slice a32 n32 c32])] <|
      .both
       (.append 22 1 8 [.int .u64 0] a32 n32 c32 (some ⟨p69, 0, none⟩) 1 fun a72 n72 c72 =>
       .hold [(⟨s, 14, none⟩, [.slice a34 n34 c34])] <|
       .new 22 [.int .u64 0] fun p73 =>
       .append 22 1 8 [.int .u64 0] a34 n34 c34 (some ⟨p73, 0, none⟩) 1 fun a74 n74 c74 =>
       .store ⟨s, 12, none⟩ [.slice a71 n71 c71] <|
       .store ⟨s, 13, none⟩ [.slice a72 n72 c72] <|
       .store ⟨s, 14, none⟩ [.slice a74 n74 c74] <|
       .again 0 [.int .i64 (IntKind.i64.wrap (i28 + 1))])
      (.new 22 [.int .u64 0] fun p75 =>
      .append 22 1 8 [.int .u64 0] a32 n32 c32 (some ⟨p69, 0, none⟩) 1 fun a76 n76 c76 =>
      .hold [(⟨s, 14, none⟩, [.slice a34 n34 c34])] <|
      .append 22 1 8 [.int .u64 0] a34 n34 c34 (some ⟨p75, 0, none⟩) 1 fun a77 n77 c77 =>
      .store ⟨s, 12, none⟩ [.slice a71 n71 c71] <|
      .store ⟨s, 13, none⟩ [.slice a76 n76 c76] <|
      .store ⟨s, 14, none⟩ [.slice a77 n77 c77] <|
      .again 0 [.int .i64 (IntKind.i64.wrap (i28 + 1))]))
     (.new 22 [.int .u64 0] fun p78 =>
     .append 22 1 8 [.int .u64 0] a30 n30 c30 (some ⟨p70, 0, none⟩) 1 fun a79 n79 c79 =>
     .hold [(⟨s, 14, none⟩, [.slice a34 n34 c34]), (⟨s, 13, none⟩, [.slice a32 n32 c32])] <|
     .append 22 1 8 [.int .u64 0] a32 n32 c32 (some ⟨p69, 0, none⟩) 1 fun a80 n80 c80 =>
     .hold [(⟨s, 14, none⟩, [.slice a34 n34 c34])] <|
     .append 22 1 8 [.int .u64 0] a34 n34 c34 (some ⟨p78, 0, none⟩) 1 fun a81 n81 c81 =>
     .store ⟨s, 12, none⟩ [.slice a79 n79 c79] <|
     .store ⟨s, 13, none⟩ [.slice a80 n80 c80] <|
     .store ⟨s, 14, none⟩ [.slice a81 n81 c81] <|
     .again 0 [.int .i64 (IntKind.i64.wrap (i28 + 1))]))
    (.new 22 [.int .u64 0] fun p82 =>
    .new 22 [.int .u64 (IntKind.u64.wrap (i20 + 1))] fun p83 =>
    .append 22 1 8 [.int .u64 0] a30 n30 c30 (some ⟨p83, 0, none⟩) 1 fun a84 n84 c84 =>
    .hold [(⟨s, 14, none⟩, [.slice a34 n34 c34]), (⟨s, 13, none⟩, [.slice a32 n32 c32])] <|
    .append 22 1 8 [.int .u64 0] a32 n32 c32 (some ⟨p69, 0, none⟩) 1 fun a85 n85 c85 =>
    .hold [(⟨s, 14, none⟩, [.slice a34 n34 c34])] <|
    .append 22 1 8 [.int .u64 0] a34 n34 c34 (some ⟨p82, 0, none⟩) 1 fun a86 n86 c86 =>
    .store ⟨s, 12, none⟩ [.slice a84 n84 c84] <|
    .store ⟨s, 13, none⟩ [.slice a85 n85 c85] <|
    .store ⟨s, 14, none⟩ [.slice a86 n86 c86] <|
    .again 0 [.int .i64 (IntKind.i64.wrap (i28 + 1))]))
   (.new 22 [.int .u64 0] fun p87 =>
   .both
    (.new 22 [.int .u64 (IntKind.u64.wrap (i20 + 1))] fun p88 =>
    .both
     (.append 22 1 8 [.int .u64 0] a30 n30 c30 (some ⟨p88, 0, none⟩) 1 fun a89 n89 c89 =>
     .hold [(⟨s, 14, none⟩, [.slice a34 n34 c34]), (⟨s, 13, none⟩, [.slice a32 n32 c32])] <|
     .new 22 [.int .u64 0] fun p90 =>
     .append 22 1 8 [.int .u64 0] a32 n32 c32 (some ⟨p90, 0, none⟩) 1 fun a91 n91 c91 =>
     .hold [(⟨s, 14, none⟩, [.slice a34 n34 c34])] <|
     .append 22 1 8 [.int .u64 0] a34 n34 c34 (some ⟨p87, 0, none⟩) 1 fun a92 n92 c92 =>
     .store ⟨s, 12, none⟩ [.slice a89 n89 c89] <|
     .store ⟨s, 13, none⟩ [.slice a91 n91 c91] <|
     .store ⟨s, 14, none⟩ [.slice a92 n92 c92] <|
     .again 0 [.int .i64 (IntKind.i64.wrap (i28 + 1))])
    (.new 22 [.int .u64 0] fun p93 =>
    .append 22 1 8 [.int .u64 0] a30 n30 c30 (some ⟨p88, 0, none⟩) 1 fun a94 n94 c94 =>
    .hold [(⟨s, 14, none⟩, [.slice a34 n34 c34]), (⟨s, 13, none⟩, [.slice a32 n32 c32])] <|
    .append 22 1 8 [.int .u64 0] a32 n32 c32 (some ⟨p93, 0, none⟩) 1 fun a95 n95 c95 =>
    .hold [(⟨s, 14, none⟩, [.slice a34 n34 c34])] <|
    .append 22 1 8 [.int .u64 0] a34 n34 c34 (some ⟨p87, 0, none⟩) 1 fun a96 n96 c96 =>
    .store ⟨s, 12, none⟩ [.slice a94 n94 c94] <|
    .store ⟨s, 13, none⟩ [.slice a95 n95 c95] <|
    .store ⟨s, 14, none⟩ [.slice a96 n96 c96] <|
    .again 0 [.int .i64 (IntKind.i64.wrap (i28 + 1))]))
   (.new 22 [.int .u64 0] fun p97 =>
   .new 22 [.int .u64 (IntKind.u64.wrap (i20 + 1))] fun p98 =>
   .append 22 1 8 [.int .u64 0] a30 n30 c30 (some ⟨p98, 0, none⟩) 1 fun a99 n99 c99 =>
   .hold [(⟨s, 14, none⟩, [.slice a34 n34 c34]), (⟨s, 13, none⟩, [.slice a32 n32 c32])] <|
   .append 22 1 8 [.int .u64 0] a32 n32 c32 (some ⟨p97, 0, none⟩) 1 fun a100 n100 c100 =>
   .hold [(⟨s, 14, none⟩, [.slice a34 n34 c34])] <|
   .append 22 1 8 [.int .u64 0] a34 n34 c34 (some ⟨p87, 0, none⟩) 1 fun a101 n101 c101 =>
   .store ⟨s, 12, none⟩ [.slice a99 n99 c99] <|
   .store ⟨s, 13, none⟩ [.slice a100 n100 c100] <|
   .store ⟨s, 14, none⟩ [.slice a101 n101 c101] <|
   .again 0 [.int .i64 (IntKind.i64.wrap (i28 + 1))]))))
  else
  (.call 65 ([.pointer (some ⟨s, 0, none⟩), .slice none 0 0]) fun v102 =>
  .isL [v102] [.tuple #[]] <|
  .call 66 ([.pointer (some ⟨s, 0, none⟩)]) fun v103 =>
  .isL [v103] [.tuple #[]] <|
  .call 67 ([.pointer (some ⟨s, 0, none⟩)]) fun v104 =>
  .isL [v104] [.tuple #[]] <|
  .ret (.tuple #[])))
theorem e100 (s : Nat) : genFn Try.prog lv100 noM Try.f100 [.pointer (some ⟨s, 0, none⟩)] = t100 s := by kernel_rfl
theorem r100 (s : Nat) {R : Value → World → Prop} {w : World} (h : (t100 s).wp Try.prog R (fun _ _ _ => False) w) : Runs Try.prog 100 [.pointer (some ⟨s, 0, none⟩)] w R :=
 genFn_runs mixed lv100 noM Try.func100 (by kernel_rfl) (by rw [e100]; exact h)
def t101 (n : Int) (cap0 : Nat) (cap1 : Nat) : VC :=
 .draw <|
 .load ⟨cap0, 0, none⟩ 1 fun v1 =>
 .exN fun p2 =>
 .isL v1 [.pointer (some ⟨p2, 0, none⟩)] <|
 .load ⟨p2, 13, none⟩ 1 fun v3 =>
 .exS fun a4 n4 c4 =>
 .isL v3 [.slice a4 n4 c4] <|
 .some a4 fun x5 =>
 .need ((0 : Int) ≤ n ∧ n < (↑n4 : Int)) <|
 .load (x5.add (n.toNat * 1)) 1 fun v6 =>
 .exI fun i7 =>
 .isL v6 [.int .u64 i7] <|
 .load ⟨cap1, 0, none⟩ 1 fun v8 =>
 .exI fun i9 =>
 .isL v8 [.int .u64 i9] <|
 .ret (.bool (decide (i7 ≥ i9)))
theorem e101 (n : Int) (cap0 : Nat) (cap1 : Nat) : genFn Try.prog noM noM Try.f101 [.int .i64 n, .pointer (some ⟨cap0, 0, none⟩), .pointer (some ⟨cap1, 0, none⟩)] = t101 n cap0 cap1 := by kernel_rfl
theorem r101 (n : Int) (cap0 : Nat) (cap1 : Nat) {R : Value → World → Prop} {w : World} (h : (t101 n cap0 cap1).wp Try.prog R (fun _ _ _ => False) w) : Runs Try.prog 101 [.int .i64 n, .pointer (some ⟨cap0, 0, none⟩), .pointer (some ⟨cap1, 0, none⟩)] w R :=
 genFn_runs mixed noM noM Try.func101 (by kernel_rfl) (by rw [e101]; exact h)
def t102 (s : Nat) (to : Int) : VC :=
 .load ⟨s, 12, none⟩ 1 fun v1 =>
 .exS fun a2 n2 c2 =>
 .isL v1 [.slice a2 n2 c2] <|
 .some a2 fun x3 =>
 .need ((0 : Int) ≤ IntKind.i64.wrap (to - 1) ∧ IntKind.i64.wrap (to - 1) < (↑n2 : Int)) <|
 .load (x3.add ((IntKind.i64.wrap (to - 1)).toNat * 1)) 1 fun v4 =>
 .exI fun i5 =>
 .isL v4 [.int .u64 i5] <|
 .load ⟨s, 4, none⟩ 1 fun v6 =>
 .exI fun i7 =>
 .isL v6 [.int .u64 i7] <|
 bif (decide (i5 ≤ i7)) then
  (.draw <|
  .load ⟨s, 4, none⟩ 3 fun v8 =>
  .exI fun i9 =>
  .exI fun i10 =>
  .exS fun a11 n11 c11 =>
  .isL v8 [.int .u64 i9, .int .u64 i10, .slice a11 n11 c11] <|
  .load ⟨s, 15, none⟩ 1 fun v12 =>
  .exI fun i13 =>
  .isL v12 [.int .u64 i13] <|
  .call 57 ([.agg #[.int .u64 i9, .int .u64 i10, .slice a11 n11 c11]]) fun v14 =>
  .exI fun i15 =>
  .exI fun i16 =>
  .exS fun a17 n17 c17 =>
  .isL [v14] [.agg #[.int .u64 i15, .int .u64 i16, .slice a17 n17 c17]] <|
  .hold [(⟨s, 15, none⟩, [.int .u64 i13])] <|
  .new 70 [.int .i64 5, .int .i64 0, .int .i64 to, .int .u64 0, .int .u64 0, .int .u64 0, .slice none 0 0, .int .u64 0, .int .u64 i13, .bool false, .int .u64 i15, .int .u64 i16, .slice a17 n17 c17, .int .i64 0, .int .i64 0, .int .u64 0, .string ({ data := #[] }), .string ({ data := #[] }), .int .u64 0, .int .i64 0, .string ({ data := #[] })] fun p18 =>
  .call 64 ([.pointer (some ⟨s, 0, none⟩), .slice (some ⟨p18, 0, none⟩) 1 1]) fun v19 =>
  .isL [v19] [.tuple #[]] <|
  .ret (.tuple #[]))
 else
 (.load ⟨s, 0, none⟩ 17 fun v20 =>
 .exI fun i21 =>
 .exI fun i22 =>
 .exI fun i23 =>
 .exI fun i24 =>
 .exI fun i25 =>
 .exI fun i26 =>
 .exS fun a27 n27 c27 =>
 .exS fun a28 n28 c28 =>
 .exI fun i29 =>
 .exI fun i30 =>
 .exI fun i31 =>
 .exS fun a32 n32 c32 =>
 .exS fun a33 n33 c33 =>
 .exS fun a34 n34 c34 =>
 .exS fun a35 n35 c35 =>
 .exI fun i36 =>
 .exS fun a37 n37 c37 =>
 .isL v20 [.int .u64 i21, .int .i64 i22, .int .i64 i23, .int .i64 i24, .int .u64 i25, .int .u64 i26, .slice a27 n27 c27, .slice a28 n28 c28, .int .u64 i29, .int .i64 i30, .int .i64 i31, .slice a32 n32 c32, .slice a33 n33 c33, .slice a34 n34 c34, .slice a35 n35 c35, .int .u64 i36, .slice a37 n37 c37] <|
 .call 27 ([.agg #[.int .u64 i21, .int .i64 i22, .int .i64 i23, .int .i64 i24, .int .u64 i25, .int .u64 i26, .slice a27 n27 c27, .slice a28 n28 c28, .int .u64 i29, .int .i64 i30, .int .i64 i31, .slice a32 n32 c32, .slice a33 n33 c33, .slice a34 n34 c34, .slice a35 n35 c35, .int .u64 i36, .slice a37 n37 c37], .int .u64 (IntKind.u64.wrap (i5 - 1))]) fun v38 =>
 .exI fun i39 =>
 .exB fun b40 =>
 .isL [v38] [.tuple #[.int .u64 i39, .bool b40]] <|
 .draw <|
 .load ⟨s, 4, none⟩ 1 fun v41 =>
 .exI fun i42 =>
 .isL v41 [.int .u64 i42] <|
 .load ⟨s, 7, none⟩ 1 fun v43 =>
 .exS fun a44 n44 c44 =>
 .isL v43 [.slice a44 n44 c44] <|
 .draw <|
 .load ⟨s, 7, none⟩ 1 fun v45 =>
 .exS fun a46 n46 c46 =>
 .isL v45 [.slice a46 n46 c46] <|
 .need ((0 ≤ if IntKind.u64.wrap (↑n44 : Int) < IntKind.u64.wrap (IntKind.u64.wrap (i5 - 1) - i42) then IntKind.u64.wrap (↑n44 : Int) else IntKind.u64.wrap (IntKind.u64.wrap (i5 - 1) - i42)) ∧ (if IntKind.u64.wrap (↑n44 : Int) < IntKind.u64.wrap (IntKind.u64.wrap (i5 - 1) - i42) then IntKind.u64.wrap (↑n44 : Int) else IntKind.u64.wrap (IntKind.u64.wrap (i5 - 1) - i42)) ≤ (↑n46 : Int)) <|
 .load ⟨s, 8, none⟩ 1 fun v47 =>
 .exI fun i48 =>
 .isL v47 [.int .u64 i48] <|
 .load ⟨s, 15, none⟩ 1 fun v49 =>
 .exI fun i50 =>
 .isL v49 [.int .u64 i50] <|
 .call 94 ([.slice (if c46 = (if IntKind.u64.wrap (↑n44 : Int) < IntKind.u64.wrap (IntKind.u64.wrap (i5 - 1) - i42) then IntKind.u64.wrap (↑n44 : Int) else IntKind.u64.wrap (IntKind.u64.wrap (i5 - 1) - i42)).toNat then a46 else Option.map (fun x => x.add ((if IntKind.u64.wrap (↑n44 : Int) < IntKind.u64.wrap (IntKind.u64.wrap (i5 - 1) - i42) then IntKind.u64.wrap (↑n44 : Int) else IntKind.u64.wrap (IntKind.u64.wrap (i5 - 1) - i42)).toNat * 2)) a46) (n46 - (if IntKind.u64.wrap (↑n44 : Int) < IntKind.u64.wrap (IntKind.u64.wrap (i5 - 1) - i42) then IntKind.u64.wrap (↑n44 : Int) else IntKind.u64.wrap (IntKind.u64.wrap (i5 - 1) - i42)).toNat) (c46 - (if IntKind.u64.wrap (↑n44 : Int) < IntKind.u64.wrap (IntKind.u64.wrap (i5 - 1) - i42) then IntKind.u64.wrap (↑n44 : Int) else IntKind.u64.wrap (IntKind.u64.wrap (i5 - 1) - i42)).toNat)]) fun v51 =>
 .exS fun a52 n52 c52 =>
 .isL [v51] [.slice a52 n52 c52] <|
 .hold [(⟨s, 15, none⟩, [.int .u64 i50]), (⟨s, 8, none⟩, [.int .u64 i48])] <|
 .new 70 [.int .i64 3, .int .i64 0, .int .i64 to, .int .u64 0, .int .u64 (IntKind.u64.wrap (i5 - 1)), .int .u64 i39, .slice a52 n52 c52, .int .u64 i48, .int .u64 i50, .bool false, .int .u64 0, .int .u64 0, .slice none 0 0, .int .i64 0, .int .i64 0, .int .u64 0, .string ({ data := #[] }), .string ({ data := #[] }), .int .u64 0, .int .i64 0, .string ({ data := #[] })] fun p53 =>
 .call 64 ([.pointer (some ⟨s, 0, none⟩), .slice (some ⟨p53, 0, none⟩) 1 1]) fun v54 =>
 .isL [v54] [.tuple #[]] <|
 .ret (.tuple #[]))
theorem e102 (s : Nat) (to : Int) : genFn Try.prog noM noM Try.f102 [.pointer (some ⟨s, 0, none⟩), .int .i64 to] = t102 s to := by kernel_rfl
theorem r102 (s : Nat) (to : Int) {R : Value → World → Prop} {w : World} (h : (t102 s to).wp Try.prog R (fun _ _ _ => False) w) : Runs Try.prog 102 [.pointer (some ⟨s, 0, none⟩), .int .i64 to] w R :=
 genFn_runs mixed noM noM Try.func102 (by kernel_rfl) (by rw [e102]; exact h)
def lv103 : Marks := (fun | some 3 => some [(2, .slice none 0 0), (11, .int .i64 0)] | _ => none)
def t103 (s : Nat) : VC :=
 .new 85 [.pointer (some ⟨s, 0, none⟩)] fun p1 =>
 .load ⟨p1, 0, none⟩ 1 fun v2 =>
 .exN fun p3 =>
 .isL v2 [.pointer (some ⟨p3, 0, none⟩)] <|
 .load ⟨p3, 16, none⟩ 1 fun v4 =>
 .exS fun a5 n5 c5 =>
 .isL v4 [.slice a5 n5 c5] <|
 .loop 0 [.slice none 0 0, .int .i64 0] (fun v6 =>
  .exS fun a7 n7 c7 =>
  .exI fun i8 =>
  .isL v6 [.slice a7 n7 c7, .int .i64 i8] <|
  bif (decide (i8 < (↑n5 : Int))) then
   (.some a5 fun x9 =>
   .need ((0 : Int) ≤ i8 ∧ i8 < (↑n5 : Int)) <|
   .load (x9.add (i8.toNat * 3)) 3 fun v10 =>
   .exI fun i11 =>
   .exI fun i12 =>
   .exI fun i13 =>
   .isL v10 [.int .u64 i11, .int .u64 i12, .int .u64 i13] <|
   .new 62 [.int .u64 0, .int .u64 0, .int .u64 0] fun p14 =>
   .store ⟨p14, 0, none⟩ [.int .u64 i11, .int .u64 i12, .int .u64 i13] <|
   .draw <|
   .load ⟨p1, 0, none⟩ 1 fun v15 =>
   .exN fun p16 =>
   .isL v15 [.pointer (some ⟨p16, 0, none⟩)] <|
   .load ⟨p1, 0, none⟩ 1 fun v17 =>
   .exN fun p18 =>
   .isL v17 [.pointer (some ⟨p18, 0, none⟩)] <|
   .load ⟨p18, 15, none⟩ 1 fun v19 =>
   .exI fun i20 =>
   .isL v19 [.int .u64 i20] <|
   .load ⟨p14, 2, none⟩ 1 fun v21 =>
   .exI fun i22 =>
   .isL v21 [.int .u64 i22] <|
   .call 98 ([.pointer (some ⟨p16, 0, none⟩), .bool (decide (i20 ≥ i22)), .func (Fn.func 111) #[] #[.pointer (some ⟨p1, 0, none⟩), .pointer (some ⟨p14, 0, none⟩)]]) fun v23 =>
   .exB fun b24 =>
   .isL [v23] [.bool b24] <|
   bif b24 then
    (.draw <|
    .load ⟨p1, 0, none⟩ 1 fun v25 =>
    .exN fun p26 =>
    .isL v25 [.pointer (some ⟨p26, 0, none⟩)] <|
    .load ⟨p1, 0, none⟩ 1 fun v27 =>
    .exN fun p28 =>
    .isL v27 [.pointer (some ⟨p28, 0, none⟩)] <|
    .load ⟨p28, 19, none⟩ 1 fun v29 =>
    .exS fun a30 n30 c30 =>
    .isL v29 [.slice a30 n30 c30] <|
    .load ⟨p14, 0, none⟩ 3 fun v31 =>
    .exI fun i32 =>
    .exI fun i33 =>
    .exI fun i34 =>
    .isL v31 [.int .u64 i32, .int .u64 i33, .int .u64 i34] <|
    .new 62 [.int .u64 i32, .int .u64 i33, .int .u64 i34] fun p35 =>
    .append 62 3 24 [.int .u64 0, .int .u64 0, .int .u64 0] a30 n30 c30 (some ⟨p35, 0, none⟩) 1 fun a36 n36 c36 =>
    .hold [(⟨p1, 0, none⟩, [.pointer (some ⟨p26, 0, none⟩)])] <|
    .store ⟨p26, 19, none⟩ [.slice a36 n36 c36] <|
    .again 0 [.slice a7 n7 c7, .int .i64 (IntKind.i64.wrap (i8 + 1))])
   else
   (.load ⟨p14, 0, none⟩ 3 fun v37 =>
   .exI fun i38 =>
   .exI fun i39 =>
   .exI fun i40 =>
   .isL v37 [.int .u64 i38, .int .u64 i39, .int .u64 i40] <|
   .new 62 [.int .u64 i38, .int .u64 i39, .int .u64 i40] fun p41 =>
   .append 62 3 24 [.int .u64 0, .int .u64 0, .int .u64 0] a7 n7 c7 (some ⟨p41, 0, none⟩) 1 fun a42 n42 c42 =>
   .again 0 [.slice a42 n42 c42, .int .i64 (IntKind.i64.wrap (i8 + 1))]))
  else
  (.load ⟨p1, 0, none⟩ 1 fun v43 =>
  .exN fun p44 =>
  .isL v43 [.pointer (some ⟨p44, 0, none⟩)] <|
  .store ⟨p44, 16, none⟩ [.slice a7 n7 c7] <|
  .ret (.tuple #[])))
theorem e103 (s : Nat) : genFn Try.prog lv103 noM Try.f103 [.pointer (some ⟨s, 0, none⟩)] = t103 s := by kernel_rfl
theorem r103 (s : Nat) {R : Value → World → Prop} {w : World} (h : (t103 s).wp Try.prog R (fun _ _ _ => False) w) : Runs Try.prog 103 [.pointer (some ⟨s, 0, none⟩)] w R :=
 genFn_runs mixed lv103 noM Try.func103 (by kernel_rfl) (by rw [e103]; exact h)
def t106 (s : Nat) (m0 : Int) (m1 : Int) (m2 : Int) (m3 : Int) (m4 : Int) (m5 : Int) (m6a : Option Addr) (m6n : Nat) (m6c : Nat) (m7 : Int) (m8 : Int) (m9 : Bool) (m10 : Int) (m11 : Int) (m12a : Option Addr) (m12n : Nat) (m12c : Nat) (m13 : Int) (m14 : Int) (m15 : Int) (m16 : ByteArray) (m17 : ByteArray) (m18 : Int) (m19 : Int) (m20 : ByteArray) : VC :=
 .new 70 [.int .i64 m0, .int .i64 m1, .int .i64 m2, .int .u64 m3, .int .u64 m4, .int .u64 m5, .slice m6a m6n m6c, .int .u64 m7, .int .u64 m8, .bool m9, .int .u64 m10, .int .u64 m11, .slice m12a m12n m12c, .int .i64 m13, .int .i64 m14, .int .u64 m15, .string m16, .string m17, .int .u64 m18, .int .i64 m19, .string m20] fun p1 =>
 .draw <|
 .load ⟨p1, 3, none⟩ 1 fun v2 =>
 .exI fun i3 =>
 .isL v2 [.int .u64 i3] <|
 .load ⟨s, 0, none⟩ 1 fun v4 =>
 .exI fun i5 =>
 .isL v4 [.int .u64 i5] <|
 bif (decide (i3 < i5)) then
  (.load ⟨p1, 1, none⟩ 1 fun v6 =>
  .exI fun i7 =>
  .isL v6 [.int .i64 i7] <|
  .load ⟨p1, 8, none⟩ 1 fun v8 =>
  .exI fun i9 =>
  .isL v8 [.int .u64 i9] <|
  .new 70 [.int .i64 4, .int .i64 0, .int .i64 i7, .int .u64 0, .int .u64 0, .int .u64 0, .slice none 0 0, .int .u64 0, .int .u64 i9, .bool false, .int .u64 0, .int .u64 0, .slice none 0 0, .int .i64 0, .int .i64 0, .int .u64 0, .string ({ data := #[] }), .string ({ data := #[] }), .int .u64 0, .int .i64 0, .string ({ data := #[] })] fun p10 =>
  .call 64 ([.pointer (some ⟨s, 0, none⟩), .slice (some ⟨p10, 0, none⟩) 1 1]) fun v11 =>
  .isL [v11] [.tuple #[]] <|
  .ret (.bool false))
 else
 (.draw <|
 .load ⟨p1, 1, none⟩ 1 fun v12 =>
 .exI fun i13 =>
 .isL v12 [.int .i64 i13] <|
 .store ⟨s, 9, none⟩ [.int .i64 0] <|
 .hold [(⟨p1, 1, none⟩, [.int .i64 i13])] <|
 .store ⟨s, 10, none⟩ [.int .i64 i13] <|
 .call 60 ([.pointer (some ⟨s, 0, none⟩)]) fun v14 =>
 .isL [v14] [.tuple #[]] <|
 .ret (.bool true))
theorem e106 (s : Nat) (m0 : Int) (m1 : Int) (m2 : Int) (m3 : Int) (m4 : Int) (m5 : Int) (m6a : Option Addr) (m6n : Nat) (m6c : Nat) (m7 : Int) (m8 : Int) (m9 : Bool) (m10 : Int) (m11 : Int) (m12a : Option Addr) (m12n : Nat) (m12c : Nat) (m13 : Int) (m14 : Int) (m15 : Int) (m16 : ByteArray) (m17 : ByteArray) (m18 : Int) (m19 : Int) (m20 : ByteArray) : genFn Try.prog noM noM Try.f106 [.pointer (some ⟨s, 0, none⟩), .agg #[.int .i64 m0, .int .i64 m1, .int .i64 m2, .int .u64 m3, .int .u64 m4, .int .u64 m5, .slice m6a m6n m6c, .int .u64 m7, .int .u64 m8, .bool m9, .int .u64 m10, .int .u64 m11, .slice m12a m12n m12c, .int .i64 m13, .int .i64 m14, .int .u64 m15, .string m16, .string m17, .int .u64 m18, .int .i64 m19, .string m20]] = t106 s m0 m1 m2 m3 m4 m5 m6a m6n m6c m7 m8 m9 m10 m11 m12a m12n m12c m13 m14 m15 m16 m17 m18 m19 m20 := by kernel_rfl
theorem r106 (s : Nat) (m0 : Int) (m1 : Int) (m2 : Int) (m3 : Int) (m4 : Int) (m5 : Int) (m6a : Option Addr) (m6n : Nat) (m6c : Nat) (m7 : Int) (m8 : Int) (m9 : Bool) (m10 : Int) (m11 : Int) (m12a : Option Addr) (m12n : Nat) (m12c : Nat) (m13 : Int) (m14 : Int) (m15 : Int) (m16 : ByteArray) (m17 : ByteArray) (m18 : Int) (m19 : Int) (m20 : ByteArray) {R : Value → World → Prop} {w : World} (h : (t106 s m0 m1 m2 m3 m4 m5 m6a m6n m6c m7 m8 m9 m10 m11 m12a m12n m12c m13 m14 m15 m16 m17 m18 m19 m20).wp Try.prog R (fun _ _ _ => False) w) : Runs Try.prog 106 [.pointer (some ⟨s, 0, none⟩), .agg #[.int .i64 m0, .int .i64 m1, .int .i64 m2, .int .u64 m3, .int .u64 m4, .int .u64 m5, .slice m6a m6n m6c, .int .u64 m7, .int .u64 m8, .bool m9, .int .u64 m10, .int .u64 m11, .slice m12a m12n m12c, .int .i64 m13, .int .i64 m14, .int .u64 m15, .string m16, .string m17, .int .u64 m18, .int .i64 m19, .string m20]] w R :=
 genFn_runs mixed noM noM Try.func106 (by kernel_rfl) (by rw [e106]; exact h)
def t107 (s : Nat) (i : Int) (e0 : Int) (e1a : Option Addr) (e1n : Nat) (e1c : Nat) : VC :=
 .new 57 [.int .u64 e0, .slice e1a e1n e1c] fun p1 =>
 .load ⟨s, 4, none⟩ 1 fun v2 =>
 .exI fun i3 =>
 .isL v2 [.int .u64 i3] <|
 bif (decide (i ≤ i3)) then
  (.ret (.tuple #[]))
 else
 (.load ⟨s, 0, none⟩ 17 fun v4 =>
 .exI fun i5 =>
 .exI fun i6 =>
 .exI fun i7 =>
 .exI fun i8 =>
 .exI fun i9 =>
 .exI fun i10 =>
 .exS fun a11 n11 c11 =>
 .exS fun a12 n12 c12 =>
 .exI fun i13 =>
 .exI fun i14 =>
 .exI fun i15 =>
 .exS fun a16 n16 c16 =>
 .exS fun a17 n17 c17 =>
 .exS fun a18 n18 c18 =>
 .exS fun a19 n19 c19 =>
 .exI fun i20 =>
 .exS fun a21 n21 c21 =>
 .isL v4 [.int .u64 i5, .int .i64 i6, .int .i64 i7, .int .i64 i8, .int .u64 i9, .int .u64 i10, .slice a11 n11 c11, .slice a12 n12 c12, .int .u64 i13, .int .i64 i14, .int .i64 i15, .slice a16 n16 c16, .slice a17 n17 c17, .slice a18 n18 c18, .slice a19 n19 c19, .int .u64 i20, .slice a21 n21 c21] <|
 .call 27 ([.agg #[.int .u64 i5, .int .i64 i6, .int .i64 i7, .int .i64 i8, .int .u64 i9, .int .u64 i10, .slice a11 n11 c11, .slice a12 n12 c12, .int .u64 i13, .int .i64 i14, .int .i64 i15, .slice a16 n16 c16, .slice a17 n17 c17, .slice a18 n18 c18, .slice a19 n19 c19, .int .u64 i20, .slice a21 n21 c21], .int .u64 i]) fun v22 =>
 .exI fun i23 =>
 .exB fun b24 =>
 .isL [v22] [.tuple #[.int .u64 i23, .bool b24]] <|
 bif b24 then
  (.load ⟨p1, 0, none⟩ 1 fun v25 =>
  .exI fun i26 =>
  .isL v25 [.int .u64 i26] <|
  bif (i23 == i26) then
   (.ret (.tuple #[]))
  else
  (bif b24 then
   (.new 59 [.int .i64 3, .int .u64 0, .int .i64 0, .int .u64 0, .slice none 0 0, .int .u64 i, .int .u64 0, .int .u64 0, .slice none 0 0] fun p27 =>
   .call 56 ([.pointer (some ⟨s, 0, none⟩), .slice (some ⟨p27, 0, none⟩) 1 1]) fun v28 =>
   .isL [v28] [.tuple #[]] <|
   .draw <|
   .load ⟨s, 7, none⟩ 1 fun v29 =>
   .exS fun a30 n30 c30 =>
   .isL v29 [.slice a30 n30 c30] <|
   .load ⟨s, 4, none⟩ 1 fun v31 =>
   .exI fun i32 =>
   .isL v31 [.int .u64 i32] <|
   .need ((0 : Int) ≤ IntKind.u64.wrap (IntKind.u64.wrap (i - i32) - 1) ∧ IntKind.u64.wrap (IntKind.u64.wrap (i - i32) - 1) ≤ (↑c30 : Int)) <|
   .store ⟨s, 7, none⟩ [.slice (if c30 = 0 then a30 else Option.map (fun x => x) a30) ((IntKind.u64.wrap (IntKind.u64.wrap (i - i32) - 1)).toNat - 0) (c30 - 0)] <|
   .load ⟨p1, 0, none⟩ 2 fun v33 =>
   .exI fun i34 =>
   .exS fun a35 n35 c35 =>
   .isL v33 [.int .u64 i34, .slice a35 n35 c35] <|
   .load ⟨p1, 0, none⟩ 2 fun v36 =>
   .exI fun i37 =>
   .exS fun a38 n38 c38 =>
   .isL v36 [.int .u64 i37, .slice a38 n38 c38] <|
   .new 57 [.int .u64 i34, .slice a35 n35 c35, .int .u64 i37, .slice a38 n38 c38] fun p39 =>
   .call 94 ([.slice (some ⟨p39, 0, none⟩) 2 2]) fun v40 =>
   .exS fun a41 n41 c41 =>
   .isL [v40] [.slice a41 n41 c41] <|
   .draw <|
   .load ⟨s, 7, none⟩ 1 fun v42 =>
   .exS fun a43 n43 c43 =>
   .isL v42 [.slice a43 n43 c43] <|
   .some a41 fun x44 =>
   .need ((0 : Int) ≤ 0 ∧ 0 < (↑n41 : Int)) <|
   .load x44 2 fun v45 =>
   .exI fun i46 =>
   .exS fun a47 n47 c47 =>
   .isL v45 [.int .u64 i46, .slice a47 n47 c47] <|
   .new 57 [.int .u64 i46, .slice a47 n47 c47] fun p48 =>
   .append 57 2 32 [.int .u64 0, .slice none 0 0] a43 n43 c43 (some ⟨p48, 0, none⟩) 1 fun a49 n49 c49 =>
   .store ⟨s, 7, none⟩ [.slice a49 n49 c49] <|
   .some a41 fun x50 =>
   .need ((0 : Int) ≤ 1 ∧ 1 < (↑n41 : Int)) <|
   .load (x50.add 2) 2 fun v51 =>
   .exI fun i52 =>
   .exS fun a53 n53 c53 =>
   .isL v51 [.int .u64 i52, .slice a53 n53 c53] <|
   .new 59 [.int .i64 2, .int .u64 0, .int .i64 0, .int .u64 i52, .slice a53 n53 c53, .int .u64 0, .int .u64 0, .int .u64 0, .slice none 0 0] fun p54 =>
   .call 56 ([.pointer (some ⟨s, 0, none⟩), .slice (some ⟨p54, 0, none⟩) 1 1]) fun v55 =>
   .isL [v55] [.tuple #[]] <|
   .ret (.tuple #[]))
  else
  (.load ⟨p1, 0, none⟩ 2 fun v56 =>
  .exI fun i57 =>
  .exS fun a58 n58 c58 =>
  .isL v56 [.int .u64 i57, .slice a58 n58 c58] <|
  .load ⟨p1, 0, none⟩ 2 fun v59 =>
  .exI fun i60 =>
  .exS fun a61 n61 c61 =>
  .isL v59 [.int .u64 i60, .slice a61 n61 c61] <|
  .new 57 [.int .u64 i57, .slice a58 n58 c58, .int .u64 i60, .slice a61 n61 c61] fun p62 =>
  .call 94 ([.slice (some ⟨p62, 0, none⟩) 2 2]) fun v63 =>
  .exS fun a64 n64 c64 =>
  .isL [v63] [.slice a64 n64 c64] <|
  .draw <|
  .load ⟨s, 7, none⟩ 1 fun v65 =>
  .exS fun a66 n66 c66 =>
  .isL v65 [.slice a66 n66 c66] <|
  .some a64 fun x67 =>
  .need ((0 : Int) ≤ 0 ∧ 0 < (↑n64 : Int)) <|
  .load x67 2 fun v68 =>
  .exI fun i69 =>
  .exS fun a70 n70 c70 =>
  .isL v68 [.int .u64 i69, .slice a70 n70 c70] <|
  .new 57 [.int .u64 i69, .slice a70 n70 c70] fun p71 =>
  .append 57 2 32 [.int .u64 0, .slice none 0 0] a66 n66 c66 (some ⟨p71, 0, none⟩) 1 fun a72 n72 c72 =>
  .store ⟨s, 7, none⟩ [.slice a72 n72 c72] <|
  .some a64 fun x73 =>
  .need ((0 : Int) ≤ 1 ∧ 1 < (↑n64 : Int)) <|
  .load (x73.add 2) 2 fun v74 =>
  .exI fun i75 =>
  .exS fun a76 n76 c76 =>
  .isL v74 [.int .u64 i75, .slice a76 n76 c76] <|
  .new 59 [.int .i64 2, .int .u64 0, .int .i64 0, .int .u64 i75, .slice a76 n76 c76, .int .u64 0, .int .u64 0, .int .u64 0, .slice none 0 0] fun p77 =>
  .call 56 ([.pointer (some ⟨s, 0, none⟩), .slice (some ⟨p77, 0, none⟩) 1 1]) fun v78 =>
  .isL [v78] [.tuple #[]] <|
  .ret (.tuple #[]))))
 else
 (bif b24 then
  (.new 59 [.int .i64 3, .int .u64 0, .int .i64 0, .int .u64 0, .slice none 0 0, .int .u64 i, .int .u64 0, .int .u64 0, .slice none 0 0] fun p79 =>
  .call 56 ([.pointer (some ⟨s, 0, none⟩), .slice (some ⟨p79, 0, none⟩) 1 1]) fun v80 =>
  .isL [v80] [.tuple #[]] <|
  .draw <|
  .load ⟨s, 7, none⟩ 1 fun v81 =>
  .exS fun a82 n82 c82 =>
  .isL v81 [.slice a82 n82 c82] <|
  .load ⟨s, 4, none⟩ 1 fun v83 =>
  .exI fun i84 =>
  .isL v83 [.int .u64 i84] <|
  .need ((0 : Int) ≤ IntKind.u64.wrap (IntKind.u64.wrap (i - i84) - 1) ∧ IntKind.u64.wrap (IntKind.u64.wrap (i - i84) - 1) ≤ (↑c82 : Int)) <|
  .store ⟨s, 7, none⟩ [.slice (if c82 = 0 then a82 else Option.map (fun x => x) a82) ((IntKind.u64.wrap (IntKind.u64.wrap (i - i84) - 1)).toNat - 0) (c82 - 0)] <|
  .load ⟨p1, 0, none⟩ 2 fun v85 =>
  .exI fun i86 =>
  .exS fun a87 n87 c87 =>
  .isL v85 [.int .u64 i86, .slice a87 n87 c87] <|
  .load ⟨p1, 0, none⟩ 2 fun v88 =>
  .exI fun i89 =>
  .exS fun a90 n90 c90 =>
  .isL v88 [.int .u64 i89, .slice a90 n90 c90] <|
  .new 57 [.int .u64 i86, .slice a87 n87 c87, .int .u64 i89, .slice a90 n90 c90] fun p91 =>
  .call 94 ([.slice (some ⟨p91, 0, none⟩) 2 2]) fun v92 =>
  .exS fun a93 n93 c93 =>
  .isL [v92] [.slice a93 n93 c93] <|
  .draw <|
  .load ⟨s, 7, none⟩ 1 fun v94 =>
  .exS fun a95 n95 c95 =>
  .isL v94 [.slice a95 n95 c95] <|
  .some a93 fun x96 =>
  .need ((0 : Int) ≤ 0 ∧ 0 < (↑n93 : Int)) <|
  .load x96 2 fun v97 =>
  .exI fun i98 =>
  .exS fun a99 n99 c99 =>
  .isL v97 [.int .u64 i98, .slice a99 n99 c99] <|
  .new 57 [.int .u64 i98, .slice a99 n99 c99] fun p100 =>
  .append 57 2 32 [.int .u64 0, .slice none 0 0] a95 n95 c95 (some ⟨p100, 0, none⟩) 1 fun a101 n101 c101 =>
  .store ⟨s, 7, none⟩ [.slice a101 n101 c101] <|
  .some a93 fun x102 =>
  .need ((0 : Int) ≤ 1 ∧ 1 < (↑n93 : Int)) <|
  .load (x102.add 2) 2 fun v103 =>
  .exI fun i104 =>
  .exS fun a105 n105 c105 =>
  .isL v103 [.int .u64 i104, .slice a105 n105 c105] <|
  .new 59 [.int .i64 2, .int .u64 0, .int .i64 0, .int .u64 i104, .slice a105 n105 c105, .int .u64 0, .int .u64 0, .int .u64 0, .slice none 0 0] fun p106 =>
  .call 56 ([.pointer (some ⟨s, 0, none⟩), .slice (some ⟨p106, 0, none⟩) 1 1]) fun v107 =>
  .isL [v107] [.tuple #[]] <|
  .ret (.tuple #[]))
 else
 (.load ⟨p1, 0, none⟩ 2 fun v108 =>
 .exI fun i109 =>
 .exS fun a110 n110 c110 =>
 .isL v108 [.int .u64 i109, .slice a110 n110 c110] <|
 .load ⟨p1, 0, none⟩ 2 fun v111 =>
 .exI fun i112 =>
 .exS fun a113 n113 c113 =>
 .isL v111 [.int .u64 i112, .slice a113 n113 c113] <|
 .new 57 [.int .u64 i109, .slice a110 n110 c110, .int .u64 i112, .slice a113 n113 c113] fun p114 =>
 .call 94 ([.slice (some ⟨p114, 0, none⟩) 2 2]) fun v115 =>
 .exS fun a116 n116 c116 =>
 .isL [v115] [.slice a116 n116 c116] <|
 .draw <|
 .load ⟨s, 7, none⟩ 1 fun v117 =>
 .exS fun a118 n118 c118 =>
 .isL v117 [.slice a118 n118 c118] <|
 .some a116 fun x119 =>
 .need ((0 : Int) ≤ 0 ∧ 0 < (↑n116 : Int)) <|
 .load x119 2 fun v120 =>
 .exI fun i121 =>
 .exS fun a122 n122 c122 =>
 .isL v120 [.int .u64 i121, .slice a122 n122 c122] <|
 .new 57 [.int .u64 i121, .slice a122 n122 c122] fun p123 =>
 .append 57 2 32 [.int .u64 0, .slice none 0 0] a118 n118 c118 (some ⟨p123, 0, none⟩) 1 fun a124 n124 c124 =>
 .store ⟨s, 7, none⟩ [.slice a124 n124 c124] <|
 .some a116 fun x125 =>
 .need ((0 : Int) ≤ 1 ∧ 1 < (↑n116 : Int)) <|
 .load (x125.add 2) 2 fun v126 =>
 .exI fun i127 =>
 .exS fun a128 n128 c128 =>
 .isL v126 [.int .u64 i127, .slice a128 n128 c128] <|
 .new 59 [.int .i64 2, .int .u64 0, .int .i64 0, .int .u64 i127, .slice a128 n128 c128, .int .u64 0, .int .u64 0, .int .u64 0, .slice none 0 0] fun p129 =>
 .call 56 ([.pointer (some ⟨s, 0, none⟩), .slice (some ⟨p129, 0, none⟩) 1 1]) fun v130 =>
 .isL [v130] [.tuple #[]] <|
 .ret (.tuple #[]))))
theorem e107 (s : Nat) (i : Int) (e0 : Int) (e1a : Option Addr) (e1n : Nat) (e1c : Nat) : genFn Try.prog noM noM Try.f107 [.pointer (some ⟨s, 0, none⟩), .int .u64 i, .agg #[.int .u64 e0, .slice e1a e1n e1c]] = t107 s i e0 e1a e1n e1c := by kernel_rfl
theorem r107 (s : Nat) (i : Int) (e0 : Int) (e1a : Option Addr) (e1n : Nat) (e1c : Nat) {R : Value → World → Prop} {w : World} (h : (t107 s i e0 e1a e1n e1c).wp Try.prog R (fun _ _ _ => False) w) : Runs Try.prog 107 [.pointer (some ⟨s, 0, none⟩), .int .u64 i, .agg #[.int .u64 e0, .slice e1a e1n e1c]] w R :=
 genFn_runs mixed noM noM Try.func107 (by kernel_rfl) (by rw [e107]; exact h)
def t108 (a0 : Int) (a1 : Int) (a2 : Int) (a3 : Int) (a4a : Option Addr) (a4n : Nat) (a4c : Nat) (a5 : Int) (a6 : Int) (a7 : Int) (a8a : Option Addr) (a8n : Nat) (a8c : Nat) (b0 : Int) (b1 : Int) (b2 : Int) (b3 : Int) (b4a : Option Addr) (b4n : Nat) (b4c : Nat) (b5 : Int) (b6 : Int) (b7 : Int) (b8a : Option Addr) (b8n : Nat) (b8c : Nat) : VC :=
 .new 59 [.int .i64 a0, .int .u64 a1, .int .i64 a2, .int .u64 a3, .slice a4a a4n a4c, .int .u64 a5, .int .u64 a6, .int .u64 a7, .slice a8a a8n a8c] fun p1 =>
 .new 59 [.int .i64 b0, .int .u64 b1, .int .i64 b2, .int .u64 b3, .slice b4a b4n b4c, .int .u64 b5, .int .u64 b6, .int .u64 b7, .slice b8a b8n b8c] fun p2 =>
 .load ⟨p1, 0, none⟩ 1 fun v3 =>
 .exI fun i4 =>
 .isL v3 [.int .i64 i4] <|
 .load ⟨p2, 0, none⟩ 1 fun v5 =>
 .exI fun i6 =>
 .isL v5 [.int .i64 i6] <|
 bif (i4 == i6) then
  (.load ⟨p1, 1, none⟩ 2 fun v7 =>
  .exI fun i8 =>
  .exI fun i9 =>
  .isL v7 [.int .u64 i8, .int .i64 i9] <|
  .load ⟨p2, 1, none⟩ 2 fun v10 =>
  .exI fun i11 =>
  .exI fun i12 =>
  .isL v10 [.int .u64 i11, .int .i64 i12] <|
  bif (i8 == i11 && (i9 == i12 && true)) then
   (.load ⟨p1, 3, none⟩ 2 fun v13 =>
   .exI fun i14 =>
   .exS fun a15 n15 c15 =>
   .isL v13 [.int .u64 i14, .slice a15 n15 c15] <|
   .new 57 [.int .u64 i14, .slice a15 n15 c15] fun p16 =>
   .load ⟨p2, 3, none⟩ 2 fun v17 =>
   .exI fun i18 =>
   .exS fun a19 n19 c19 =>
   .isL v17 [.int .u64 i18, .slice a19 n19 c19] <|
   .new 57 [.int .u64 i18, .slice a19 n19 c19] fun p20 =>
   .call 48 ([.slice (some ⟨p16, 0, none⟩) 1 1, .slice (some ⟨p20, 0, none⟩) 1 1]) fun v21 =>
   .exB fun b22 =>
   .isL [v21] [.bool b22] <|
   bif b22 then
    (.load ⟨p1, 5, none⟩ 1 fun v23 =>
    .exI fun i24 =>
    .isL v23 [.int .u64 i24] <|
    .load ⟨p2, 5, none⟩ 1 fun v25 =>
    .exI fun i26 =>
    .isL v25 [.int .u64 i26] <|
    bif (i24 == i26) then
     (.load ⟨p1, 6, none⟩ 3 fun v27 =>
     .exI fun i28 =>
     .exI fun i29 =>
     .exS fun a30 n30 c30 =>
     .isL v27 [.int .u64 i28, .int .u64 i29, .slice a30 n30 c30] <|
     .load ⟨p2, 6, none⟩ 3 fun v31 =>
     .exI fun i32 =>
     .exI fun i33 =>
     .exS fun a34 n34 c34 =>
     .isL v31 [.int .u64 i32, .int .u64 i33, .slice a34 n34 c34] <|
     .call 49 ([.agg #[.int .u64 i28, .int .u64 i29, .slice a30 n30 c30], .agg #[.int .u64 i32, .int .u64 i33, .slice a34 n34 c34]]) fun v35 =>
     .exB fun b36 =>
     .isL [v35] [.bool b36] <|
     .ret (.bool b36))
    else
    (.ret (.bool false)))
   else
   (.ret (.bool false)))
  else
  (.ret (.bool false)))
 else
 (.ret (.bool false))
theorem e108 (a0 : Int) (a1 : Int) (a2 : Int) (a3 : Int) (a4a : Option Addr) (a4n : Nat) (a4c : Nat) (a5 : Int) (a6 : Int) (a7 : Int) (a8a : Option Addr) (a8n : Nat) (a8c : Nat) (b0 : Int) (b1 : Int) (b2 : Int) (b3 : Int) (b4a : Option Addr) (b4n : Nat) (b4c : Nat) (b5 : Int) (b6 : Int) (b7 : Int) (b8a : Option Addr) (b8n : Nat) (b8c : Nat) : genFn Try.prog noM noM Try.f108 [.agg #[.int .i64 a0, .int .u64 a1, .int .i64 a2, .int .u64 a3, .slice a4a a4n a4c, .int .u64 a5, .int .u64 a6, .int .u64 a7, .slice a8a a8n a8c], .agg #[.int .i64 b0, .int .u64 b1, .int .i64 b2, .int .u64 b3, .slice b4a b4n b4c, .int .u64 b5, .int .u64 b6, .int .u64 b7, .slice b8a b8n b8c]] = t108 a0 a1 a2 a3 a4a a4n a4c a5 a6 a7 a8a a8n a8c b0 b1 b2 b3 b4a b4n b4c b5 b6 b7 b8a b8n b8c := by kernel_rfl
theorem r108 (a0 : Int) (a1 : Int) (a2 : Int) (a3 : Int) (a4a : Option Addr) (a4n : Nat) (a4c : Nat) (a5 : Int) (a6 : Int) (a7 : Int) (a8a : Option Addr) (a8n : Nat) (a8c : Nat) (b0 : Int) (b1 : Int) (b2 : Int) (b3 : Int) (b4a : Option Addr) (b4n : Nat) (b4c : Nat) (b5 : Int) (b6 : Int) (b7 : Int) (b8a : Option Addr) (b8n : Nat) (b8c : Nat) {R : Value → World → Prop} {w : World} (h : (t108 a0 a1 a2 a3 a4a a4n a4c a5 a6 a7 a8a a8n a8c b0 b1 b2 b3 b4a b4n b4c b5 b6 b7 b8a b8n b8c).wp Try.prog R (fun _ _ _ => False) w) : Runs Try.prog 108 [.agg #[.int .i64 a0, .int .u64 a1, .int .i64 a2, .int .u64 a3, .slice a4a a4n a4c, .int .u64 a5, .int .u64 a6, .int .u64 a7, .slice a8a a8n a8c], .agg #[.int .i64 b0, .int .u64 b1, .int .i64 b2, .int .u64 b3, .slice b4a b4n b4c, .int .u64 b5, .int .u64 b6, .int .u64 b7, .slice b8a b8n b8c]] w R :=
 genFn_runs mixed noM noM Try.func108 (by kernel_rfl) (by rw [e108]; exact h)
def t109 (a0 : Int) (a1 : Int) (a2 : Int) (a3 : Int) (a4 : Int) (a5 : Int) (a6a : Option Addr) (a6n : Nat) (a6c : Nat) (a7 : Int) (a8 : Int) (a9 : Bool) (a10 : Int) (a11 : Int) (a12a : Option Addr) (a12n : Nat) (a12c : Nat) (a13 : Int) (a14 : Int) (a15 : Int) (a16 : ByteArray) (a17 : ByteArray) (a18 : Int) (a19 : Int) (a20 : ByteArray) (b0 : Int) (b1 : Int) (b2 : Int) (b3 : Int) (b4 : Int) (b5 : Int) (b6a : Option Addr) (b6n : Nat) (b6c : Nat) (b7 : Int) (b8 : Int) (b9 : Bool) (b10 : Int) (b11 : Int) (b12a : Option Addr) (b12n : Nat) (b12c : Nat) (b13 : Int) (b14 : Int) (b15 : Int) (b16 : ByteArray) (b17 : ByteArray) (b18 : Int) (b19 : Int) (b20 : ByteArray) : VC :=
 .new 70 [.int .i64 a0, .int .i64 a1, .int .i64 a2, .int .u64 a3, .int .u64 a4, .int .u64 a5, .slice a6a a6n a6c, .int .u64 a7, .int .u64 a8, .bool a9, .int .u64 a10, .int .u64 a11, .slice a12a a12n a12c, .int .i64 a13, .int .i64 a14, .int .u64 a15, .string a16, .string a17, .int .u64 a18, .int .i64 a19, .string a20] fun p1 =>
 .new 70 [.int .i64 b0, .int .i64 b1, .int .i64 b2, .int .u64 b3, .int .u64 b4, .int .u64 b5, .slice b6a b6n b6c, .int .u64 b7, .int .u64 b8, .bool b9, .int .u64 b10, .int .u64 b11, .slice b12a b12n b12c, .int .i64 b13, .int .i64 b14, .int .u64 b15, .string b16, .string b17, .int .u64 b18, .int .i64 b19, .string b20] fun p2 =>
 .load ⟨p1, 0, none⟩ 1 fun v3 =>
 .exI fun i4 =>
 .isL v3 [.int .i64 i4] <|
 .load ⟨p2, 0, none⟩ 1 fun v5 =>
 .exI fun i6 =>
 .isL v5 [.int .i64 i6] <|
 bif (i4 == i6) then
  (.load ⟨p1, 1, none⟩ 1 fun v7 =>
  .exI fun i8 =>
  .isL v7 [.int .i64 i8] <|
  .load ⟨p2, 1, none⟩ 1 fun v9 =>
  .exI fun i10 =>
  .isL v9 [.int .i64 i10] <|
  bif (i8 == i10) then
   (.load ⟨p1, 2, none⟩ 1 fun v11 =>
   .exI fun i12 =>
   .isL v11 [.int .i64 i12] <|
   .load ⟨p2, 2, none⟩ 1 fun v13 =>
   .exI fun i14 =>
   .isL v13 [.int .i64 i14] <|
   bif (i12 == i14) then
    (.load ⟨p1, 3, none⟩ 1 fun v15 =>
    .exI fun i16 =>
    .isL v15 [.int .u64 i16] <|
    .load ⟨p2, 3, none⟩ 1 fun v17 =>
    .exI fun i18 =>
    .isL v17 [.int .u64 i18] <|
    bif (i16 == i18) then
     (.load ⟨p1, 4, none⟩ 1 fun v19 =>
     .exI fun i20 =>
     .isL v19 [.int .u64 i20] <|
     .load ⟨p2, 4, none⟩ 1 fun v21 =>
     .exI fun i22 =>
     .isL v21 [.int .u64 i22] <|
     bif (i20 == i22) then
      (.load ⟨p1, 5, none⟩ 1 fun v23 =>
      .exI fun i24 =>
      .isL v23 [.int .u64 i24] <|
      .load ⟨p2, 5, none⟩ 1 fun v25 =>
      .exI fun i26 =>
      .isL v25 [.int .u64 i26] <|
      bif (i24 == i26) then
       (.load ⟨p1, 7, none⟩ 1 fun v27 =>
       .exI fun i28 =>
       .isL v27 [.int .u64 i28] <|
       .load ⟨p2, 7, none⟩ 1 fun v29 =>
       .exI fun i30 =>
       .isL v29 [.int .u64 i30] <|
       bif (i28 == i30) then
        (.load ⟨p1, 8, none⟩ 1 fun v31 =>
        .exI fun i32 =>
        .isL v31 [.int .u64 i32] <|
        .load ⟨p2, 8, none⟩ 1 fun v33 =>
        .exI fun i34 =>
        .isL v33 [.int .u64 i34] <|
        bif (i32 == i34) then
         (.load ⟨p1, 9, none⟩ 1 fun v35 =>
         .exB fun b36 =>
         .isL v35 [.bool b36] <|
         .load ⟨p2, 9, none⟩ 1 fun v37 =>
         .exB fun b38 =>
         .isL v37 [.bool b38] <|
         bif (b36 == b38) then
          (.load ⟨p1, 6, none⟩ 1 fun v39 =>
          .exS fun a40 n40 c40 =>
          .isL v39 [.slice a40 n40 c40] <|
          .load ⟨p2, 6, none⟩ 1 fun v41 =>
          .exS fun a42 n42 c42 =>
          .isL v41 [.slice a42 n42 c42] <|
          .call 48 ([.slice a40 n40 c40, .slice a42 n42 c42]) fun v43 =>
          .exB fun b44 =>
          .isL [v43] [.bool b44] <|
          bif b44 then
           (.load ⟨p1, 10, none⟩ 3 fun v45 =>
           .exI fun i46 =>
           .exI fun i47 =>
           .exS fun a48 n48 c48 =>
           .isL v45 [.int .u64 i46, .int .u64 i47, .slice a48 n48 c48] <|
           .load ⟨p2, 10, none⟩ 3 fun v49 =>
           .exI fun i50 =>
           .exI fun i51 =>
           .exS fun a52 n52 c52 =>
           .isL v49 [.int .u64 i50, .int .u64 i51, .slice a52 n52 c52] <|
           .call 49 ([.agg #[.int .u64 i46, .int .u64 i47, .slice a48 n48 c48], .agg #[.int .u64 i50, .int .u64 i51, .slice a52 n52 c52]]) fun v53 =>
           .exB fun b54 =>
           .isL [v53] [.bool b54] <|
           bif b54 then
            (.load ⟨p1, 13, none⟩ 6 fun v55 =>
            .exI fun i56 =>
            .exI fun i57 =>
            .exI fun i58 =>
            .exT fun s59 =>
            .exT fun s60 =>
            .exI fun i61 =>
            .isL v55 [.int .i64 i56, .int .i64 i57, .int .u64 i58, .string s59, .string s60, .int .u64 i61] <|
            .load ⟨p2, 13, none⟩ 6 fun v62 =>
            .exI fun i63 =>
            .exI fun i64 =>
            .exI fun i65 =>
            .exT fun s66 =>
            .exT fun s67 =>
            .exI fun i68 =>
            .isL v62 [.int .i64 i63, .int .i64 i64, .int .u64 i65, .string s66, .string s67, .int .u64 i68] <|
            bif (i56 == i63 && (i57 == i64 && (i58 == i65 && (s59.toList == s66.toList && (s60.toList == s67.toList && (i61 == i68 && true)))))) then
             (.load ⟨p1, 19, none⟩ 2 fun v69 =>
             .exI fun i70 =>
             .exT fun s71 =>
             .isL v69 [.int .i64 i70, .string s71] <|
             .load ⟨p2, 19, none⟩ 2 fun v72 =>
             .exI fun i73 =>
             .exT fun s74 =>
             .isL v72 [.int .i64 i73, .string s74] <|
             .ret (.bool (i70 == i73 && (s71.toList == s74.toList && true))))
            else
            (.ret (.bool false)))
           else
           (.ret (.bool false)))
          else
          (.ret (.bool false)))
         else
         (.ret (.bool false)))
        else
        (.ret (.bool false)))
       else
       (.ret (.bool false)))
      else
      (.ret (.bool false)))
     else
     (.ret (.bool false)))
    else
    (.ret (.bool false)))
   else
   (.ret (.bool false)))
  else
  (.ret (.bool false)))
 else
 (.ret (.bool false))
theorem e109 (a0 : Int) (a1 : Int) (a2 : Int) (a3 : Int) (a4 : Int) (a5 : Int) (a6a : Option Addr) (a6n : Nat) (a6c : Nat) (a7 : Int) (a8 : Int) (a9 : Bool) (a10 : Int) (a11 : Int) (a12a : Option Addr) (a12n : Nat) (a12c : Nat) (a13 : Int) (a14 : Int) (a15 : Int) (a16 : ByteArray) (a17 : ByteArray) (a18 : Int) (a19 : Int) (a20 : ByteArray) (b0 : Int) (b1 : Int) (b2 : Int) (b3 : Int) (b4 : Int) (b5 : Int) (b6a : Option Addr) (b6n : Nat) (b6c : Nat) (b7 : Int) (b8 : Int) (b9 : Bool) (b10 : Int) (b11 : Int) (b12a : Option Addr) (b12n : Nat) (b12c : Nat) (b13 : Int) (b14 : Int) (b15 : Int) (b16 : ByteArray) (b17 : ByteArray) (b18 : Int) (b19 : Int) (b20 : ByteArray) : genFn Try.prog noM noM Try.f109 [.agg #[.int .i64 a0, .int .i64 a1, .int .i64 a2, .int .u64 a3, .int .u64 a4, .int .u64 a5, .slice a6a a6n a6c, .int .u64 a7, .int .u64 a8, .bool a9, .int .u64 a10, .int .u64 a11, .slice a12a a12n a12c, .int .i64 a13, .int .i64 a14, .int .u64 a15, .string a16, .string a17, .int .u64 a18, .int .i64 a19, .string a20], .agg #[.int .i64 b0, .int .i64 b1, .int .i64 b2, .int .u64 b3, .int .u64 b4, .int .u64 b5, .slice b6a b6n b6c, .int .u64 b7, .int .u64 b8, .bool b9, .int .u64 b10, .int .u64 b11, .slice b12a b12n b12c, .int .i64 b13, .int .i64 b14, .int .u64 b15, .string b16, .string b17, .int .u64 b18, .int .i64 b19, .string b20]] = t109 a0 a1 a2 a3 a4 a5 a6a a6n a6c a7 a8 a9 a10 a11 a12a a12n a12c a13 a14 a15 a16 a17 a18 a19 a20 b0 b1 b2 b3 b4 b5 b6a b6n b6c b7 b8 b9 b10 b11 b12a b12n b12c b13 b14 b15 b16 b17 b18 b19 b20 := by kernel_rfl
theorem r109 (a0 : Int) (a1 : Int) (a2 : Int) (a3 : Int) (a4 : Int) (a5 : Int) (a6a : Option Addr) (a6n : Nat) (a6c : Nat) (a7 : Int) (a8 : Int) (a9 : Bool) (a10 : Int) (a11 : Int) (a12a : Option Addr) (a12n : Nat) (a12c : Nat) (a13 : Int) (a14 : Int) (a15 : Int) (a16 : ByteArray) (a17 : ByteArray) (a18 : Int) (a19 : Int) (a20 : ByteArray) (b0 : Int) (b1 : Int) (b2 : Int) (b3 : Int) (b4 : Int) (b5 : Int) (b6a : Option Addr) (b6n : Nat) (b6c : Nat) (b7 : Int) (b8 : Int) (b9 : Bool) (b10 : Int) (b11 : Int) (b12a : Option Addr) (b12n : Nat) (b12c : Nat) (b13 : Int) (b14 : Int) (b15 : Int) (b16 : ByteArray) (b17 : ByteArray) (b18 : Int) (b19 : Int) (b20 : ByteArray) {R : Value → World → Prop} {w : World} (h : (t109 a0 a1 a2 a3 a4 a5 a6a a6n a6c a7 a8 a9 a10 a11 a12a a12n a12c a13 a14 a15 a16 a17 a18 a19 a20 b0 b1 b2 b3 b4 b5 b6a b6n b6c b7 b8 b9 b10 b11 b12a b12n b12c b13 b14 b15 b16 b17 b18 b19 b20).wp Try.prog R (fun _ _ _ => False) w) : Runs Try.prog 109 [.agg #[.int .i64 a0, .int .i64 a1, .int .i64 a2, .int .u64 a3, .int .u64 a4, .int .u64 a5, .slice a6a a6n a6c, .int .u64 a7, .int .u64 a8, .bool a9, .int .u64 a10, .int .u64 a11, .slice a12a a12n a12c, .int .i64 a13, .int .i64 a14, .int .u64 a15, .string a16, .string a17, .int .u64 a18, .int .i64 a19, .string a20], .agg #[.int .i64 b0, .int .i64 b1, .int .i64 b2, .int .u64 b3, .int .u64 b4, .int .u64 b5, .slice b6a b6n b6c, .int .u64 b7, .int .u64 b8, .bool b9, .int .u64 b10, .int .u64 b11, .slice b12a b12n b12c, .int .i64 b13, .int .i64 b14, .int .u64 b15, .string b16, .string b17, .int .u64 b18, .int .i64 b19, .string b20]] w R :=
 genFn_runs mixed noM noM Try.func109 (by kernel_rfl) (by rw [e109]; exact h)
def t110 (sa : Option Addr) (sn : Nat) (sc : Nat) : VC :=
 bif sa.isNone then
  (.ret (.slice none 0 0))
 else
 (.new 57 [] fun p1 =>
 .append 57 2 32 [.int .u64 0, .slice none 0 0] (some ⟨p1, 0, none⟩) 0 0 sa sn fun a2 n2 c2 =>
 .ret (.slice a2 n2 c2))
theorem e110 (sa : Option Addr) (sn : Nat) (sc : Nat) : genFn Try.prog noM noM Try.f110 [.slice sa sn sc] = t110 sa sn sc := by kernel_rfl
theorem r110 (sa : Option Addr) (sn : Nat) (sc : Nat) {R : Value → World → Prop} {w : World} (h : (t110 sa sn sc).wp Try.prog R (fun _ _ _ => False) w) : Runs Try.prog 110 [.slice sa sn sc] w R :=
 genFn_runs mixed noM noM Try.func110 (by kernel_rfl) (by rw [e110]; exact h)
def t111 (k : Int) (cap0 : Nat) (cap1 : Nat) : VC :=
 .draw <|
 .load ⟨cap0, 0, none⟩ 1 fun v1 =>
 .exN fun p2 =>
 .isL v1 [.pointer (some ⟨p2, 0, none⟩)] <|
 .load ⟨p2, 14, none⟩ 1 fun v3 =>
 .exS fun a4 n4 c4 =>
 .isL v3 [.slice a4 n4 c4] <|
 .some a4 fun x5 =>
 .need ((0 : Int) ≤ k ∧ k < (↑n4 : Int)) <|
 .load (x5.add (k.toNat * 1)) 1 fun v6 =>
 .exI fun i7 =>
 .isL v6 [.int .u64 i7] <|
 .load ⟨cap1, 2, none⟩ 1 fun v8 =>
 .exI fun i9 =>
 .isL v8 [.int .u64 i9] <|
 .ret (.bool (decide (i7 ≥ i9)))
theorem e111 (k : Int) (cap0 : Nat) (cap1 : Nat) : genFn Try.prog noM noM Try.f111 [.int .i64 k, .pointer (some ⟨cap0, 0, none⟩), .pointer (some ⟨cap1, 0, none⟩)] = t111 k cap0 cap1 := by kernel_rfl
theorem r111 (k : Int) (cap0 : Nat) (cap1 : Nat) {R : Value → World → Prop} {w : World} (h : (t111 k cap0 cap1).wp Try.prog R (fun _ _ _ => False) w) : Runs Try.prog 111 [.int .i64 k, .pointer (some ⟨cap0, 0, none⟩), .pointer (some ⟨cap1, 0, none⟩)] w R :=
 genFn_runs mixed noM noM Try.func111 (by kernel_rfl) (by rw [e111]; exact h)
end Go.Proofs.Ytnbfffmdplcajaa
