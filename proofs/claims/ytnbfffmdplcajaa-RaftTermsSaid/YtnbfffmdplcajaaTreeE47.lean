/- The trees of verification conditions of functions 47: printed by a program of mine, checked here. -/
import Derived.Test.YtnbfffmdplcajaaTree0
set_option linter.unusedVariables false
set_option maxRecDepth 100000
namespace Go.Proofs.Ytnbfffmdplcajaa
open Go.Vc
def lv47 : Marks := (fun | some 5 => some [(8, .int .i64 0)] | _ => none)
def t47 (r0 : Int) (r1 : Int) (r2 : Int) (r3 : Int) (r4 : Int) (r5 : Int) (r6a : Option Addr) (r6n : Nat) (r6c : Nat) (r7a : Option Addr) (r7n : Nat) (r7c : Nat) (r8 : Int) (r9 : Int) (r10 : Int) (r11a : Option Addr) (r11n : Nat) (r11c : Nat) (r12a : Option Addr) (r12n : Nat) (r12c : Nat) (r13a : Option Addr) (r13n : Nat) (r13c : Nat) (r14a : Option Addr) (r14n : Nat) (r14c : Nat) (r15 : Int) (r16a : Option Addr) (r16n : Nat) (r16c : Nat) (a0 : Int) (a1 : Int) (a2 : Int) (a3 : Int) (a4 : Int) (a5 : Int) (a6a : Option Addr) (a6n : Nat) (a6c : Nat) (a7a : Option Addr) (a7n : Nat) (a7c : Nat) (a8 : Int) (a9 : Int) (a10 : Int) (a11a : Option Addr) (a11n : Nat) (a11c : Nat) (a12a : Option Addr) (a12n : Nat) (a12c : Nat) (a13a : Option Addr) (a13n : Nat) (a13c : Nat) (a14a : Option Addr) (a14n : Nat) (a14c : Nat) (a15 : Int) (a16a : Option Addr) (a16n : Nat) (a16c : Nat) (o0a : Option Addr) (o0n : Nat) (o0c : Nat) (o1a : Option Addr) (o1n : Nat) (o1c : Nat) (o2a : Option Addr) (o2n : Nat) (o2c : Nat) : VC :=
 .new 36 [.int .u64 r0, .int .i64 r1, .int .i64 r2, .int .i64 r3, .int .u64 r4, .int .u64 r5, .slice r6a r6n r6c, .slice r7a r7n r7c, .int .u64 r8, .int .i64 r9, .int .i64 r10, .slice r11a r11n r11c, .slice r12a r12n r12c, .slice r13a r13n r13c, .slice r14a r14n r14c, .int .u64 r15, .slice r16a r16n r16c] fun p1 =>
 .new 36 [.int .u64 a0, .int .i64 a1, .int .i64 a2, .int .i64 a3, .int .u64 a4, .int .u64 a5, .slice a6a a6n a6c, .slice a7a a7n a7c, .int .u64 a8, .int .i64 a9, .int .i64 a10, .slice a11a a11n a11c, .slice a12a a12n a12c, .slice a13a a13n a13c, .slice a14a a14n a14c, .int .u64 a15, .slice a16a a16n a16c] fun p2 =>
 .new 48 [.slice o0a o0n o0c, .slice o1a o1n o1c, .slice o2a o2n o2c] fun p3 =>
 .load ⟨p2, 0, none⟩ 1 fun v4 =>
 .exI fun i5 =>
 .isL v4 [.int .u64 i5] <|
 .load ⟨p1, 0, none⟩ 1 fun v6 =>
 .exI fun i7 =>
 .isL v6 [.int .u64 i7] <|
 bif (decide (i5 < i7)) then
  (.ret (.bool false))
 else
 (.load ⟨p2, 0, none⟩ 1 fun v8 =>
 .exI fun i9 =>
 .isL v8 [.int .u64 i9] <|
 .load ⟨p1, 0, none⟩ 1 fun v10 =>
 .exI fun i11 =>
 .isL v10 [.int .u64 i11] <|
 bif (i9 == i11) then
  (.load ⟨p1, 1, none⟩ 1 fun v12 =>
  .exI fun i13 =>
  .isL v12 [.int .i64 i13] <|
  bif (i13 != 0) then
   (.load ⟨p2, 1, none⟩ 1 fun v14 =>
   .exI fun i15 =>
   .isL v14 [.int .i64 i15] <|
   .load ⟨p1, 1, none⟩ 1 fun v16 =>
   .exI fun i17 =>
   .isL v16 [.int .i64 i17] <|
   bif (i15 != i17) then
    (.ret (.bool false))
   else
   (.load ⟨p1, 0, none⟩ 2 fun v18 =>
   .exI fun i19 =>
   .exI fun i20 =>
   .isL v18 [.int .u64 i19, .int .i64 i20] <|
   .new 24 [.int .u64 0, .int .i64 0] fun p21 =>
   .store ⟨p21, 0, none⟩ [.int .u64 i19, .int .i64 i20] <|
   .loop 0 [.int .i64 0] (fun v22 =>
    .exI fun i23 =>
    .isL v22 [.int .i64 i23] <|
    .load ⟨p3, 0, none⟩ 1 fun v24 =>
    .exS fun a25 n25 c25 =>
    .isL v24 [.slice a25 n25 c25] <|
    bif (decide (i23 < (↑n25 : Int))) then
     (.load ⟨p3, 0, none⟩ 1 fun v26 =>
     .exS fun a27 n27 c27 =>
     .isL v26 [.slice a27 n27 c27] <|
     .some a27 fun x28 =>
     .need ((0 : Int) ≤ i23 ∧ i23 < (↑n27 : Int)) <|
     .load (x28.add (i23.toNat * 9)) 1 fun v29 =>
     .exI fun i30 =>
     .isL v29 [.int .i64 i30] <|
     bif (i30 == 1) then
      (.load ⟨p3, 0, none⟩ 1 fun v31 =>
      .exS fun a32 n32 c32 =>
      .isL v31 [.slice a32 n32 c32] <|
      .some a32 fun x33 =>
      .need ((0 : Int) ≤ i23 ∧ i23 < (↑n32 : Int)) <|
      .load ((x33.add (i23.toNat * 9)).add 1) 2 fun v34 =>
      .exI fun i35 =>
      .exI fun i36 =>
      .isL v34 [.int .u64 i35, .int .i64 i36] <|
      .store ⟨p21, 0, none⟩ [.int .u64 i35, .int .i64 i36] <|
      .again 0 [.int .i64 (IntKind.i64.wrap (i23 + 1))])
     else
     (.again 0 [.int .i64 (IntKind.i64.wrap (i23 + 1))]))
    else
    (.load ⟨p21, 0, none⟩ 2 fun v37 =>
    .exI fun i38 =>
    .exI fun i39 =>
    .isL v37 [.int .u64 i38, .int .i64 i39] <|
    .load ⟨p2, 0, none⟩ 2 fun v40 =>
    .exI fun i41 =>
    .exI fun i42 =>
    .isL v40 [.int .u64 i41, .int .i64 i42] <|
    .ret (.bool (i38 == i41 && (i39 == i42 && true)))))))
  else
  (.load ⟨p1, 0, none⟩ 2 fun v43 =>
  .exI fun i44 =>
  .exI fun i45 =>
  .isL v43 [.int .u64 i44, .int .i64 i45] <|
  .new 24 [.int .u64 0, .int .i64 0] fun p46 =>
  .store ⟨p46, 0, none⟩ [.int .u64 i44, .int .i64 i45] <|
  .loop 0 [.int .i64 0] (fun v47 =>
   .exI fun i48 =>
   .isL v47 [.int .i64 i48] <|
   .load ⟨p3, 0, none⟩ 1 fun v49 =>
   .exS fun a50 n50 c50 =>
   .isL v49 [.slice a50 n50 c50] <|
   bif (decide (i48 < (↑n50 : Int))) then
    (.load ⟨p3, 0, none⟩ 1 fun v51 =>
    .exS fun a52 n52 c52 =>
    .isL v51 [.slice a52 n52 c52] <|
    .some a52 fun x53 =>
    .need ((0 : Int) ≤ i48 ∧ i48 < (↑n52 : Int)) <|
    .load (x53.add (i48.toNat * 9)) 1 fun v54 =>
    .exI fun i55 =>
    .isL v54 [.int .i64 i55] <|
    bif (i55 == 1) then
     (.load ⟨p3, 0, none⟩ 1 fun v56 =>
     .exS fun a57 n57 c57 =>
     .isL v56 [.slice a57 n57 c57] <|
     .some a57 fun x58 =>
     .need ((0 : Int) ≤ i48 ∧ i48 < (↑n57 : Int)) <|
     .load ((x58.add (i48.toNat * 9)).add 1) 2 fun v59 =>
     .exI fun i60 =>
     .exI fun i61 =>
     .isL v59 [.int .u64 i60, .int .i64 i61] <|
     .store ⟨p46, 0, none⟩ [.int .u64 i60, .int .i64 i61] <|
     .again 0 [.int .i64 (IntKind.i64.wrap (i48 + 1))])
    else
    (.again 0 [.int .i64 (IntKind.i64.wrap (i48 + 1))]))
   else
   (.load ⟨p46, 0, none⟩ 2 fun v62 =>
   .exI fun i63 =>
   .exI fun i64 =>
   .isL v62 [.int .u64 i63, .int .i64 i64] <|
   .load ⟨p2, 0, none⟩ 2 fun v65 =>
   .exI fun i66 =>
   .exI fun i67 =>
   .isL v65 [.int .u64 i66, .int .i64 i67] <|
   .ret (.bool (i63 == i66 && (i64 == i67 && true)))))))
 else
 (.load ⟨p1, 0, none⟩ 2 fun v68 =>
 .exI fun i69 =>
 .exI fun i70 =>
 .isL v68 [.int .u64 i69, .int .i64 i70] <|
 .new 24 [.int .u64 0, .int .i64 0] fun p71 =>
 .store ⟨p71, 0, none⟩ [.int .u64 i69, .int .i64 i70] <|
 .loop 0 [.int .i64 0] (fun v72 =>
  .exI fun i73 =>
  .isL v72 [.int .i64 i73] <|
  .load ⟨p3, 0, none⟩ 1 fun v74 =>
  .exS fun a75 n75 c75 =>
  .isL v74 [.slice a75 n75 c75] <|
  bif (decide (i73 < (↑n75 : Int))) then
   (.load ⟨p3, 0, none⟩ 1 fun v76 =>
   .exS fun a77 n77 c77 =>
   .isL v76 [.slice a77 n77 c77] <|
   .some a77 fun x78 =>
   .need ((0 : Int) ≤ i73 ∧ i73 < (↑n77 : Int)) <|
   .load (x78.add (i73.toNat * 9)) 1 fun v79 =>
   .exI fun i80 =>
   .isL v79 [.int .i64 i80] <|
   bif (i80 == 1) then
    (.load ⟨p3, 0, none⟩ 1 fun v81 =>
    .exS fun a82 n82 c82 =>
    .isL v81 [.slice a82 n82 c82] <|
    .some a82 fun x83 =>
    .need ((0 : Int) ≤ i73 ∧ i73 < (↑n82 : Int)) <|
    .load ((x83.add (i73.toNat * 9)).add 1) 2 fun v84 =>
    .exI fun i85 =>
    .exI fun i86 =>
    .isL v84 [.int .u64 i85, .int .i64 i86] <|
    .store ⟨p71, 0, none⟩ [.int .u64 i85, .int .i64 i86] <|
    .again 0 [.int .i64 (IntKind.i64.wrap (i73 + 1))])
   else
   (.again 0 [.int .i64 (IntKind.i64.wrap (i73 + 1))]))
  else
  (.load ⟨p71, 0, none⟩ 2 fun v87 =>
  .exI fun i88 =>
  .exI fun i89 =>
  .isL v87 [.int .u64 i88, .int .i64 i89] <|
  .load ⟨p2, 0, none⟩ 2 fun v90 =>
  .exI fun i91 =>
  .exI fun i92 =>
  .isL v90 [.int .u64 i91, .int .i64 i92] <|
  .ret (.bool (i88 == i91 && (i89 == i92 && true)))))))
theorem e47 (r0 : Int) (r1 : Int) (r2 : Int) (r3 : Int) (r4 : Int) (r5 : Int) (r6a : Option Addr) (r6n : Nat) (r6c : Nat) (r7a : Option Addr) (r7n : Nat) (r7c : Nat) (r8 : Int) (r9 : Int) (r10 : Int) (r11a : Option Addr) (r11n : Nat) (r11c : Nat) (r12a : Option Addr) (r12n : Nat) (r12c : Nat) (r13a : Option Addr) (r13n : Nat) (r13c : Nat) (r14a : Option Addr) (r14n : Nat) (r14c : Nat) (r15 : Int) (r16a : Option Addr) (r16n : Nat) (r16c : Nat) (a0 : Int) (a1 : Int) (a2 : Int) (a3 : Int) (a4 : Int) (a5 : Int) (a6a : Option Addr) (a6n : Nat) (a6c : Nat) (a7a : Option Addr) (a7n : Nat) (a7c : Nat) (a8 : Int) (a9 : Int) (a10 : Int) (a11a : Option Addr) (a11n : Nat) (a11c : Nat) (a12a : Option Addr) (a12n : Nat) (a12c : Nat) (a13a : Option Addr) (a13n : Nat) (a13c : Nat) (a14a : Option Addr) (a14n : Nat) (a14c : Nat) (a15 : Int) (a16a : Option Addr) (a16n : Nat) (a16c : Nat) (o0a : Option Addr) (o0n : Nat) (o0c : Nat) (o1a : Option Addr) (o1n : Nat) (o1c : Nat) (o2a : Option Addr) (o2n : Nat) (o2c : Nat) : genFn Try.prog lv47 noM Try.f47 [.agg #[.int .u64 r0, .int .i64 r1, .int .i64 r2, .int .i64 r3, .int .u64 r4, .int .u64 r5, .slice r6a r6n r6c, .slice r7a r7n r7c, .int .u64 r8, .int .i64 r9, .int .i64 r10, .slice r11a r11n r11c, .slice r12a r12n r12c, .slice r13a r13n r13c, .slice r14a r14n r14c, .int .u64 r15, .slice r16a r16n r16c], .agg #[.int .u64 a0, .int .i64 a1, .int .i64 a2, .int .i64 a3, .int .u64 a4, .int .u64 a5, .slice a6a a6n a6c, .slice a7a a7n a7c, .int .u64 a8, .int .i64 a9, .int .i64 a10, .slice a11a a11n a11c, .slice a12a a12n a12c, .slice a13a a13n a13c, .slice a14a a14n a14c, .int .u64 a15, .slice a16a a16n a16c], .agg #[.slice o0a o0n o0c, .slice o1a o1n o1c, .slice o2a o2n o2c]] = t47 r0 r1 r2 r3 r4 r5 r6a r6n r6c r7a r7n r7c r8 r9 r10 r11a r11n r11c r12a r12n r12c r13a r13n r13c r14a r14n r14c r15 r16a r16n r16c a0 a1 a2 a3 a4 a5 a6a a6n a6c a7a a7n a7c a8 a9 a10 a11a a11n a11c a12a a12n a12c a13a a13n a13c a14a a14n a14c a15 a16a a16n a16c o0a o0n o0c o1a o1n o1c o2a o2n o2c := by kernel_rfl
theorem r47 (r0 : Int) (r1 : Int) (r2 : Int) (r3 : Int) (r4 : Int) (r5 : Int) (r6a : Option Addr) (r6n : Nat) (r6c : Nat) (r7a : Option Addr) (r7n : Nat) (r7c : Nat) (r8 : Int) (r9 : Int) (r10 : Int) (r11a : Option Addr) (r11n : Nat) (r11c : Nat) (r12a : Option Addr) (r12n : Nat) (r12c : Nat) (r13a : Option Addr) (r13n : Nat) (r13c : Nat) (r14a : Option Addr) (r14n : Nat) (r14c : Nat) (r15 : Int) (r16a : Option Addr) (r16n : Nat) (r16c : Nat) (a0 : Int) (a1 : Int) (a2 : Int) (a3 : Int) (a4 : Int) (a5 : Int) (a6a : Option Addr) (a6n : Nat) (a6c : Nat) (a7a : Option Addr) (a7n : Nat) (a7c : Nat) (a8 : Int) (a9 : Int) (a10 : Int) (a11a : Option Addr) (a11n : Nat) (a11c : Nat) (a12a : Option Addr) (a12n : Nat) (a12c : Nat) (a13a : Option Addr) (a13n : Nat) (a13c : Nat) (a14a : Option Addr) (a14n : Nat) (a14c : Nat) (a15 : Int) (a16a : Option Addr) (a16n : Nat) (a16c : Nat) (o0a : Option Addr) (o0n : Nat) (o0c : Nat) (o1a : Option Addr) (o1n : Nat) (o1c : Nat) (o2a : Option Addr) (o2n : Nat) (o2c : Nat) {R : Value → World → Prop} {w : World} (h : (t47 r0 r1 r2 r3 r4 r5 r6a r6n r6c r7a r7n r7c r8 r9 r10 r11a r11n r11c r12a r12n r12c r13a r13n r13c r14a r14n r14c r15 r16a r16n r16c a0 a1 a2 a3 a4 a5 a6a a6n a6c a7a a7n a7c a8 a9 a10 a11a a11n a11c a12a a12n a12c a13a a13n a13c a14a a14n a14c a15 a16a a16n a16c o0a o0n o0c o1a o1n o1c o2a o2n o2c).wp Try.prog R (fun _ _ _ => False) w) : Runs Try.prog 47 [.agg #[.int .u64 r0, .int .i64 r1, .int .i64 r2, .int .i64 r3, .int .u64 r4, .int .u64 r5, .slice r6a r6n r6c, .slice r7a r7n r7c, .int .u64 r8, .int .i64 r9, .int .i64 r10, .slice r11a r11n r11c, .slice r12a r12n r12c, .slice r13a r13n r13c, .slice r14a r14n r14c, .int .u64 r15, .slice r16a r16n r16c], .agg #[.int .u64 a0, .int .i64 a1, .int .i64 a2, .int .i64 a3, .int .u64 a4, .int .u64 a5, .slice a6a a6n a6c, .slice a7a a7n a7c, .int .u64 a8, .int .i64 a9, .int .i64 a10, .slice a11a a11n a11c, .slice a12a a12n a12c, .slice a13a a13n a13c, .slice a14a a14n a14c, .int .u64 a15, .slice a16a a16n a16c], .agg #[.slice o0a o0n o0c, .slice o1a o1n o1c, .slice o2a o2n o2c]] w R :=
 genFn_runs mixed lv47 noM Try.func47 (by kernel_rfl) (by rw [e47]; exact h)
end Go.Proofs.Ytnbfffmdplcajaa
