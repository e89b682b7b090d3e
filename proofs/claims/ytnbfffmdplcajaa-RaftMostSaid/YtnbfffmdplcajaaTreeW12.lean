/- The trees of verification conditions of functions 12: printed by a program of mine, checked here. -/
import Derived.Test.YtnbfffmdplcajaaTree0
set_option linter.unusedVariables false
set_option maxRecDepth 100000
namespace Go.Proofs.Ytnbfffmdplcajaa
open Go.Vc
def lv12 : Marks := (fun | some 10 => some [(7, .int .i64 0), (8, .int .i64 0)] | _ => none)
def t12 (r0 : Int) (r1 : Int) (r2 : Int) (r3 : Int) (r4 : Int) (r5 : Int) (r6a : Option Addr) (r6n : Nat) (r6c : Nat) (r7a : Option Addr) (r7n : Nat) (r7c : Nat) (r8 : Int) (r9 : Int) (r10 : Int) (r11a : Option Addr) (r11n : Nat) (r11c : Nat) (r12a : Option Addr) (r12n : Nat) (r12c : Nat) (r13a : Option Addr) (r13n : Nat) (r13c : Nat) (r14a : Option Addr) (r14n : Nat) (r14c : Nat) (r15 : Int) (r16a : Option Addr) (r16n : Nat) (r16c : Nat) (m0 : Int) (m1 : Int) (m2 : Int) (m3 : Int) (m4 : Int) (m5 : Int) (m6a : Option Addr) (m6n : Nat) (m6c : Nat) (m7 : Int) (m8 : Int) (m9 : Bool) (m10 : Int) (m11 : Int) (m12a : Option Addr) (m12n : Nat) (m12c : Nat) (m13 : Int) (m14 : Int) (m15 : Int) (m16 : ByteArray) (m17 : ByteArray) (m18 : Int) (m19 : Int) (m20 : ByteArray) : VC :=
 .new 36 [.int .u64 r0, .int .i64 r1, .int .i64 r2, .int .i64 r3, .int .u64 r4, .int .u64 r5, .slice r6a r6n r6c, .slice r7a r7n r7c, .int .u64 r8, .int .i64 r9, .int .i64 r10, .slice r11a r11n r11c, .slice r12a r12n r12c, .slice r13a r13n r13c, .slice r14a r14n r14c, .int .u64 r15, .slice r16a r16n r16c] fun p1 =>
 .new 70 [.int .i64 m0, .int .i64 m1, .int .i64 m2, .int .u64 m3, .int .u64 m4, .int .u64 m5, .slice m6a m6n m6c, .int .u64 m7, .int .u64 m8, .bool m9, .int .u64 m10, .int .u64 m11, .slice m12a m12n m12c, .int .i64 m13, .int .i64 m14, .int .u64 m15, .string m16, .string m17, .int .u64 m18, .int .i64 m19, .string m20] fun p2 =>
 .call 22 ([]) fun v3 =>
 .exB fun b4 =>
 .isL [v3] [.bool b4] <|
 bif !b4 then
  (.ret (.bool false))
 else
 (.load ⟨p1, 0, none⟩ 17 fun v5 =>
 .exI fun i6 =>
 .exI fun i7 =>
 .exI fun i8 =>
 .exI fun i9 =>
 .exI fun i10 =>
 .exI fun i11 =>
 .exS fun a12 n12 c12 =>
 .exS fun a13 n13 c13 =>
 .exI fun i14 =>
 .exI fun i15 =>
 .exI fun i16 =>
 .exS fun a17 n17 c17 =>
 .exS fun a18 n18 c18 =>
 .exS fun a19 n19 c19 =>
 .exS fun a20 n20 c20 =>
 .exI fun i21 =>
 .exS fun a22 n22 c22 =>
 .isL v5 [.int .u64 i6, .int .i64 i7, .int .i64 i8, .int .i64 i9, .int .u64 i10, .int .u64 i11, .slice a12 n12 c12, .slice a13 n13 c13, .int .u64 i14, .int .i64 i15, .int .i64 i16, .slice a17 n17 c17, .slice a18 n18 c18, .slice a19 n19 c19, .slice a20 n20 c20, .int .u64 i21, .slice a22 n22 c22] <|
 .call 30 ([.agg #[.int .u64 i6, .int .i64 i7, .int .i64 i8, .int .i64 i9, .int .u64 i10, .int .u64 i11, .slice a12 n12 c12, .slice a13 n13 c13, .int .u64 i14, .int .i64 i15, .int .i64 i16, .slice a17 n17 c17, .slice a18 n18 c18, .slice a19 n19 c19, .slice a20 n20 c20, .int .u64 i21, .slice a22 n22 c22]]) fun v23 =>
 .exB fun b24 =>
 .isL [v23] [.bool b24] <|
 bif !b24 then
  (.ret (.bool true))
 else
 (.load ⟨p2, 0, none⟩ 21 fun v25 =>
 .exI fun i26 =>
 .exI fun i27 =>
 .exI fun i28 =>
 .exI fun i29 =>
 .exI fun i30 =>
 .exI fun i31 =>
 .exS fun a32 n32 c32 =>
 .exI fun i33 =>
 .exI fun i34 =>
 .exB fun b35 =>
 .exI fun i36 =>
 .exI fun i37 =>
 .exS fun a38 n38 c38 =>
 .exI fun i39 =>
 .exI fun i40 =>
 .exI fun i41 =>
 .exT fun s42 =>
 .exT fun s43 =>
 .exI fun i44 =>
 .exI fun i45 =>
 .exT fun s46 =>
 .isL v25 [.int .i64 i26, .int .i64 i27, .int .i64 i28, .int .u64 i29, .int .u64 i30, .int .u64 i31, .slice a32 n32 c32, .int .u64 i33, .int .u64 i34, .bool b35, .int .u64 i36, .int .u64 i37, .slice a38 n38 c38, .int .i64 i39, .int .i64 i40, .int .u64 i41, .string s42, .string s43, .int .u64 i44, .int .i64 i45, .string s46] <|
 .call 35 ([.agg #[.int .i64 i26, .int .i64 i27, .int .i64 i28, .int .u64 i29, .int .u64 i30, .int .u64 i31, .slice a32 n32 c32, .int .u64 i33, .int .u64 i34, .bool b35, .int .u64 i36, .int .u64 i37, .slice a38 n38 c38, .int .i64 i39, .int .i64 i40, .int .u64 i41, .string s42, .string s43, .int .u64 i44, .int .i64 i45, .string s46]]) fun v47 =>
 .exB fun b48 =>
 .isL [v47] [.bool b48] <|
 bif !b48 then
  (.ret (.bool true))
 else
 (.load ⟨p1, 9, none⟩ 1 fun v49 =>
 .exI fun i50 =>
 .isL v49 [.int .i64 i50] <|
 bif (i50 != 2) then
  (.ret (.bool true))
 else
 (.load ⟨p1, 0, none⟩ 17 fun v51 =>
 .exI fun i52 =>
 .exI fun i53 =>
 .exI fun i54 =>
 .exI fun i55 =>
 .exI fun i56 =>
 .exI fun i57 =>
 .exS fun a58 n58 c58 =>
 .exS fun a59 n59 c59 =>
 .exI fun i60 =>
 .exI fun i61 =>
 .exI fun i62 =>
 .exS fun a63 n63 c63 =>
 .exS fun a64 n64 c64 =>
 .exS fun a65 n65 c65 =>
 .exS fun a66 n66 c66 =>
 .exI fun i67 =>
 .exS fun a68 n68 c68 =>
 .isL v51 [.int .u64 i52, .int .i64 i53, .int .i64 i54, .int .i64 i55, .int .u64 i56, .int .u64 i57, .slice a58 n58 c58, .slice a59 n59 c59, .int .u64 i60, .int .i64 i61, .int .i64 i62, .slice a63 n63 c63, .slice a64 n64 c64, .slice a65 n65 c65, .slice a66 n66 c66, .int .u64 i67, .slice a68 n68 c68] <|
 .load ⟨p2, 0, none⟩ 21 fun v69 =>
 .exI fun i70 =>
 .exI fun i71 =>
 .exI fun i72 =>
 .exI fun i73 =>
 .exI fun i74 =>
 .exI fun i75 =>
 .exS fun a76 n76 c76 =>
 .exI fun i77 =>
 .exI fun i78 =>
 .exB fun b79 =>
 .exI fun i80 =>
 .exI fun i81 =>
 .exS fun a82 n82 c82 =>
 .exI fun i83 =>
 .exI fun i84 =>
 .exI fun i85 =>
 .exT fun s86 =>
 .exT fun s87 =>
 .exI fun i88 =>
 .exI fun i89 =>
 .exT fun s90 =>
 .isL v69 [.int .i64 i70, .int .i64 i71, .int .i64 i72, .int .u64 i73, .int .u64 i74, .int .u64 i75, .slice a76 n76 c76, .int .u64 i77, .int .u64 i78, .bool b79, .int .u64 i80, .int .u64 i81, .slice a82 n82 c82, .int .i64 i83, .int .i64 i84, .int .u64 i85, .string s86, .string s87, .int .u64 i88, .int .i64 i89, .string s90] <|
 .call 38 ([.agg #[.int .u64 i52, .int .i64 i53, .int .i64 i54, .int .i64 i55, .int .u64 i56, .int .u64 i57, .slice a58 n58 c58, .slice a59 n59 c59, .int .u64 i60, .int .i64 i61, .int .i64 i62, .slice a63 n63 c63, .slice a64 n64 c64, .slice a65 n65 c65, .slice a66 n66 c66, .int .u64 i67, .slice a68 n68 c68], .agg #[.int .i64 i70, .int .i64 i71, .int .i64 i72, .int .u64 i73, .int .u64 i74, .int .u64 i75, .slice a76 n76 c76, .int .u64 i77, .int .u64 i78, .bool b79, .int .u64 i80, .int .u64 i81, .slice a82 n82 c82, .int .i64 i83, .int .i64 i84, .int .u64 i85, .string s86, .string s87, .int .u64 i88, .int .i64 i89, .string s90]]) fun v91 =>
 .exI fun i92 =>
 .exI fun i93 =>
 .exI fun i94 =>
 .exI fun i95 =>
 .exI fun i96 =>
 .exI fun i97 =>
 .exS fun a98 n98 c98 =>
 .exS fun a99 n99 c99 =>
 .exI fun i100 =>
 .exI fun i101 =>
 .exI fun i102 =>
 .exS fun a103 n103 c103 =>
 .exS fun a104 n104 c104 =>
 .exS fun a105 n105 c105 =>
 .exS fun a106 n106 c106 =>
 .exI fun i107 =>
 .exS fun a108 n108 c108 =>
 .exS fun a109 n109 c109 =>
 .exS fun a110 n110 c110 =>
 .exS fun a111 n111 c111 =>
 .isL [v91] [.tuple #[.agg #[.int .u64 i92, .int .i64 i93, .int .i64 i94, .int .i64 i95, .int .u64 i96, .int .u64 i97, .slice a98 n98 c98, .slice a99 n99 c99, .int .u64 i100, .int .i64 i101, .int .i64 i102, .slice a103 n103 c103, .slice a104 n104 c104, .slice a105 n105 c105, .slice a106 n106 c106, .int .u64 i107, .slice a108 n108 c108], .agg #[.slice a109 n109 c109, .slice a110 n110 c110, .slice a111 n111 c111]]] <|
 .new 36 [.int .u64 0, .int .i64 0, .int .i64 0, .int .i64 0, .int .u64 0, .int .u64 0, .slice none 0 0, .slice none 0 0, .int .u64 0, .int .i64 0, .int .i64 0, .slice none 0 0, .slice none 0 0, .slice none 0 0, .slice none 0 0, .int .u64 0, .slice none 0 0] fun p112 =>
 .new 48 [.slice none 0 0, .slice none 0 0, .slice none 0 0] fun p113 =>
 .store ⟨p112, 0, none⟩ [.int .u64 i92, .int .i64 i93, .int .i64 i94, .int .i64 i95, .int .u64 i96, .int .u64 i97, .slice a98 n98 c98, .slice a99 n99 c99, .int .u64 i100, .int .i64 i101, .int .i64 i102, .slice a103 n103 c103, .slice a104 n104 c104, .slice a105 n105 c105, .slice a106 n106 c106, .int .u64 i107, .slice a108 n108 c108] <|
 .store ⟨p113, 0, none⟩ [.slice a109 n109 c109, .slice a110 n110 c110, .slice a111 n111 c111] <|
 .load ⟨p112, 9, none⟩ 1 fun v114 =>
 .exI fun i115 =>
 .isL v114 [.int .i64 i115] <|
 bif (i115 != 2) then
  (.ret (.bool true))
 else
 (.load ⟨p112, 8, none⟩ 1 fun v116 =>
 .exI fun i117 =>
 .isL v116 [.int .u64 i117] <|
 .load ⟨p1, 8, none⟩ 1 fun v118 =>
 .exI fun i119 =>
 .isL v118 [.int .u64 i119] <|
 bif (i117 == i119) then
  (.ret (.bool true))
 else
 (.loop 0 [.int .i64 1, .int .i64 0] (fun v120 =>
  .exI fun i121 =>
  .exI fun i122 =>
  .isL v120 [.int .i64 i121, .int .i64 i122] <|
  .load ⟨p112, 13, none⟩ 1 fun v123 =>
  .exS fun a124 n124 c124 =>
  .isL v123 [.slice a124 n124 c124] <|
  bif (decide (i122 < (↑n124 : Int))) then
   (.draw <|
   .load ⟨p112, 2, none⟩ 1 fun v125 =>
   .exI fun i126 =>
   .isL v125 [.int .i64 i126] <|
   bif (i122 != IntKind.i64.wrap (i126 - 1)) then
    (.load ⟨p112, 13, none⟩ 1 fun v127 =>
    .exS fun a128 n128 c128 =>
    .isL v127 [.slice a128 n128 c128] <|
    .some a128 fun x129 =>
    .need ((0 : Int) ≤ i122 ∧ i122 < (↑n128 : Int)) <|
    .load (x129.add (i122.toNat * 1)) 1 fun v130 =>
    .exI fun i131 =>
    .isL v130 [.int .u64 i131] <|
    .load ⟨p112, 8, none⟩ 1 fun v132 =>
    .exI fun i133 =>
    .isL v132 [.int .u64 i133] <|
    bif (decide (i131 ≥ i133)) then
     (.again 0 [.int .i64 (IntKind.i64.wrap (i121 + 1)), .int .i64 (IntKind.i64.wrap (i122 + 1))])
    else
    (.again 0 [.int .i64 i121, .int .i64 (IntKind.i64.wrap (i122 + 1))]))
   else
   (.again 0 [.int .i64 i121, .int .i64 (IntKind.i64.wrap (i122 + 1))]))
  else
  (.load ⟨p112, 0, none⟩ 17 fun v134 =>
  .exI fun i135 =>
  .exI fun i136 =>
  .exI fun i137 =>
  .exI fun i138 =>
  .exI fun i139 =>
  .exI fun i140 =>
  .exS fun a141 n141 c141 =>
  .exS fun a142 n142 c142 =>
  .exI fun i143 =>
  .exI fun i144 =>
  .exI fun i145 =>
  .exS fun a146 n146 c146 =>
  .exS fun a147 n147 c147 =>
  .exS fun a148 n148 c148 =>
  .exS fun a149 n149 c149 =>
  .exI fun i150 =>
  .exS fun a151 n151 c151 =>
  .isL v134 [.int .u64 i135, .int .i64 i136, .int .i64 i137, .int .i64 i138, .int .u64 i139, .int .u64 i140, .slice a141 n141 c141, .slice a142 n142 c142, .int .u64 i143, .int .i64 i144, .int .i64 i145, .slice a146 n146 c146, .slice a147 n147 c147, .slice a148 n148 c148, .slice a149 n149 c149, .int .u64 i150, .slice a151 n151 c151] <|
  .load ⟨p112, 8, none⟩ 1 fun v152 =>
  .exI fun i153 =>
  .isL v152 [.int .u64 i153] <|
  .call 27 ([.agg #[.int .u64 i135, .int .i64 i136, .int .i64 i137, .int .i64 i138, .int .u64 i139, .int .u64 i140, .slice a141 n141 c141, .slice a142 n142 c142, .int .u64 i143, .int .i64 i144, .int .i64 i145, .slice a146 n146 c146, .slice a147 n147 c147, .slice a148 n148 c148, .slice a149 n149 c149, .int .u64 i150, .slice a151 n151 c151], .int .u64 i153]) fun v154 =>
  .exI fun i155 =>
  .exB fun b156 =>
  .isL [v154] [.tuple #[.int .u64 i155, .bool b156]] <|
  .load ⟨p112, 3, none⟩ 1 fun v157 =>
  .exI fun i158 =>
  .isL v157 [.int .i64 i158] <|
  bif (decide (IntKind.i64.wrap (2 * i121) > i158)) then
   (bif b156 then
    (.load ⟨p112, 0, none⟩ 1 fun v159 =>
    .exI fun i160 =>
    .isL v159 [.int .u64 i160] <|
    .ret (.bool (i155 == i160)))
   else
   (.ret (.bool false)))
  else
  (.ret (.bool false))))))))))
theorem e12 (r0 : Int) (r1 : Int) (r2 : Int) (r3 : Int) (r4 : Int) (r5 : Int) (r6a : Option Addr) (r6n : Nat) (r6c : Nat) (r7a : Option Addr) (r7n : Nat) (r7c : Nat) (r8 : Int) (r9 : Int) (r10 : Int) (r11a : Option Addr) (r11n : Nat) (r11c : Nat) (r12a : Option Addr) (r12n : Nat) (r12c : Nat) (r13a : Option Addr) (r13n : Nat) (r13c : Nat) (r14a : Option Addr) (r14n : Nat) (r14c : Nat) (r15 : Int) (r16a : Option Addr) (r16n : Nat) (r16c : Nat) (m0 : Int) (m1 : Int) (m2 : Int) (m3 : Int) (m4 : Int) (m5 : Int) (m6a : Option Addr) (m6n : Nat) (m6c : Nat) (m7 : Int) (m8 : Int) (m9 : Bool) (m10 : Int) (m11 : Int) (m12a : Option Addr) (m12n : Nat) (m12c : Nat) (m13 : Int) (m14 : Int) (m15 : Int) (m16 : ByteArray) (m17 : ByteArray) (m18 : Int) (m19 : Int) (m20 : ByteArray) : genFn Try.prog lv12 noM Try.f12 [.agg #[.int .u64 r0, .int .i64 r1, .int .i64 r2, .int .i64 r3, .int .u64 r4, .int .u64 r5, .slice r6a r6n r6c, .slice r7a r7n r7c, .int .u64 r8, .int .i64 r9, .int .i64 r10, .slice r11a r11n r11c, .slice r12a r12n r12c, .slice r13a r13n r13c, .slice r14a r14n r14c, .int .u64 r15, .slice r16a r16n r16c], .agg #[.int .i64 m0, .int .i64 m1, .int .i64 m2, .int .u64 m3, .int .u64 m4, .int .u64 m5, .slice m6a m6n m6c, .int .u64 m7, .int .u64 m8, .bool m9, .int .u64 m10, .int .u64 m11, .slice m12a m12n m12c, .int .i64 m13, .int .i64 m14, .int .u64 m15, .string m16, .string m17, .int .u64 m18, .int .i64 m19, .string m20]] = t12 r0 r1 r2 r3 r4 r5 r6a r6n r6c r7a r7n r7c r8 r9 r10 r11a r11n r11c r12a r12n r12c r13a r13n r13c r14a r14n r14c r15 r16a r16n r16c m0 m1 m2 m3 m4 m5 m6a m6n m6c m7 m8 m9 m10 m11 m12a m12n m12c m13 m14 m15 m16 m17 m18 m19 m20 := by kernel_rfl
theorem r12 (r0 : Int) (r1 : Int) (r2 : Int) (r3 : Int) (r4 : Int) (r5 : Int) (r6a : Option Addr) (r6n : Nat) (r6c : Nat) (r7a : Option Addr) (r7n : Nat) (r7c : Nat) (r8 : Int) (r9 : Int) (r10 : Int) (r11a : Option Addr) (r11n : Nat) (r11c : Nat) (r12a : Option Addr) (r12n : Nat) (r12c : Nat) (r13a : Option Addr) (r13n : Nat) (r13c : Nat) (r14a : Option Addr) (r14n : Nat) (r14c : Nat) (r15 : Int) (r16a : Option Addr) (r16n : Nat) (r16c : Nat) (m0 : Int) (m1 : Int) (m2 : Int) (m3 : Int) (m4 : Int) (m5 : Int) (m6a : Option Addr) (m6n : Nat) (m6c : Nat) (m7 : Int) (m8 : Int) (m9 : Bool) (m10 : Int) (m11 : Int) (m12a : Option Addr) (m12n : Nat) (m12c : Nat) (m13 : Int) (m14 : Int) (m15 : Int) (m16 : ByteArray) (m17 : ByteArray) (m18 : Int) (m19 : Int) (m20 : ByteArray) {R : Value → World → Prop} {w : World} (h : (t12 r0 r1 r2 r3 r4 r5 r6a r6n r6c r7a r7n r7c r8 r9 r10 r11a r11n r11c r12a r12n r12c r13a r13n r13c r14a r14n r14c r15 r16a r16n r16c m0 m1 m2 m3 m4 m5 m6a m6n m6c m7 m8 m9 m10 m11 m12a m12n m12c m13 m14 m15 m16 m17 m18 m19 m20).wp Try.prog R (fun _ _ _ => False) w) : Runs Try.prog 12 [.agg #[.int .u64 r0, .int .i64 r1, .int .i64 r2, .int .i64 r3, .int .u64 r4, .int .u64 r5, .slice r6a r6n r6c, .slice r7a r7n r7c, .int .u64 r8, .int .i64 r9, .int .i64 r10, .slice r11a r11n r11c, .slice r12a r12n r12c, .slice r13a r13n r13c, .slice r14a r14n r14c, .int .u64 r15, .slice r16a r16n r16c], .agg #[.int .i64 m0, .int .i64 m1, .int .i64 m2, .int .u64 m3, .int .u64 m4, .int .u64 m5, .slice m6a m6n m6c, .int .u64 m7, .int .u64 m8, .bool m9, .int .u64 m10, .int .u64 m11, .slice m12a m12n m12c, .int .i64 m13, .int .i64 m14, .int .u64 m15, .string m16, .string m17, .int .u64 m18, .int .i64 m19, .string m20]] w R :=
 genFn_runs mixed lv12 noM Try.func12 (by kernel_rfl) (by rw [e12]; exact h)
end Go.Proofs.Ytnbfffmdplcajaa
