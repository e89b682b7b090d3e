/- The trees of verification conditions of functions 11: printed by a program of mine, checked here. -/
import Derived.Test.YtnbfffmdplcajaaTree0
set_option linter.unusedVariables false
set_option maxRecDepth 100000
namespace Go.Proofs.Ytnbfffmdplcajaa
open Go.Vc
def t11 (r0 : Int) (r1 : Int) (r2 : Int) (r3 : Int) (r4 : Int) (r5 : Int) (r6a : Option Addr) (r6n : Nat) (r6c : Nat) (r7a : Option Addr) (r7n : Nat) (r7c : Nat) (r8 : Int) (r9 : Int) (r10 : Int) (r11a : Option Addr) (r11n : Nat) (r11c : Nat) (r12a : Option Addr) (r12n : Nat) (r12c : Nat) (r13a : Option Addr) (r13n : Nat) (r13c : Nat) (r14a : Option Addr) (r14n : Nat) (r14c : Nat) (r15 : Int) (r16a : Option Addr) (r16n : Nat) (r16c : Nat) (m0 : Int) (m1 : Int) (m2 : Int) (m3 : Int) (m4 : Int) (m5 : Int) (m6a : Option Addr) (m6n : Nat) (m6c : Nat) (m7 : Int) (m8 : Int) (m9 : Bool) (m10 : Int) (m11 : Int) (m12a : Option Addr) (m12n : Nat) (m12c : Nat) (m13 : Int) (m14 : Int) (m15 : Int) (m16 : ByteArray) (m17 : ByteArray) (m18 : Int) (m19 : Int) (m20 : ByteArray) : VC :=
 .new 36 [.int .u64 r0, .int .i64 r1, .int .i64 r2, .int .i64 r3, .int .u64 r4, .int .u64 r5, .slice r6a r6n r6c, .slice r7a r7n r7c, .int .u64 r8, .int .i64 r9, .int .i64 r10, .slice r11a r11n r11c, .slice r12a r12n r12c, .slice r13a r13n r13c, .slice r14a r14n r14c, .int .u64 r15, .slice r16a r16n r16c] fun p1 =>
 .new 70 [.int .i64 m0, .int .i64 m1, .int .i64 m2, .int .u64 m3, .int .u64 m4, .int .u64 m5, .slice m6a m6n m6c, .int .u64 m7, .int .u64 m8, .bool m9, .int .u64 m10, .int .u64 m11, .slice m12a m12n m12c, .int .i64 m13, .int .i64 m14, .int .u64 m15, .string m16, .string m17, .int .u64 m18, .int .i64 m19, .string m20] fun p2 =>
 .call 22 ([]) fun v3 =>
 .exB fun b4 =>
 .isL [v3] [.bool b4] <|
 bif !b4 then
  (.ret (.bool false))
 else
 (.load ⟨p1, 0, none⟩ 17 fun v5 =>
 .exI fun i6 =>
 .exI fun i7 =>
 .exI fun i8 =>
 .exI fun i9 =>
 .exI fun i10 =>
 .exI fun i11 =>
 .exS fun a12 n12 c12 =>
 .exS fun a13 n13 c13 =>
 .exI fun i14 =>
 .exI fun i15 =>
 .exI fun i16 =>
 .exS fun a17 n17 c17 =>
 .exS fun a18 n18 c18 =>
 .exS fun a19 n19 c19 =>
 .exS fun a20 n20 c20 =>
 .exI fun i21 =>
 .exS fun a22 n22 c22 =>
 .isL v5 [.int .u64 i6, .int .i64 i7, .int .i64 i8, .int .i64 i9, .int .u64 i10, .int .u64 i11, .slice a12 n12 c12, .slice a13 n13 c13, .int .u64 i14, .int .i64 i15, .int .i64 i16, .slice a17 n17 c17, .slice a18 n18 c18, .slice a19 n19 c19, .slice a20 n20 c20, .int .u64 i21, .slice a22 n22 c22] <|
 .call 30 ([.agg #[.int .u64 i6, .int .i64 i7, .int .i64 i8, .int .i64 i9, .int .u64 i10, .int .u64 i11, .slice a12 n12 c12, .slice a13 n13 c13, .int .u64 i14, .int .i64 i15, .int .i64 i16, .slice a17 n17 c17, .slice a18 n18 c18, .slice a19 n19 c19, .slice a20 n20 c20, .int .u64 i21, .slice a22 n22 c22]]) fun v23 =>
 .exB fun b24 =>
 .isL [v23] [.bool b24] <|
 bif !b24 then
  (.ret (.bool true))
 else
 (.load ⟨p2, 0, none⟩ 21 fun v25 =>
 .exI fun i26 =>
 .exI fun i27 =>
 .exI fun i28 =>
 .exI fun i29 =>
 .exI fun i30 =>
 .exI fun i31 =>
 .exS fun a32 n32 c32 =>
 .exI fun i33 =>
 .exI fun i34 =>
 .exB fun b35 =>
 .exI fun i36 =>
 .exI fun i37 =>
 .exS fun a38 n38 c38 =>
 .exI fun i39 =>
 .exI fun i40 =>
 .exI fun i41 =>
 .exT fun s42 =>
 .exT fun s43 =>
 .exI fun i44 =>
 .exI fun i45 =>
 .exT fun s46 =>
 .isL v25 [.int .i64 i26, .int .i64 i27, .int .i64 i28, .int .u64 i29, .int .u64 i30, .int .u64 i31, .slice a32 n32 c32, .int .u64 i33, .int .u64 i34, .bool b35, .int .u64 i36, .int .u64 i37, .slice a38 n38 c38, .int .i64 i39, .int .i64 i40, .int .u64 i41, .string s42, .string s43, .int .u64 i44, .int .i64 i45, .string s46] <|
 .call 35 ([.agg #[.int .i64 i26, .int .i64 i27, .int .i64 i28, .int .u64 i29, .int .u64 i30, .int .u64 i31, .slice a32 n32 c32, .int .u64 i33, .int .u64 i34, .bool b35, .int .u64 i36, .int .u64 i37, .slice a38 n38 c38, .int .i64 i39, .int .i64 i40, .int .u64 i41, .string s42, .string s43, .int .u64 i44, .int .i64 i45, .string s46]]) fun v47 =>
 .exB fun b48 =>
 .isL [v47] [.bool b48] <|
 bif !b48 then
  (.ret (.bool true))
 else
 (.load ⟨p2, 0, none⟩ 1 fun v49 =>
 .exI fun i50 =>
 .isL v49 [.int .i64 i50] <|
 bif (i50 == 3) then
  (.ret (.bool true))
 else
 (.load ⟨p2, 0, none⟩ 1 fun v51 =>
 .exI fun i52 =>
 .isL v51 [.int .i64 i52] <|
 bif (i52 == 5) then
  (.ret (.bool true))
 else
 (.load ⟨p1, 0, none⟩ 17 fun v53 =>
 .exI fun i54 =>
 .exI fun i55 =>
 .exI fun i56 =>
 .exI fun i57 =>
 .exI fun i58 =>
 .exI fun i59 =>
 .exS fun a60 n60 c60 =>
 .exS fun a61 n61 c61 =>
 .exI fun i62 =>
 .exI fun i63 =>
 .exI fun i64 =>
 .exS fun a65 n65 c65 =>
 .exS fun a66 n66 c66 =>
 .exS fun a67 n67 c67 =>
 .exS fun a68 n68 c68 =>
 .exI fun i69 =>
 .exS fun a70 n70 c70 =>
 .isL v53 [.int .u64 i54, .int .i64 i55, .int .i64 i56, .int .i64 i57, .int .u64 i58, .int .u64 i59, .slice a60 n60 c60, .slice a61 n61 c61, .int .u64 i62, .int .i64 i63, .int .i64 i64, .slice a65 n65 c65, .slice a66 n66 c66, .slice a67 n67 c67, .slice a68 n68 c68, .int .u64 i69, .slice a70 n70 c70] <|
 .load ⟨p2, 0, none⟩ 21 fun v71 =>
 .exI fun i72 =>
 .exI fun i73 =>
 .exI fun i74 =>
 .exI fun i75 =>
 .exI fun i76 =>
 .exI fun i77 =>
 .exS fun a78 n78 c78 =>
 .exI fun i79 =>
 .exI fun i80 =>
 .exB fun b81 =>
 .exI fun i82 =>
 .exI fun i83 =>
 .exS fun a84 n84 c84 =>
 .exI fun i85 =>
 .exI fun i86 =>
 .exI fun i87 =>
 .exT fun s88 =>
 .exT fun s89 =>
 .exI fun i90 =>
 .exI fun i91 =>
 .exT fun s92 =>
 .isL v71 [.int .i64 i72, .int .i64 i73, .int .i64 i74, .int .u64 i75, .int .u64 i76, .int .u64 i77, .slice a78 n78 c78, .int .u64 i79, .int .u64 i80, .bool b81, .int .u64 i82, .int .u64 i83, .slice a84 n84 c84, .int .i64 i85, .int .i64 i86, .int .u64 i87, .string s88, .string s89, .int .u64 i90, .int .i64 i91, .string s92] <|
 .call 38 ([.agg #[.int .u64 i54, .int .i64 i55, .int .i64 i56, .int .i64 i57, .int .u64 i58, .int .u64 i59, .slice a60 n60 c60, .slice a61 n61 c61, .int .u64 i62, .int .i64 i63, .int .i64 i64, .slice a65 n65 c65, .slice a66 n66 c66, .slice a67 n67 c67, .slice a68 n68 c68, .int .u64 i69, .slice a70 n70 c70], .agg #[.int .i64 i72, .int .i64 i73, .int .i64 i74, .int .u64 i75, .int .u64 i76, .int .u64 i77, .slice a78 n78 c78, .int .u64 i79, .int .u64 i80, .bool b81, .int .u64 i82, .int .u64 i83, .slice a84 n84 c84, .int .i64 i85, .int .i64 i86, .int .u64 i87, .string s88, .string s89, .int .u64 i90, .int .i64 i91, .string s92]]) fun v93 =>
 .exI fun i94 =>
 .exI fun i95 =>
 .exI fun i96 =>
 .exI fun i97 =>
 .exI fun i98 =>
 .exI fun i99 =>
 .exS fun a100 n100 c100 =>
 .exS fun a101 n101 c101 =>
 .exI fun i102 =>
 .exI fun i103 =>
 .exI fun i104 =>
 .exS fun a105 n105 c105 =>
 .exS fun a106 n106 c106 =>
 .exS fun a107 n107 c107 =>
 .exS fun a108 n108 c108 =>
 .exI fun i109 =>
 .exS fun a110 n110 c110 =>
 .exS fun a111 n111 c111 =>
 .exS fun a112 n112 c112 =>
 .exS fun a113 n113 c113 =>
 .isL [v93] [.tuple #[.agg #[.int .u64 i94, .int .i64 i95, .int .i64 i96, .int .i64 i97, .int .u64 i98, .int .u64 i99, .slice a100 n100 c100, .slice a101 n101 c101, .int .u64 i102, .int .i64 i103, .int .i64 i104, .slice a105 n105 c105, .slice a106 n106 c106, .slice a107 n107 c107, .slice a108 n108 c108, .int .u64 i109, .slice a110 n110 c110], .agg #[.slice a111 n111 c111, .slice a112 n112 c112, .slice a113 n113 c113]]] <|
 .new 36 [.int .u64 0, .int .i64 0, .int .i64 0, .int .i64 0, .int .u64 0, .int .u64 0, .slice none 0 0, .slice none 0 0, .int .u64 0, .int .i64 0, .int .i64 0, .slice none 0 0, .slice none 0 0, .slice none 0 0, .slice none 0 0, .int .u64 0, .slice none 0 0] fun p114 =>
 .new 48 [.slice none 0 0, .slice none 0 0, .slice none 0 0] fun p115 =>
 .store ⟨p114, 0, none⟩ [.int .u64 i94, .int .i64 i95, .int .i64 i96, .int .i64 i97, .int .u64 i98, .int .u64 i99, .slice a100 n100 c100, .slice a101 n101 c101, .int .u64 i102, .int .i64 i103, .int .i64 i104, .slice a105 n105 c105, .slice a106 n106 c106, .slice a107 n107 c107, .slice a108 n108 c108, .int .u64 i109, .slice a110 n110 c110] <|
 .store ⟨p115, 0, none⟩ [.slice a111 n111 c111, .slice a112 n112 c112, .slice a113 n113 c113] <|
 .load ⟨p114, 0, none⟩ 17 fun v116 =>
 .exI fun i117 =>
 .exI fun i118 =>
 .exI fun i119 =>
 .exI fun i120 =>
 .exI fun i121 =>
 .exI fun i122 =>
 .exS fun a123 n123 c123 =>
 .exS fun a124 n124 c124 =>
 .exI fun i125 =>
 .exI fun i126 =>
 .exI fun i127 =>
 .exS fun a128 n128 c128 =>
 .exS fun a129 n129 c129 =>
 .exS fun a130 n130 c130 =>
 .exS fun a131 n131 c131 =>
 .exI fun i132 =>
 .exS fun a133 n133 c133 =>
 .isL v116 [.int .u64 i117, .int .i64 i118, .int .i64 i119, .int .i64 i120, .int .u64 i121, .int .u64 i122, .slice a123 n123 c123, .slice a124 n124 c124, .int .u64 i125, .int .i64 i126, .int .i64 i127, .slice a128 n128 c128, .slice a129 n129 c129, .slice a130 n130 c130, .slice a131 n131 c131, .int .u64 i132, .slice a133 n133 c133] <|
 .call 25 ([.agg #[.int .u64 i117, .int .i64 i118, .int .i64 i119, .int .i64 i120, .int .u64 i121, .int .u64 i122, .slice a123 n123 c123, .slice a124 n124 c124, .int .u64 i125, .int .i64 i126, .int .i64 i127, .slice a128 n128 c128, .slice a129 n129 c129, .slice a130 n130 c130, .slice a131 n131 c131, .int .u64 i132, .slice a133 n133 c133]]) fun v134 =>
 .exI fun i135 =>
 .exI fun i136 =>
 .isL [v134] [.tuple #[.int .u64 i135, .int .u64 i136]] <|
 .load ⟨p114, 8, none⟩ 1 fun v137 =>
 .exI fun i138 =>
 .isL v137 [.int .u64 i138] <|
 .load ⟨p1, 8, none⟩ 1 fun v139 =>
 .exI fun i140 =>
 .isL v139 [.int .u64 i140] <|
 bif (decide (i138 < i140)) then
  (.ret (.bool false))
 else
 (.load ⟨p114, 8, none⟩ 1 fun v141 =>
 .exI fun i142 =>
 .isL v141 [.int .u64 i142] <|
 bif (decide (i142 > i135)) then
  (.ret (.bool false))
 else
 (.load ⟨p1, 8, none⟩ 1 fun v143 =>
 .exI fun i144 =>
 .isL v143 [.int .u64 i144] <|
 .load ⟨p1, 4, none⟩ 1 fun v145 =>
 .exI fun i146 =>
 .isL v145 [.int .u64 i146] <|
 .draw <|
 .load ⟨p114, 7, none⟩ 1 fun v147 =>
 .exS fun a148 n148 c148 =>
 .isL v147 [.slice a148 n148 c148] <|
 bif (decide ((↑n148 : Int) ≥ IntKind.i64.wrap (IntKind.u64.wrap (i144 - i146)))) then
  (.load ⟨p114, 7, none⟩ 1 fun v149 =>
  .exS fun a150 n150 c150 =>
  .isL v149 [.slice a150 n150 c150] <|
  .need ((0 : Int) ≤ IntKind.i64.wrap (IntKind.u64.wrap (i144 - i146)) ∧ IntKind.i64.wrap (IntKind.u64.wrap (i144 - i146)) ≤ (↑c150 : Int)) <|
  .load ⟨p1, 7, none⟩ 1 fun v151 =>
  .exS fun a152 n152 c152 =>
  .isL v151 [.slice a152 n152 c152] <|
  .need ((0 : Int) ≤ IntKind.i64.wrap (IntKind.u64.wrap (i144 - i146)) ∧ IntKind.i64.wrap (IntKind.u64.wrap (i144 - i146)) ≤ (↑c152 : Int)) <|
  .call 48 ([.slice (if c150 = 0 then a150 else Option.map (fun x => x) a150) ((IntKind.i64.wrap (IntKind.u64.wrap (i144 - i146))).toNat - 0) (c150 - 0), .slice (if c152 = 0 then a152 else Option.map (fun x => x) a152) ((IntKind.i64.wrap (IntKind.u64.wrap (i144 - i146))).toNat - 0) (c152 - 0)]) fun v153 =>
  .exB fun b154 =>
  .isL [v153] [.bool b154] <|
  .ret (.bool b154))
 else
 (.ret (.bool false)))))))))
theorem e11 (r0 : Int) (r1 : Int) (r2 : Int) (r3 : Int) (r4 : Int) (r5 : Int) (r6a : Option Addr) (r6n : Nat) (r6c : Nat) (r7a : Option Addr) (r7n : Nat) (r7c : Nat) (r8 : Int) (r9 : Int) (r10 : Int) (r11a : Option Addr) (r11n : Nat) (r11c : Nat) (r12a : Option Addr) (r12n : Nat) (r12c : Nat) (r13a : Option Addr) (r13n : Nat) (r13c : Nat) (r14a : Option Addr) (r14n : Nat) (r14c : Nat) (r15 : Int) (r16a : Option Addr) (r16n : Nat) (r16c : Nat) (m0 : Int) (m1 : Int) (m2 : Int) (m3 : Int) (m4 : Int) (m5 : Int) (m6a : Option Addr) (m6n : Nat) (m6c : Nat) (m7 : Int) (m8 : Int) (m9 : Bool) (m10 : Int) (m11 : Int) (m12a : Option Addr) (m12n : Nat) (m12c : Nat) (m13 : Int) (m14 : Int) (m15 : Int) (m16 : ByteArray) (m17 : ByteArray) (m18 : Int) (m19 : Int) (m20 : ByteArray) : genFn Try.prog noM noM Try.f11 [.agg #[.int .u64 r0, .int .i64 r1, .int .i64 r2, .int .i64 r3, .int .u64 r4, .int .u64 r5, .slice r6a r6n r6c, .slice r7a r7n r7c, .int .u64 r8, .int .i64 r9, .int .i64 r10, .slice r11a r11n r11c, .slice r12a r12n r12c, .slice r13a r13n r13c, .slice r14a r14n r14c, .int .u64 r15, .slice r16a r16n r16c], .agg #[.int .i64 m0, .int .i64 m1, .int .i64 m2, .int .u64 m3, .int .u64 m4, .int .u64 m5, .slice m6a m6n m6c, .int .u64 m7, .int .u64 m8, .bool m9, .int .u64 m10, .int .u64 m11, .slice m12a m12n m12c, .int .i64 m13, .int .i64 m14, .int .u64 m15, .string m16, .string m17, .int .u64 m18, .int .i64 m19, .string m20]] = t11 r0 r1 r2 r3 r4 r5 r6a r6n r6c r7a r7n r7c r8 r9 r10 r11a r11n r11c r12a r12n r12c r13a r13n r13c r14a r14n r14c r15 r16a r16n r16c m0 m1 m2 m3 m4 m5 m6a m6n m6c m7 m8 m9 m10 m11 m12a m12n m12c m13 m14 m15 m16 m17 m18 m19 m20 := by kernel_rfl
theorem r11 (r0 : Int) (r1 : Int) (r2 : Int) (r3 : Int) (r4 : Int) (r5 : Int) (r6a : Option Addr) (r6n : Nat) (r6c : Nat) (r7a : Option Addr) (r7n : Nat) (r7c : Nat) (r8 : Int) (r9 : Int) (r10 : Int) (r11a : Option Addr) (r11n : Nat) (r11c : Nat) (r12a : Option Addr) (r12n : Nat) (r12c : Nat) (r13a : Option Addr) (r13n : Nat) (r13c : Nat) (r14a : Option Addr) (r14n : Nat) (r14c : Nat) (r15 : Int) (r16a : Option Addr) (r16n : Nat) (r16c : Nat) (m0 : Int) (m1 : Int) (m2 : Int) (m3 : Int) (m4 : Int) (m5 : Int) (m6a : Option Addr) (m6n : Nat) (m6c : Nat) (m7 : Int) (m8 : Int) (m9 : Bool) (m10 : Int) (m11 : Int) (m12a : Option Addr) (m12n : Nat) (m12c : Nat) (m13 : Int) (m14 : Int) (m15 : Int) (m16 : ByteArray) (m17 : ByteArray) (m18 : Int) (m19 : Int) (m20 : ByteArray) {R : Value → World → Prop} {w : World} (h : (t11 r0 r1 r2 r3 r4 r5 r6a r6n r6c r7a r7n r7c r8 r9 r10 r11a r11n r11c r12a r12n r12c r13a r13n r13c r14a r14n r14c r15 r16a r16n r16c m0 m1 m2 m3 m4 m5 m6a m6n m6c m7 m8 m9 m10 m11 m12a m12n m12c m13 m14 m15 m16 m17 m18 m19 m20).wp Try.prog R (fun _ _ _ => False) w) : Runs Try.prog 11 [.agg #[.int .u64 r0, .int .i64 r1, .int .i64 r2, .int .i64 r3, .int .u64 r4, .int .u64 r5, .slice r6a r6n r6c, .slice r7a r7n r7c, .int .u64 r8, .int .i64 r9, .int .i64 r10, .slice r11a r11n r11c, .slice r12a r12n r12c, .slice r13a r13n r13c, .slice r14a r14n r14c, .int .u64 r15, .slice r16a r16n r16c], .agg #[.int .i64 m0, .int .i64 m1, .int .i64 m2, .int .u64 m3, .int .u64 m4, .int .u64 m5, .slice m6a m6n m6c, .int .u64 m7, .int .u64 m8, .bool m9, .int .u64 m10, .int .u64 m11, .slice m12a m12n m12c, .int .i64 m13, .int .i64 m14, .int .u64 m15, .string m16, .string m17, .int .u64 m18, .int .i64 m19, .string m20]] w R :=
 genFn_runs mixed noM noM Try.func11 (by kernel_rfl) (by rw [e11]; exact h)
end Go.Proofs.Ytnbfffmdplcajaa
