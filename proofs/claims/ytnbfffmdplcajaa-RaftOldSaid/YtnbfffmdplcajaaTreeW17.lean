/- The trees of verification conditions of functions 17: printed by a program of mine, checked here. -/
import Derived.Test.YtnbfffmdplcajaaTree0
set_option linter.unusedVariables false
set_option maxRecDepth 100000
namespace Go.Proofs.Ytnbfffmdplcajaa
open Go.Vc
def t17 (r0 : Int) (r1 : Int) (r2 : Int) (r3 : Int) (r4 : Int) (r5 : Int) (r6a : Option Addr) (r6n : Nat) (r6c : Nat) (r7a : Option Addr) (r7n : Nat) (r7c : Nat) (r8 : Int) (r9 : Int) (r10 : Int) (r11a : Option Addr) (r11n : Nat) (r11c : Nat) (r12a : Option Addr) (r12n : Nat) (r12c : Nat) (r13a : Option Addr) (r13n : Nat) (r13c : Nat) (r14a : Option Addr) (r14n : Nat) (r14c : Nat) (r15 : Int) (r16a : Option Addr) (r16n : Nat) (r16c : Nat) (m0 : Int) (m1 : Int) (m2 : Int) (m3 : Int) (m4 : Int) (m5 : Int) (m6a : Option Addr) (m6n : Nat) (m6c : Nat) (m7 : Int) (m8 : Int) (m9 : Bool) (m10 : Int) (m11 : Int) (m12a : Option Addr) (m12n : Nat) (m12c : Nat) (m13 : Int) (m14 : Int) (m15 : Int) (m16 : ByteArray) (m17 : ByteArray) (m18 : Int) (m19 : Int) (m20 : ByteArray) : VC :=
 .new 36 [.int .u64 r0, .int .i64 r1, .int .i64 r2, .int .i64 r3, .int .u64 r4, .int .u64 r5, .slice r6a r6n r6c, .slice r7a r7n r7c, .int .u64 r8, .int .i64 r9, .int .i64 r10, .slice r11a r11n r11c, .slice r12a r12n r12c, .slice r13a r13n r13c, .slice r14a r14n r14c, .int .u64 r15, .slice r16a r16n r16c] fun p1 =>
 .new 70 [.int .i64 m0, .int .i64 m1, .int .i64 m2, .int .u64 m3, .int .u64 m4, .int .u64 m5, .slice m6a m6n m6c, .int .u64 m7, .int .u64 m8, .bool m9, .int .u64 m10, .int .u64 m11, .slice m12a m12n m12c, .int .i64 m13, .int .i64 m14, .int .u64 m15, .string m16, .string m17, .int .u64 m18, .int .i64 m19, .string m20] fun p2 =>
 .call 22 ([]) fun v3 =>
 .exB fun b4 =>
 .isL [v3] [.bool b4] <|
 bif !b4 then
  (.ret (.bool false))
 else
 (.load ⟨p1, 0, none⟩ 17 fun v5 =>
 .exI fun i6 =>
 .exI fun i7 =>
 .exI fun i8 =>
 .exI fun i9 =>
 .exI fun i10 =>
 .exI fun i11 =>
 .exS fun a12 n12 c12 =>
 .exS fun a13 n13 c13 =>
 .exI fun i14 =>
 .exI fun i15 =>
 .exI fun i16 =>
 .exS fun a17 n17 c17 =>
 .exS fun a18 n18 c18 =>
 .exS fun a19 n19 c19 =>
 .exS fun a20 n20 c20 =>
 .exI fun i21 =>
 .exS fun a22 n22 c22 =>
 .isL v5 [.int .u64 i6, .int .i64 i7, .int .i64 i8, .int .i64 i9, .int .u64 i10, .int .u64 i11, .slice a12 n12 c12, .slice a13 n13 c13, .int .u64 i14, .int .i64 i15, .int .i64 i16, .slice a17 n17 c17, .slice a18 n18 c18, .slice a19 n19 c19, .slice a20 n20 c20, .int .u64 i21, .slice a22 n22 c22] <|
 .call 30 ([.agg #[.int .u64 i6, .int .i64 i7, .int .i64 i8, .int .i64 i9, .int .u64 i10, .int .u64 i11, .slice a12 n12 c12, .slice a13 n13 c13, .int .u64 i14, .int .i64 i15, .int .i64 i16, .slice a17 n17 c17, .slice a18 n18 c18, .slice a19 n19 c19, .slice a20 n20 c20, .int .u64 i21, .slice a22 n22 c22]]) fun v23 =>
 .exB fun b24 =>
 .isL [v23] [.bool b24] <|
 bif !b24 then
  (.ret (.bool true))
 else
 (.load ⟨p2, 0, none⟩ 21 fun v25 =>
 .exI fun i26 =>
 .exI fun i27 =>
 .exI fun i28 =>
 .exI fun i29 =>
 .exI fun i30 =>
 .exI fun i31 =>
 .exS fun a32 n32 c32 =>
 .exI fun i33 =>
 .exI fun i34 =>
 .exB fun b35 =>
 .exI fun i36 =>
 .exI fun i37 =>
 .exS fun a38 n38 c38 =>
 .exI fun i39 =>
 .exI fun i40 =>
 .exI fun i41 =>
 .exT fun s42 =>
 .exT fun s43 =>
 .exI fun i44 =>
 .exI fun i45 =>
 .exT fun s46 =>
 .isL v25 [.int .i64 i26, .int .i64 i27, .int .i64 i28, .int .u64 i29, .int .u64 i30, .int .u64 i31, .slice a32 n32 c32, .int .u64 i33, .int .u64 i34, .bool b35, .int .u64 i36, .int .u64 i37, .slice a38 n38 c38, .int .i64 i39, .int .i64 i40, .int .u64 i41, .string s42, .string s43, .int .u64 i44, .int .i64 i45, .string s46] <|
 .call 35 ([.agg #[.int .i64 i26, .int .i64 i27, .int .i64 i28, .int .u64 i29, .int .u64 i30, .int .u64 i31, .slice a32 n32 c32, .int .u64 i33, .int .u64 i34, .bool b35, .int .u64 i36, .int .u64 i37, .slice a38 n38 c38, .int .i64 i39, .int .i64 i40, .int .u64 i41, .string s42, .string s43, .int .u64 i44, .int .i64 i45, .string s46]]) fun v47 =>
 .exB fun b48 =>
 .isL [v47] [.bool b48] <|
 bif !b48 then
  (.ret (.bool true))
 else
 (.load ⟨p2, 3, none⟩ 1 fun v49 =>
 .exI fun i50 =>
 .isL v49 [.int .u64 i50] <|
 .load ⟨p1, 0, none⟩ 1 fun v51 =>
 .exI fun i52 =>
 .isL v51 [.int .u64 i52] <|
 bif (decide (i50 ≥ i52)) then
  (.ret (.bool true))
 else
 (.load ⟨p2, 1, none⟩ 1 fun v53 =>
 .exI fun i54 =>
 .isL v53 [.int .i64 i54] <|
 bif (decide (i54 < 1)) then
  (.ret (.bool true))
 else
 (.load ⟨p2, 1, none⟩ 1 fun v55 =>
 .exI fun i56 =>
 .isL v55 [.int .i64 i56] <|
 .load ⟨p1, 3, none⟩ 1 fun v57 =>
 .exI fun i58 =>
 .isL v57 [.int .i64 i58] <|
 bif (decide (i56 > i58)) then
  (.ret (.bool true))
 else
 (.load ⟨p2, 1, none⟩ 1 fun v59 =>
 .exI fun i60 =>
 .isL v59 [.int .i64 i60] <|
 .load ⟨p1, 2, none⟩ 1 fun v61 =>
 .exI fun i62 =>
 .isL v61 [.int .i64 i62] <|
 bif (i60 == i62) then
  (.ret (.bool true))
 else
 (.load ⟨p2, 2, none⟩ 1 fun v63 =>
 .exI fun i64 =>
 .isL v63 [.int .i64 i64] <|
 .load ⟨p1, 2, none⟩ 1 fun v65 =>
 .exI fun i66 =>
 .isL v65 [.int .i64 i66] <|
 bif (i64 != i66) then
  (.ret (.bool true))
 else
 (.load ⟨p2, 0, none⟩ 1 fun v67 =>
 .exI fun i68 =>
 .isL v67 [.int .i64 i68] <|
 bif (decide (i68 < 1)) then
  (.ret (.bool true))
 else
 (.load ⟨p2, 0, none⟩ 1 fun v69 =>
 .exI fun i70 =>
 .isL v69 [.int .i64 i70] <|
 bif (decide (i70 > 5)) then
  (.ret (.bool true))
 else
 (.load ⟨p1, 0, none⟩ 17 fun v71 =>
 .exI fun i72 =>
 .exI fun i73 =>
 .exI fun i74 =>
 .exI fun i75 =>
 .exI fun i76 =>
 .exI fun i77 =>
 .exS fun a78 n78 c78 =>
 .exS fun a79 n79 c79 =>
 .exI fun i80 =>
 .exI fun i81 =>
 .exI fun i82 =>
 .exS fun a83 n83 c83 =>
 .exS fun a84 n84 c84 =>
 .exS fun a85 n85 c85 =>
 .exS fun a86 n86 c86 =>
 .exI fun i87 =>
 .exS fun a88 n88 c88 =>
 .isL v71 [.int .u64 i72, .int .i64 i73, .int .i64 i74, .int .i64 i75, .int .u64 i76, .int .u64 i77, .slice a78 n78 c78, .slice a79 n79 c79, .int .u64 i80, .int .i64 i81, .int .i64 i82, .slice a83 n83 c83, .slice a84 n84 c84, .slice a85 n85 c85, .slice a86 n86 c86, .int .u64 i87, .slice a88 n88 c88] <|
 .load ⟨p2, 0, none⟩ 21 fun v89 =>
 .exI fun i90 =>
 .exI fun i91 =>
 .exI fun i92 =>
 .exI fun i93 =>
 .exI fun i94 =>
 .exI fun i95 =>
 .exS fun a96 n96 c96 =>
 .exI fun i97 =>
 .exI fun i98 =>
 .exB fun b99 =>
 .exI fun i100 =>
 .exI fun i101 =>
 .exS fun a102 n102 c102 =>
 .exI fun i103 =>
 .exI fun i104 =>
 .exI fun i105 =>
 .exT fun s106 =>
 .exT fun s107 =>
 .exI fun i108 =>
 .exI fun i109 =>
 .exT fun s110 =>
 .isL v89 [.int .i64 i90, .int .i64 i91, .int .i64 i92, .int .u64 i93, .int .u64 i94, .int .u64 i95, .slice a96 n96 c96, .int .u64 i97, .int .u64 i98, .bool b99, .int .u64 i100, .int .u64 i101, .slice a102 n102 c102, .int .i64 i103, .int .i64 i104, .int .u64 i105, .string s106, .string s107, .int .u64 i108, .int .i64 i109, .string s110] <|
 .call 38 ([.agg #[.int .u64 i72, .int .i64 i73, .int .i64 i74, .int .i64 i75, .int .u64 i76, .int .u64 i77, .slice a78 n78 c78, .slice a79 n79 c79, .int .u64 i80, .int .i64 i81, .int .i64 i82, .slice a83 n83 c83, .slice a84 n84 c84, .slice a85 n85 c85, .slice a86 n86 c86, .int .u64 i87, .slice a88 n88 c88], .agg #[.int .i64 i90, .int .i64 i91, .int .i64 i92, .int .u64 i93, .int .u64 i94, .int .u64 i95, .slice a96 n96 c96, .int .u64 i97, .int .u64 i98, .bool b99, .int .u64 i100, .int .u64 i101, .slice a102 n102 c102, .int .i64 i103, .int .i64 i104, .int .u64 i105, .string s106, .string s107, .int .u64 i108, .int .i64 i109, .string s110]]) fun v111 =>
 .exI fun i112 =>
 .exI fun i113 =>
 .exI fun i114 =>
 .exI fun i115 =>
 .exI fun i116 =>
 .exI fun i117 =>
 .exS fun a118 n118 c118 =>
 .exS fun a119 n119 c119 =>
 .exI fun i120 =>
 .exI fun i121 =>
 .exI fun i122 =>
 .exS fun a123 n123 c123 =>
 .exS fun a124 n124 c124 =>
 .exS fun a125 n125 c125 =>
 .exS fun a126 n126 c126 =>
 .exI fun i127 =>
 .exS fun a128 n128 c128 =>
 .exS fun a129 n129 c129 =>
 .exS fun a130 n130 c130 =>
 .exS fun a131 n131 c131 =>
 .isL [v111] [.tuple #[.agg #[.int .u64 i112, .int .i64 i113, .int .i64 i114, .int .i64 i115, .int .u64 i116, .int .u64 i117, .slice a118 n118 c118, .slice a119 n119 c119, .int .u64 i120, .int .i64 i121, .int .i64 i122, .slice a123 n123 c123, .slice a124 n124 c124, .slice a125 n125 c125, .slice a126 n126 c126, .int .u64 i127, .slice a128 n128 c128], .agg #[.slice a129 n129 c129, .slice a130 n130 c130, .slice a131 n131 c131]]] <|
 .new 36 [.int .u64 0, .int .i64 0, .int .i64 0, .int .i64 0, .int .u64 0, .int .u64 0, .slice none 0 0, .slice none 0 0, .int .u64 0, .int .i64 0, .int .i64 0, .slice none 0 0, .slice none 0 0, .slice none 0 0, .slice none 0 0, .int .u64 0, .slice none 0 0] fun p132 =>
 .new 48 [.slice none 0 0, .slice none 0 0, .slice none 0 0] fun p133 =>
 .store ⟨p132, 0, none⟩ [.int .u64 i112, .int .i64 i113, .int .i64 i114, .int .i64 i115, .int .u64 i116, .int .u64 i117, .slice a118 n118 c118, .slice a119 n119 c119, .int .u64 i120, .int .i64 i121, .int .i64 i122, .slice a123 n123 c123, .slice a124 n124 c124, .slice a125 n125 c125, .slice a126 n126 c126, .int .u64 i127, .slice a128 n128 c128] <|
 .store ⟨p133, 0, none⟩ [.slice a129 n129 c129, .slice a130 n130 c130, .slice a131 n131 c131] <|
 .load ⟨p132, 0, none⟩ 17 fun v134 =>
 .exI fun i135 =>
 .exI fun i136 =>
 .exI fun i137 =>
 .exI fun i138 =>
 .exI fun i139 =>
 .exI fun i140 =>
 .exS fun a141 n141 c141 =>
 .exS fun a142 n142 c142 =>
 .exI fun i143 =>
 .exI fun i144 =>
 .exI fun i145 =>
 .exS fun a146 n146 c146 =>
 .exS fun a147 n147 c147 =>
 .exS fun a148 n148 c148 =>
 .exS fun a149 n149 c149 =>
 .exI fun i150 =>
 .exS fun a151 n151 c151 =>
 .isL v134 [.int .u64 i135, .int .i64 i136, .int .i64 i137, .int .i64 i138, .int .u64 i139, .int .u64 i140, .slice a141 n141 c141, .slice a142 n142 c142, .int .u64 i143, .int .i64 i144, .int .i64 i145, .slice a146 n146 c146, .slice a147 n147 c147, .slice a148 n148 c148, .slice a149 n149 c149, .int .u64 i150, .slice a151 n151 c151] <|
 .load ⟨p1, 0, none⟩ 17 fun v152 =>
 .exI fun i153 =>
 .exI fun i154 =>
 .exI fun i155 =>
 .exI fun i156 =>
 .exI fun i157 =>
 .exI fun i158 =>
 .exS fun a159 n159 c159 =>
 .exS fun a160 n160 c160 =>
 .exI fun i161 =>
 .exI fun i162 =>
 .exI fun i163 =>
 .exS fun a164 n164 c164 =>
 .exS fun a165 n165 c165 =>
 .exS fun a166 n166 c166 =>
 .exS fun a167 n167 c167 =>
 .exI fun i168 =>
 .exS fun a169 n169 c169 =>
 .isL v152 [.int .u64 i153, .int .i64 i154, .int .i64 i155, .int .i64 i156, .int .u64 i157, .int .u64 i158, .slice a159 n159 c159, .slice a160 n160 c160, .int .u64 i161, .int .i64 i162, .int .i64 i163, .slice a164 n164 c164, .slice a165 n165 c165, .slice a166 n166 c166, .slice a167 n167 c167, .int .u64 i168, .slice a169 n169 c169] <|
 .call 29 ([.agg #[.int .u64 i135, .int .i64 i136, .int .i64 i137, .int .i64 i138, .int .u64 i139, .int .u64 i140, .slice a141 n141 c141, .slice a142 n142 c142, .int .u64 i143, .int .i64 i144, .int .i64 i145, .slice a146 n146 c146, .slice a147 n147 c147, .slice a148 n148 c148, .slice a149 n149 c149, .int .u64 i150, .slice a151 n151 c151], .agg #[.int .u64 i153, .int .i64 i154, .int .i64 i155, .int .i64 i156, .int .u64 i157, .int .u64 i158, .slice a159 n159 c159, .slice a160 n160 c160, .int .u64 i161, .int .i64 i162, .int .i64 i163, .slice a164 n164 c164, .slice a165 n165 c165, .slice a166 n166 c166, .slice a167 n167 c167, .int .u64 i168, .slice a169 n169 c169]]) fun v170 =>
 .exB fun b171 =>
 .isL [v170] [.bool b171] <|
 bif !b171 then
  (.ret (.bool false))
 else
 (.load ⟨p133, 0, none⟩ 1 fun v172 =>
 .exS fun a173 n173 c173 =>
 .isL v172 [.slice a173 n173 c173] <|
 .load ⟨p133, 2, none⟩ 1 fun v174 =>
 .exS fun a175 n175 c175 =>
 .isL v174 [.slice a175 n175 c175] <|
 bif (IntKind.i64.wrap ((↑n173 : Int) + (↑n175 : Int)) != 0) then
  (.ret (.bool false))
 else
 (.load ⟨p2, 0, none⟩ 1 fun v176 =>
 .exI fun i177 =>
 .isL v176 [.int .i64 i177] <|
 bif (i177 == 2) then
  (.load ⟨p133, 1, none⟩ 1 fun v178 =>
  .exS fun a179 n179 c179 =>
  .isL v178 [.slice a179 n179 c179] <|
  .ret (.bool ((↑n179 : Int) == 0)))
 else
 (.load ⟨p2, 0, none⟩ 1 fun v180 =>
 .exI fun i181 =>
 .isL v180 [.int .i64 i181] <|
 bif (i181 == 4) then
  (.load ⟨p133, 1, none⟩ 1 fun v182 =>
  .exS fun a183 n183 c183 =>
  .isL v182 [.slice a183 n183 c183] <|
  .ret (.bool ((↑n183 : Int) == 0)))
 else
 (.draw <|
 .load ⟨p133, 1, none⟩ 1 fun v184 =>
 .exS fun a185 n185 c185 =>
 .isL v184 [.slice a185 n185 c185] <|
 bif ((↑n185 : Int) == 1) then
  (.load ⟨p133, 1, none⟩ 1 fun v186 =>
  .exS fun a187 n187 c187 =>
  .isL v186 [.slice a187 n187 c187] <|
  .some a187 fun x188 =>
  .need ((0 : Int) ≤ 0 ∧ 0 < (↑n187 : Int)) <|
  .load (x188.add 9) 1 fun v189 =>
  .exB fun b190 =>
  .isL v189 [.bool b190] <|
  bif !b190 then
   (.load ⟨p133, 1, none⟩ 1 fun v191 =>
   .exS fun a192 n192 c192 =>
   .isL v191 [.slice a192 n192 c192] <|
   .some a192 fun x193 =>
   .need ((0 : Int) ≤ 0 ∧ 0 < (↑n192 : Int)) <|
   .load (x193.add 3) 1 fun v194 =>
   .exI fun i195 =>
   .isL v194 [.int .u64 i195] <|
   .load ⟨p1, 0, none⟩ 1 fun v196 =>
   .exI fun i197 =>
   .isL v196 [.int .u64 i197] <|
   bif (i195 == i197) then
    (.load ⟨p133, 1, none⟩ 1 fun v198 =>
    .exS fun a199 n199 c199 =>
    .isL v198 [.slice a199 n199 c199] <|
    .some a199 fun x200 =>
    .need ((0 : Int) ≤ 0 ∧ 0 < (↑n199 : Int)) <|
    .load (x200.add 2) 1 fun v201 =>
    .exI fun i202 =>
    .isL v201 [.int .i64 i202] <|
    .load ⟨p2, 1, none⟩ 1 fun v203 =>
    .exI fun i204 =>
    .isL v203 [.int .i64 i204] <|
    .ret (.bool (i202 == i204)))
   else
   (.ret (.bool false)))
  else
  (.ret (.bool false)))
 else
 (.ret (.bool false))))))))))))))))
theorem e17 (r0 : Int) (r1 : Int) (r2 : Int) (r3 : Int) (r4 : Int) (r5 : Int) (r6a : Option Addr) (r6n : Nat) (r6c : Nat) (r7a : Option Addr) (r7n : Nat) (r7c : Nat) (r8 : Int) (r9 : Int) (r10 : Int) (r11a : Option Addr) (r11n : Nat) (r11c : Nat) (r12a : Option Addr) (r12n : Nat) (r12c : Nat) (r13a : Option Addr) (r13n : Nat) (r13c : Nat) (r14a : Option Addr) (r14n : Nat) (r14c : Nat) (r15 : Int) (r16a : Option Addr) (r16n : Nat) (r16c : Nat) (m0 : Int) (m1 : Int) (m2 : Int) (m3 : Int) (m4 : Int) (m5 : Int) (m6a : Option Addr) (m6n : Nat) (m6c : Nat) (m7 : Int) (m8 : Int) (m9 : Bool) (m10 : Int) (m11 : Int) (m12a : Option Addr) (m12n : Nat) (m12c : Nat) (m13 : Int) (m14 : Int) (m15 : Int) (m16 : ByteArray) (m17 : ByteArray) (m18 : Int) (m19 : Int) (m20 : ByteArray) : genFn Try.prog noM noM Try.f17 [.agg #[.int .u64 r0, .int .i64 r1, .int .i64 r2, .int .i64 r3, .int .u64 r4, .int .u64 r5, .slice r6a r6n r6c, .slice r7a r7n r7c, .int .u64 r8, .int .i64 r9, .int .i64 r10, .slice r11a r11n r11c, .slice r12a r12n r12c, .slice r13a r13n r13c, .slice r14a r14n r14c, .int .u64 r15, .slice r16a r16n r16c], .agg #[.int .i64 m0, .int .i64 m1, .int .i64 m2, .int .u64 m3, .int .u64 m4, .int .u64 m5, .slice m6a m6n m6c, .int .u64 m7, .int .u64 m8, .bool m9, .int .u64 m10, .int .u64 m11, .slice m12a m12n m12c, .int .i64 m13, .int .i64 m14, .int .u64 m15, .string m16, .string m17, .int .u64 m18, .int .i64 m19, .string m20]] = t17 r0 r1 r2 r3 r4 r5 r6a r6n r6c r7a r7n r7c r8 r9 r10 r11a r11n r11c r12a r12n r12c r13a r13n r13c r14a r14n r14c r15 r16a r16n r16c m0 m1 m2 m3 m4 m5 m6a m6n m6c m7 m8 m9 m10 m11 m12a m12n m12c m13 m14 m15 m16 m17 m18 m19 m20 := by kernel_rfl
theorem r17 (r0 : Int) (r1 : Int) (r2 : Int) (r3 : Int) (r4 : Int) (r5 : Int) (r6a : Option Addr) (r6n : Nat) (r6c : Nat) (r7a : Option Addr) (r7n : Nat) (r7c : Nat) (r8 : Int) (r9 : Int) (r10 : Int) (r11a : Option Addr) (r11n : Nat) (r11c : Nat) (r12a : Option Addr) (r12n : Nat) (r12c : Nat) (r13a : Option Addr) (r13n : Nat) (r13c : Nat) (r14a : Option Addr) (r14n : Nat) (r14c : Nat) (r15 : Int) (r16a : Option Addr) (r16n : Nat) (r16c : Nat) (m0 : Int) (m1 : Int) (m2 : Int) (m3 : Int) (m4 : Int) (m5 : Int) (m6a : Option Addr) (m6n : Nat) (m6c : Nat) (m7 : Int) (m8 : Int) (m9 : Bool) (m10 : Int) (m11 : Int) (m12a : Option Addr) (m12n : Nat) (m12c : Nat) (m13 : Int) (m14 : Int) (m15 : Int) (m16 : ByteArray) (m17 : ByteArray) (m18 : Int) (m19 : Int) (m20 : ByteArray) {R : Value → World → Prop} {w : World} (h : (t17 r0 r1 r2 r3 r4 r5 r6a r6n r6c r7a r7n r7c r8 r9 r10 r11a r11n r11c r12a r12n r12c r13a r13n r13c r14a r14n r14c r15 r16a r16n r16c m0 m1 m2 m3 m4 m5 m6a m6n m6c m7 m8 m9 m10 m11 m12a m12n m12c m13 m14 m15 m16 m17 m18 m19 m20).wp Try.prog R (fun _ _ _ => False) w) : Runs Try.prog 17 [.agg #[.int .u64 r0, .int .i64 r1, .int .i64 r2, .int .i64 r3, .int .u64 r4, .int .u64 r5, .slice r6a r6n r6c, .slice r7a r7n r7c, .int .u64 r8, .int .i64 r9, .int .i64 r10, .slice r11a r11n r11c, .slice r12a r12n r12c, .slice r13a r13n r13c, .slice r14a r14n r14c, .int .u64 r15, .slice r16a r16n r16c], .agg #[.int .i64 m0, .int .i64 m1, .int .i64 m2, .int .u64 m3, .int .u64 m4, .int .u64 m5, .slice m6a m6n m6c, .int .u64 m7, .int .u64 m8, .bool m9, .int .u64 m10, .int .u64 m11, .slice m12a m12n m12c, .int .i64 m13, .int .i64 m14, .int .u64 m15, .string m16, .string m17, .int .u64 m18, .int .i64 m19, .string m20]] w R :=
 genFn_runs mixed noM noM Try.func17 (by kernel_rfl) (by rw [e17]; exact h)
end Go.Proofs.Ytnbfffmdplcajaa
