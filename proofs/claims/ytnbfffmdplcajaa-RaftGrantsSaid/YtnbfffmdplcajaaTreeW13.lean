/- The trees of verification conditions of functions 13: printed by a program of mine, checked here. -/
import Derived.Test.YtnbfffmdplcajaaTree0
set_option linter.unusedVariables false
set_option maxRecDepth 100000
namespace Go.Proofs.Ytnbfffmdplcajaa
open Go.Vc
def t13 (r0 : Int) (r1 : Int) (r2 : Int) (r3 : Int) (r4 : Int) (r5 : Int) (r6a : Option Addr) (r6n : Nat) (r6c : Nat) (r7a : Option Addr) (r7n : Nat) (r7c : Nat) (r8 : Int) (r9 : Int) (r10 : Int) (r11a : Option Addr) (r11n : Nat) (r11c : Nat) (r12a : Option Addr) (r12n : Nat) (r12c : Nat) (r13a : Option Addr) (r13n : Nat) (r13c : Nat) (r14a : Option Addr) (r14n : Nat) (r14c : Nat) (r15 : Int) (r16a : Option Addr) (r16n : Nat) (r16c : Nat) (m0 : Int) (m1 : Int) (m2 : Int) (m3 : Int) (m4 : Int) (m5 : Int) (m6a : Option Addr) (m6n : Nat) (m6c : Nat) (m7 : Int) (m8 : Int) (m9 : Bool) (m10 : Int) (m11 : Int) (m12a : Option Addr) (m12n : Nat) (m12c : Nat) (m13 : Int) (m14 : Int) (m15 : Int) (m16 : ByteArray) (m17 : ByteArray) (m18 : Int) (m19 : Int) (m20 : ByteArray) : VC :=
 .new 36 [.int .u64 r0, .int .i64 r1, .int .i64 r2, .int .i64 r3, .int .u64 r4, .int .u64 r5, .slice r6a r6n r6c, .slice r7a r7n r7c, .int .u64 r8, .int .i64 r9, .int .i64 r10, .slice r11a r11n r11c, .slice r12a r12n r12c, .slice r13a r13n r13c, .slice r14a r14n r14c, .int .u64 r15, .slice r16a r16n r16c] fun p1 =>
 .new 70 [.int .i64 m0, .int .i64 m1, .int .i64 m2, .int .u64 m3, .int .u64 m4, .int .u64 m5, .slice m6a m6n m6c, .int .u64 m7, .int .u64 m8, .bool m9, .int .u64 m10, .int .u64 m11, .slice m12a m12n m12c, .int .i64 m13, .int .i64 m14, .int .u64 m15, .string m16, .string m17, .int .u64 m18, .int .i64 m19, .string m20] fun p2 =>
 .call 22 ([]) fun v3 =>
 .exB fun b4 =>
 .isL [v3] [.bool b4] <|
 bif !b4 then
  (.ret (.bool false))
 else
 (.load ⟨p1, 0, none⟩ 17 fun v5 =>
 .exI fun i6 =>
 .exI fun i7 =>
 .exI fun i8 =>
 .exI fun i9 =>
 .exI fun i10 =>
 .exI fun i11 =>
 .exS fun a12 n12 c12 =>
 .exS fun a13 n13 c13 =>
 .exI fun i14 =>
 .exI fun i15 =>
 .exI fun i16 =>
 .exS fun a17 n17 c17 =>
 .exS fun a18 n18 c18 =>
 .exS fun a19 n19 c19 =>
 .exS fun a20 n20 c20 =>
 .exI fun i21 =>
 .exS fun a22 n22 c22 =>
 .isL v5 [.int .u64 i6, .int .i64 i7, .int .i64 i8, .int .i64 i9, .int .u64 i10, .int .u64 i11, .slice a12 n12 c12, .slice a13 n13 c13, .int .u64 i14, .int .i64 i15, .int .i64 i16, .slice a17 n17 c17, .slice a18 n18 c18, .slice a19 n19 c19, .slice a20 n20 c20, .int .u64 i21, .slice a22 n22 c22] <|
 .call 30 ([.agg #[.int .u64 i6, .int .i64 i7, .int .i64 i8, .int .i64 i9, .int .u64 i10, .int .u64 i11, .slice a12 n12 c12, .slice a13 n13 c13, .int .u64 i14, .int .i64 i15, .int .i64 i16, .slice a17 n17 c17, .slice a18 n18 c18, .slice a19 n19 c19, .slice a20 n20 c20, .int .u64 i21, .slice a22 n22 c22]]) fun v23 =>
 .exB fun b24 =>
 .isL [v23] [.bool b24] <|
 bif !b24 then
  (.ret (.bool true))
 else
 (.load ⟨p2, 0, none⟩ 21 fun v25 =>
 .exI fun i26 =>
 .exI fun i27 =>
 .exI fun i28 =>
 .exI fun i29 =>
 .exI fun i30 =>
 .exI fun i31 =>
 .exS fun a32 n32 c32 =>
 .exI fun i33 =>
 .exI fun i34 =>
 .exB fun b35 =>
 .exI fun i36 =>
 .exI fun i37 =>
 .exS fun a38 n38 c38 =>
 .exI fun i39 =>
 .exI fun i40 =>
 .exI fun i41 =>
 .exT fun s42 =>
 .exT fun s43 =>
 .exI fun i44 =>
 .exI fun i45 =>
 .exT fun s46 =>
 .isL v25 [.int .i64 i26, .int .i64 i27, .int .i64 i28, .int .u64 i29, .int .u64 i30, .int .u64 i31, .slice a32 n32 c32, .int .u64 i33, .int .u64 i34, .bool b35, .int .u64 i36, .int .u64 i37, .slice a38 n38 c38, .int .i64 i39, .int .i64 i40, .int .u64 i41, .string s42, .string s43, .int .u64 i44, .int .i64 i45, .string s46] <|
 .call 35 ([.agg #[.int .i64 i26, .int .i64 i27, .int .i64 i28, .int .u64 i29, .int .u64 i30, .int .u64 i31, .slice a32 n32 c32, .int .u64 i33, .int .u64 i34, .bool b35, .int .u64 i36, .int .u64 i37, .slice a38 n38 c38, .int .i64 i39, .int .i64 i40, .int .u64 i41, .string s42, .string s43, .int .u64 i44, .int .i64 i45, .string s46]]) fun v47 =>
 .exB fun b48 =>
 .isL [v47] [.bool b48] <|
 bif !b48 then
  (.ret (.bool true))
 else
 (.load ⟨p2, 0, none⟩ 1 fun v49 =>
 .exI fun i50 =>
 .isL v49 [.int .i64 i50] <|
 bif (i50 != 1) then
  (.ret (.bool true))
 else
 (.load ⟨p2, 1, none⟩ 1 fun v51 =>
 .exI fun i52 =>
 .isL v51 [.int .i64 i52] <|
 bif (decide (i52 < 1)) then
  (.ret (.bool true))
 else
 (.load ⟨p2, 1, none⟩ 1 fun v53 =>
 .exI fun i54 =>
 .isL v53 [.int .i64 i54] <|
 .load ⟨p1, 3, none⟩ 1 fun v55 =>
 .exI fun i56 =>
 .isL v55 [.int .i64 i56] <|
 bif (decide (i54 > i56)) then
  (.ret (.bool true))
 else
 (.load ⟨p2, 1, none⟩ 1 fun v57 =>
 .exI fun i58 =>
 .isL v57 [.int .i64 i58] <|
 .load ⟨p1, 2, none⟩ 1 fun v59 =>
 .exI fun i60 =>
 .isL v59 [.int .i64 i60] <|
 bif (i58 == i60) then
  (.ret (.bool true))
 else
 (.load ⟨p2, 2, none⟩ 1 fun v61 =>
 .exI fun i62 =>
 .isL v61 [.int .i64 i62] <|
 .load ⟨p1, 2, none⟩ 1 fun v63 =>
 .exI fun i64 =>
 .isL v63 [.int .i64 i64] <|
 bif (i62 != i64) then
  (.ret (.bool true))
 else
 (.load ⟨p1, 0, none⟩ 17 fun v65 =>
 .exI fun i66 =>
 .exI fun i67 =>
 .exI fun i68 =>
 .exI fun i69 =>
 .exI fun i70 =>
 .exI fun i71 =>
 .exS fun a72 n72 c72 =>
 .exS fun a73 n73 c73 =>
 .exI fun i74 =>
 .exI fun i75 =>
 .exI fun i76 =>
 .exS fun a77 n77 c77 =>
 .exS fun a78 n78 c78 =>
 .exS fun a79 n79 c79 =>
 .exS fun a80 n80 c80 =>
 .exI fun i81 =>
 .exS fun a82 n82 c82 =>
 .isL v65 [.int .u64 i66, .int .i64 i67, .int .i64 i68, .int .i64 i69, .int .u64 i70, .int .u64 i71, .slice a72 n72 c72, .slice a73 n73 c73, .int .u64 i74, .int .i64 i75, .int .i64 i76, .slice a77 n77 c77, .slice a78 n78 c78, .slice a79 n79 c79, .slice a80 n80 c80, .int .u64 i81, .slice a82 n82 c82] <|
 .load ⟨p2, 0, none⟩ 21 fun v83 =>
 .exI fun i84 =>
 .exI fun i85 =>
 .exI fun i86 =>
 .exI fun i87 =>
 .exI fun i88 =>
 .exI fun i89 =>
 .exS fun a90 n90 c90 =>
 .exI fun i91 =>
 .exI fun i92 =>
 .exB fun b93 =>
 .exI fun i94 =>
 .exI fun i95 =>
 .exS fun a96 n96 c96 =>
 .exI fun i97 =>
 .exI fun i98 =>
 .exI fun i99 =>
 .exT fun s100 =>
 .exT fun s101 =>
 .exI fun i102 =>
 .exI fun i103 =>
 .exT fun s104 =>
 .isL v83 [.int .i64 i84, .int .i64 i85, .int .i64 i86, .int .u64 i87, .int .u64 i88, .int .u64 i89, .slice a90 n90 c90, .int .u64 i91, .int .u64 i92, .bool b93, .int .u64 i94, .int .u64 i95, .slice a96 n96 c96, .int .i64 i97, .int .i64 i98, .int .u64 i99, .string s100, .string s101, .int .u64 i102, .int .i64 i103, .string s104] <|
 .call 38 ([.agg #[.int .u64 i66, .int .i64 i67, .int .i64 i68, .int .i64 i69, .int .u64 i70, .int .u64 i71, .slice a72 n72 c72, .slice a73 n73 c73, .int .u64 i74, .int .i64 i75, .int .i64 i76, .slice a77 n77 c77, .slice a78 n78 c78, .slice a79 n79 c79, .slice a80 n80 c80, .int .u64 i81, .slice a82 n82 c82], .agg #[.int .i64 i84, .int .i64 i85, .int .i64 i86, .int .u64 i87, .int .u64 i88, .int .u64 i89, .slice a90 n90 c90, .int .u64 i91, .int .u64 i92, .bool b93, .int .u64 i94, .int .u64 i95, .slice a96 n96 c96, .int .i64 i97, .int .i64 i98, .int .u64 i99, .string s100, .string s101, .int .u64 i102, .int .i64 i103, .string s104]]) fun v105 =>
 .exI fun i106 =>
 .exI fun i107 =>
 .exI fun i108 =>
 .exI fun i109 =>
 .exI fun i110 =>
 .exI fun i111 =>
 .exS fun a112 n112 c112 =>
 .exS fun a113 n113 c113 =>
 .exI fun i114 =>
 .exI fun i115 =>
 .exI fun i116 =>
 .exS fun a117 n117 c117 =>
 .exS fun a118 n118 c118 =>
 .exS fun a119 n119 c119 =>
 .exS fun a120 n120 c120 =>
 .exI fun i121 =>
 .exS fun a122 n122 c122 =>
 .exS fun a123 n123 c123 =>
 .exS fun a124 n124 c124 =>
 .exS fun a125 n125 c125 =>
 .isL [v105] [.tuple #[.agg #[.int .u64 i106, .int .i64 i107, .int .i64 i108, .int .i64 i109, .int .u64 i110, .int .u64 i111, .slice a112 n112 c112, .slice a113 n113 c113, .int .u64 i114, .int .i64 i115, .int .i64 i116, .slice a117 n117 c117, .slice a118 n118 c118, .slice a119 n119 c119, .slice a120 n120 c120, .int .u64 i121, .slice a122 n122 c122], .agg #[.slice a123 n123 c123, .slice a124 n124 c124, .slice a125 n125 c125]]] <|
 .new 36 [.int .u64 0, .int .i64 0, .int .i64 0, .int .i64 0, .int .u64 0, .int .u64 0, .slice none 0 0, .slice none 0 0, .int .u64 0, .int .i64 0, .int .i64 0, .slice none 0 0, .slice none 0 0, .slice none 0 0, .slice none 0 0, .int .u64 0, .slice none 0 0] fun p126 =>
 .new 48 [.slice none 0 0, .slice none 0 0, .slice none 0 0] fun p127 =>
 .store ⟨p126, 0, none⟩ [.int .u64 i106, .int .i64 i107, .int .i64 i108, .int .i64 i109, .int .u64 i110, .int .u64 i111, .slice a112 n112 c112, .slice a113 n113 c113, .int .u64 i114, .int .i64 i115, .int .i64 i116, .slice a117 n117 c117, .slice a118 n118 c118, .slice a119 n119 c119, .slice a120 n120 c120, .int .u64 i121, .slice a122 n122 c122] <|
 .store ⟨p127, 0, none⟩ [.slice a123 n123 c123, .slice a124 n124 c124, .slice a125 n125 c125] <|
 .draw <|
 .load ⟨p127, 1, none⟩ 1 fun v128 =>
 .exS fun a129 n129 c129 =>
 .isL v128 [.slice a129 n129 c129] <|
 bif ((↑n129 : Int) != 1) then
  (.ret (.bool false))
 else
 (.load ⟨p127, 1, none⟩ 1 fun v130 =>
 .exS fun a131 n131 c131 =>
 .isL v130 [.slice a131 n131 c131] <|
 .some a131 fun x132 =>
 .need ((0 : Int) ≤ 0 ∧ 0 < (↑n131 : Int)) <|
 .load x132 1 fun v133 =>
 .exI fun i134 =>
 .isL v133 [.int .i64 i134] <|
 bif (i134 != 2) then
  (.ret (.bool false))
 else
 (.load ⟨p127, 1, none⟩ 1 fun v135 =>
 .exS fun a136 n136 c136 =>
 .isL v135 [.slice a136 n136 c136] <|
 .some a136 fun x137 =>
 .need ((0 : Int) ≤ 0 ∧ 0 < (↑n136 : Int)) <|
 .load (x137.add 2) 1 fun v138 =>
 .exI fun i139 =>
 .isL v138 [.int .i64 i139] <|
 .load ⟨p2, 1, none⟩ 1 fun v140 =>
 .exI fun i141 =>
 .isL v140 [.int .i64 i141] <|
 bif (i139 != i141) then
  (.ret (.bool false))
 else
 (.load ⟨p127, 1, none⟩ 1 fun v142 =>
 .exS fun a143 n143 c143 =>
 .isL v142 [.slice a143 n143 c143] <|
 .some a143 fun x144 =>
 .need ((0 : Int) ≤ 0 ∧ 0 < (↑n143 : Int)) <|
 .load (x144.add 3) 1 fun v145 =>
 .exI fun i146 =>
 .isL v145 [.int .u64 i146] <|
 .load ⟨p126, 0, none⟩ 1 fun v147 =>
 .exI fun i148 =>
 .isL v147 [.int .u64 i148] <|
 bif (i146 != i148) then
  (.ret (.bool false))
 else
 (.load ⟨p1, 0, none⟩ 17 fun v149 =>
 .exI fun i150 =>
 .exI fun i151 =>
 .exI fun i152 =>
 .exI fun i153 =>
 .exI fun i154 =>
 .exI fun i155 =>
 .exS fun a156 n156 c156 =>
 .exS fun a157 n157 c157 =>
 .exI fun i158 =>
 .exI fun i159 =>
 .exI fun i160 =>
 .exS fun a161 n161 c161 =>
 .exS fun a162 n162 c162 =>
 .exS fun a163 n163 c163 =>
 .exS fun a164 n164 c164 =>
 .exI fun i165 =>
 .exS fun a166 n166 c166 =>
 .isL v149 [.int .u64 i150, .int .i64 i151, .int .i64 i152, .int .i64 i153, .int .u64 i154, .int .u64 i155, .slice a156 n156 c156, .slice a157 n157 c157, .int .u64 i158, .int .i64 i159, .int .i64 i160, .slice a161 n161 c161, .slice a162 n162 c162, .slice a163 n163 c163, .slice a164 n164 c164, .int .u64 i165, .slice a166 n166 c166] <|
 .call 25 ([.agg #[.int .u64 i150, .int .i64 i151, .int .i64 i152, .int .i64 i153, .int .u64 i154, .int .u64 i155, .slice a156 n156 c156, .slice a157 n157 c157, .int .u64 i158, .int .i64 i159, .int .i64 i160, .slice a161 n161 c161, .slice a162 n162 c162, .slice a163 n163 c163, .slice a164 n164 c164, .int .u64 i165, .slice a166 n166 c166]]) fun v167 =>
 .exI fun i168 =>
 .exI fun i169 =>
 .isL [v167] [.tuple #[.int .u64 i168, .int .u64 i169]] <|
 .load ⟨p2, 5, none⟩ 1 fun v170 =>
 .exI fun i171 =>
 .isL v170 [.int .u64 i171] <|
 bif (decide (i171 > i169)) then
  (.load ⟨p2, 3, none⟩ 1 fun v172 =>
  .exI fun i173 =>
  .isL v172 [.int .u64 i173] <|
  .load ⟨p1, 0, none⟩ 1 fun v174 =>
  .exI fun i175 =>
  .isL v174 [.int .u64 i175] <|
  bif (decide (i173 > i175)) then
   (.load ⟨p127, 1, none⟩ 1 fun v176 =>
   .exS fun a177 n177 c177 =>
   .isL v176 [.slice a177 n177 c177] <|
   .some a177 fun x178 =>
   .need ((0 : Int) ≤ 0 ∧ 0 < (↑n177 : Int)) <|
   .load (x178.add 9) 1 fun v179 =>
   .exB fun b180 =>
   .isL v179 [.bool b180] <|
   bif (b180 == true) then
    (.load ⟨p127, 1, none⟩ 1 fun v181 =>
    .exS fun a182 n182 c182 =>
    .isL v181 [.slice a182 n182 c182] <|
    .some a182 fun x183 =>
    .need ((0 : Int) ≤ 0 ∧ 0 < (↑n182 : Int)) <|
    .load (x183.add 9) 1 fun v184 =>
    .exB fun b185 =>
    .isL v184 [.bool b185] <|
    bif !b185 then
     (.ret (.bool true))
    else
    (.load ⟨p126, 1, none⟩ 1 fun v186 =>
    .exI fun i187 =>
    .isL v186 [.int .i64 i187] <|
    .load ⟨p2, 1, none⟩ 1 fun v188 =>
    .exI fun i189 =>
    .isL v188 [.int .i64 i189] <|
    bif (i187 == i189) then
     (.load ⟨p126, 0, none⟩ 1 fun v190 =>
     .exI fun i191 =>
     .isL v190 [.int .u64 i191] <|
     .load ⟨p2, 3, none⟩ 1 fun v192 =>
     .exI fun i193 =>
     .isL v192 [.int .u64 i193] <|
     .ret (.bool (i191 == i193)))
    else
    (.ret (.bool false))))
   else
   (.ret (.bool false)))
  else
  (.load ⟨p2, 3, none⟩ 1 fun v194 =>
  .exI fun i195 =>
  .isL v194 [.int .u64 i195] <|
  .load ⟨p1, 0, none⟩ 1 fun v196 =>
  .exI fun i197 =>
  .isL v196 [.int .u64 i197] <|
  bif (i195 == i197) then
   (.load ⟨p1, 1, none⟩ 1 fun v198 =>
   .exI fun i199 =>
   .isL v198 [.int .i64 i199] <|
   bif (i199 == 0) then
    (.load ⟨p127, 1, none⟩ 1 fun v200 =>
    .exS fun a201 n201 c201 =>
    .isL v200 [.slice a201 n201 c201] <|
    .some a201 fun x202 =>
    .need ((0 : Int) ≤ 0 ∧ 0 < (↑n201 : Int)) <|
    .load (x202.add 9) 1 fun v203 =>
    .exB fun b204 =>
    .isL v203 [.bool b204] <|
    bif (b204 == true) then
     (.load ⟨p127, 1, none⟩ 1 fun v205 =>
     .exS fun a206 n206 c206 =>
     .isL v205 [.slice a206 n206 c206] <|
     .some a206 fun x207 =>
     .need ((0 : Int) ≤ 0 ∧ 0 < (↑n206 : Int)) <|
     .load (x207.add 9) 1 fun v208 =>
     .exB fun b209 =>
     .isL v208 [.bool b209] <|
     bif !b209 then
      (.ret (.bool true))
     else
     (.load ⟨p126, 1, none⟩ 1 fun v210 =>
     .exI fun i211 =>
     .isL v210 [.int .i64 i211] <|
     .load ⟨p2, 1, none⟩ 1 fun v212 =>
     .exI fun i213 =>
     .isL v212 [.int .i64 i213] <|
     bif (i211 == i213) then
      (.load ⟨p126, 0, none⟩ 1 fun v214 =>
      .exI fun i215 =>
      .isL v214 [.int .u64 i215] <|
      .load ⟨p2, 3, none⟩ 1 fun v216 =>
      .exI fun i217 =>
      .isL v216 [.int .u64 i217] <|
      .ret (.bool (i215 == i217)))
     else
     (.ret (.bool false))))
    else
    (.ret (.bool false)))
   else
   (.load ⟨p1, 1, none⟩ 1 fun v218 =>
   .exI fun i219 =>
   .isL v218 [.int .i64 i219] <|
   .load ⟨p2, 1, none⟩ 1 fun v220 =>
   .exI fun i221 =>
   .isL v220 [.int .i64 i221] <|
   .load ⟨p127, 1, none⟩ 1 fun v222 =>
   .exS fun a223 n223 c223 =>
   .isL v222 [.slice a223 n223 c223] <|
   .some a223 fun x224 =>
   .need ((0 : Int) ≤ 0 ∧ 0 < (↑n223 : Int)) <|
   .load (x224.add 9) 1 fun v225 =>
   .exB fun b226 =>
   .isL v225 [.bool b226] <|
   bif (b226 == (i219 == i221)) then
    (.load ⟨p127, 1, none⟩ 1 fun v227 =>
    .exS fun a228 n228 c228 =>
    .isL v227 [.slice a228 n228 c228] <|
    .some a228 fun x229 =>
    .need ((0 : Int) ≤ 0 ∧ 0 < (↑n228 : Int)) <|
    .load (x229.add 9) 1 fun v230 =>
    .exB fun b231 =>
    .isL v230 [.bool b231] <|
    bif !b231 then
     (.ret (.bool true))
    else
    (.load ⟨p126, 1, none⟩ 1 fun v232 =>
    .exI fun i233 =>
    .isL v232 [.int .i64 i233] <|
    .load ⟨p2, 1, none⟩ 1 fun v234 =>
    .exI fun i235 =>
    .isL v234 [.int .i64 i235] <|
    bif (i233 == i235) then
     (.load ⟨p126, 0, none⟩ 1 fun v236 =>
     .exI fun i237 =>
     .isL v236 [.int .u64 i237] <|
     .load ⟨p2, 3, none⟩ 1 fun v238 =>
     .exI fun i239 =>
     .isL v238 [.int .u64 i239] <|
     .ret (.bool (i237 == i239)))
    else
    (.ret (.bool false))))
   else
   (.ret (.bool false))))
  else
  (.load ⟨p127, 1, none⟩ 1 fun v240 =>
  .exS fun a241 n241 c241 =>
  .isL v240 [.slice a241 n241 c241] <|
  .some a241 fun x242 =>
  .need ((0 : Int) ≤ 0 ∧ 0 < (↑n241 : Int)) <|
  .load (x242.add 9) 1 fun v243 =>
  .exB fun b244 =>
  .isL v243 [.bool b244] <|
  bif (b244 == false) then
   (.load ⟨p127, 1, none⟩ 1 fun v245 =>
   .exS fun a246 n246 c246 =>
   .isL v245 [.slice a246 n246 c246] <|
   .some a246 fun x247 =>
   .need ((0 : Int) ≤ 0 ∧ 0 < (↑n246 : Int)) <|
   .load (x247.add 9) 1 fun v248 =>
   .exB fun b249 =>
   .isL v248 [.bool b249] <|
   bif !b249 then
    (.ret (.bool true))
   else
   (.load ⟨p126, 1, none⟩ 1 fun v250 =>
   .exI fun i251 =>
   .isL v250 [.int .i64 i251] <|
   .load ⟨p2, 1, none⟩ 1 fun v252 =>
   .exI fun i253 =>
   .isL v252 [.int .i64 i253] <|
   bif (i251 == i253) then
    (.load ⟨p126, 0, none⟩ 1 fun v254 =>
    .exI fun i255 =>
    .isL v254 [.int .u64 i255] <|
    .load ⟨p2, 3, none⟩ 1 fun v256 =>
    .exI fun i257 =>
    .isL v256 [.int .u64 i257] <|
    .ret (.bool (i255 == i257)))
   else
   (.ret (.bool false))))
  else
  (.ret (.bool false)))))
 else
 (.load ⟨p2, 5, none⟩ 1 fun v258 =>
 .exI fun i259 =>
 .isL v258 [.int .u64 i259] <|
 bif (i259 == i169) then
  (.load ⟨p2, 4, none⟩ 1 fun v260 =>
  .exI fun i261 =>
  .isL v260 [.int .u64 i261] <|
  .load ⟨p2, 3, none⟩ 1 fun v262 =>
  .exI fun i263 =>
  .isL v262 [.int .u64 i263] <|
  .load ⟨p1, 0, none⟩ 1 fun v264 =>
  .exI fun i265 =>
  .isL v264 [.int .u64 i265] <|
  bif (decide (i263 > i265)) then
   (.load ⟨p127, 1, none⟩ 1 fun v266 =>
   .exS fun a267 n267 c267 =>
   .isL v266 [.slice a267 n267 c267] <|
   .some a267 fun x268 =>
   .need ((0 : Int) ≤ 0 ∧ 0 < (↑n267 : Int)) <|
   .load (x268.add 9) 1 fun v269 =>
   .exB fun b270 =>
   .isL v269 [.bool b270] <|
   bif (decide (i261 ≥ i168)) then
    (bif (b270 == true) then
     (.load ⟨p127, 1, none⟩ 1 fun v271 =>
     .exS fun a272 n272 c272 =>
     .isL v271 [.slice a272 n272 c272] <|
     .some a272 fun x273 =>
     .need ((0 : Int) ≤ 0 ∧ 0 < (↑n272 : Int)) <|
     .load (x273.add 9) 1 fun v274 =>
     .exB fun b275 =>
     .isL v274 [.bool b275] <|
     bif !b275 then
      (.ret (.bool true))
     else
     (.load ⟨p126, 1, none⟩ 1 fun v276 =>
     .exI fun i277 =>
     .isL v276 [.int .i64 i277] <|
     .load ⟨p2, 1, none⟩ 1 fun v278 =>
     .exI fun i279 =>
     .isL v278 [.int .i64 i279] <|
     bif (i277 == i279) then
      (.load ⟨p126, 0, none⟩ 1 fun v280 =>
      .exI fun i281 =>
      .isL v280 [.int .u64 i281] <|
      .load ⟨p2, 3, none⟩ 1 fun v282 =>
      .exI fun i283 =>
      .isL v282 [.int .u64 i283] <|
      .ret (.bool (i281 == i283)))
     else
     (.ret (.bool false))))
    else
    (.ret (.bool false)))
   else
   (bif (b270 == false) then
    (.load ⟨p127, 1, none⟩ 1 fun v284 =>
    .exS fun a285 n285 c285 =>
    .isL v284 [.slice a285 n285 c285] <|
    .some a285 fun x286 =>
    .need ((0 : Int) ≤ 0 ∧ 0 < (↑n285 : Int)) <|
    .load (x286.add 9) 1 fun v287 =>
    .exB fun b288 =>
    .isL v287 [.bool b288] <|
    bif !b288 then
     (.ret (.bool true))
    else
    (.load ⟨p126, 1, none⟩ 1 fun v289 =>
    .exI fun i290 =>
    .isL v289 [.int .i64 i290] <|
    .load ⟨p2, 1, none⟩ 1 fun v291 =>
    .exI fun i292 =>
    .isL v291 [.int .i64 i292] <|
    bif (i290 == i292) then
     (.load ⟨p126, 0, none⟩ 1 fun v293 =>
     .exI fun i294 =>
     .isL v293 [.int .u64 i294] <|
     .load ⟨p2, 3, none⟩ 1 fun v295 =>
     .exI fun i296 =>
     .isL v295 [.int .u64 i296] <|
     .ret (.bool (i294 == i296)))
    else
    (.ret (.bool false))))
   else
   (.ret (.bool false))))
  else
  (.load ⟨p2, 3, none⟩ 1 fun v297 =>
  .exI fun i298 =>
  .isL v297 [.int .u64 i298] <|
  .load ⟨p1, 0, none⟩ 1 fun v299 =>
  .exI fun i300 =>
  .isL v299 [.int .u64 i300] <|
  bif (i298 == i300) then
   (.load ⟨p1, 1, none⟩ 1 fun v301 =>
   .exI fun i302 =>
   .isL v301 [.int .i64 i302] <|
   bif (i302 == 0) then
    (.load ⟨p127, 1, none⟩ 1 fun v303 =>
    .exS fun a304 n304 c304 =>
    .isL v303 [.slice a304 n304 c304] <|
    .some a304 fun x305 =>
    .need ((0 : Int) ≤ 0 ∧ 0 < (↑n304 : Int)) <|
    .load (x305.add 9) 1 fun v306 =>
    .exB fun b307 =>
    .isL v306 [.bool b307] <|
    bif (decide (i261 ≥ i168)) then
     (bif (b307 == true) then
      (.load ⟨p127, 1, none⟩ 1 fun v308 =>
      .exS fun a309 n309 c309 =>
      .isL v308 [.slice a309 n309 c309] <|
      .some a309 fun x310 =>
      .need ((0 : Int) ≤ 0 ∧ 0 < (↑n309 : Int)) <|
      .load (x310.add 9) 1 fun v311 =>
      .exB fun b312 =>
      .isL v311 [.bool b312] <|
      bif !b312 then
       (.ret (.bool true))
      else
      (.load ⟨p126, 1, none⟩ 1 fun v313 =>
      .exI fun i314 =>
      .isL v313 [.int .i64 i314] <|
      .load ⟨p2, 1, none⟩ 1 fun v315 =>
      .exI fun i316 =>
      .isL v315 [.int .i64 i316] <|
      bif (i314 == i316) then
       (.load ⟨p126, 0, none⟩ 1 fun v317 =>
       .exI fun i318 =>
       .isL v317 [.int .u64 i318] <|
       .load ⟨p2, 3, none⟩ 1 fun v319 =>
       .exI fun i320 =>
       .isL v319 [.int .u64 i320] <|
       .ret (.bool (i318 == i320)))
      else
      (.ret (.bool false))))
     else
     (.ret (.bool false)))
    else
    (bif (b307 == false) then
     (.load ⟨p127, 1, none⟩ 1 fun v321 =>
     .exS fun a322 n322 c322 =>
     .isL v321 [.slice a322 n322 c322] <|
     .some a322 fun x323 =>
     .need ((0 : Int) ≤ 0 ∧ 0 < (↑n322 : Int)) <|
     .load (x323.add 9) 1 fun v324 =>
     .exB fun b325 =>
     .isL v324 [.bool b325] <|
     bif !b325 then
      (.ret (.bool true))
     else
     (.load ⟨p126, 1, none⟩ 1 fun v326 =>
     .exI fun i327 =>
     .isL v326 [.int .i64 i327] <|
     .load ⟨p2, 1, none⟩ 1 fun v328 =>
     .exI fun i329 =>
     .isL v328 [.int .i64 i329] <|
     bif (i327 == i329) then
      (.load ⟨p126, 0, none⟩ 1 fun v330 =>
      .exI fun i331 =>
      .isL v330 [.int .u64 i331] <|
      .load ⟨p2, 3, none⟩ 1 fun v332 =>
      .exI fun i333 =>
      .isL v332 [.int .u64 i333] <|
      .ret (.bool (i331 == i333)))
     else
     (.ret (.bool false))))
    else
    (.ret (.bool false))))
   else
   (.load ⟨p1, 1, none⟩ 1 fun v334 =>
   .exI fun i335 =>
   .isL v334 [.int .i64 i335] <|
   .load ⟨p2, 1, none⟩ 1 fun v336 =>
   .exI fun i337 =>
   .isL v336 [.int .i64 i337] <|
   .load ⟨p127, 1, none⟩ 1 fun v338 =>
   .exS fun a339 n339 c339 =>
   .isL v338 [.slice a339 n339 c339] <|
   .some a339 fun x340 =>
   .need ((0 : Int) ≤ 0 ∧ 0 < (↑n339 : Int)) <|
   .load (x340.add 9) 1 fun v341 =>
   .exB fun b342 =>
   .isL v341 [.bool b342] <|
   bif (decide (i261 ≥ i168)) then
    (bif (b342 == (i335 == i337)) then
     (.load ⟨p127, 1, none⟩ 1 fun v343 =>
     .exS fun a344 n344 c344 =>
     .isL v343 [.slice a344 n344 c344] <|
     .some a344 fun x345 =>
     .need ((0 : Int) ≤ 0 ∧ 0 < (↑n344 : Int)) <|
     .load (x345.add 9) 1 fun v346 =>
     .exB fun b347 =>
     .isL v346 [.bool b347] <|
     bif !b347 then
      (.ret (.bool true))
     else
     (.load ⟨p126, 1, none⟩ 1 fun v348 =>
     .exI fun i349 =>
     .isL v348 [.int .i64 i349] <|
     .load ⟨p2, 1, none⟩ 1 fun v350 =>
     .exI fun i351 =>
     .isL v350 [.int .i64 i351] <|
     bif (i349 == i351) then
      (.load ⟨p126, 0, none⟩ 1 fun v352 =>
      .exI fun i353 =>
      .isL v352 [.int .u64 i353] <|
      .load ⟨p2, 3, none⟩ 1 fun v354 =>
      .exI fun i355 =>
      .isL v354 [.int .u64 i355] <|
      .ret (.bool (i353 == i355)))
     else
     (.ret (.bool false))))
    else
    (.ret (.bool false)))
   else
   (bif (b342 == false) then
    (.load ⟨p127, 1, none⟩ 1 fun v356 =>
    .exS fun a357 n357 c357 =>
    .isL v356 [.slice a357 n357 c357] <|
    .some a357 fun x358 =>
    .need ((0 : Int) ≤ 0 ∧ 0 < (↑n357 : Int)) <|
    .load (x358.add 9) 1 fun v359 =>
    .exB fun b360 =>
    .isL v359 [.bool b360] <|
    bif !b360 then
     (.ret (.bool true))
    else
    (.load ⟨p126, 1, none⟩ 1 fun v361 =>
    .exI fun i362 =>
    .isL v361 [.int .i64 i362] <|
    .load ⟨p2, 1, none⟩ 1 fun v363 =>
    .exI fun i364 =>
    .isL v363 [.int .i64 i364] <|
    bif (i362 == i364) then
     (.load ⟨p126, 0, none⟩ 1 fun v365 =>
     .exI fun i366 =>
     .isL v365 [.int .u64 i366] <|
     .load ⟨p2, 3, none⟩ 1 fun v367 =>
     .exI fun i368 =>
     .isL v367 [.int .u64 i368] <|
     .ret (.bool (i366 == i368)))
    else
    (.ret (.bool false))))
   else
   (.ret (.bool false)))))
  else
  (.load ⟨p127, 1, none⟩ 1 fun v369 =>
  .exS fun a370 n370 c370 =>
  .isL v369 [.slice a370 n370 c370] <|
  .some a370 fun x371 =>
  .need ((0 : Int) ≤ 0 ∧ 0 < (↑n370 : Int)) <|
  .load (x371.add 9) 1 fun v372 =>
  .exB fun b373 =>
  .isL v372 [.bool b373] <|
  bif (decide (i261 ≥ i168)) then
   (bif (b373 == false) then
    (.load ⟨p127, 1, none⟩ 1 fun v374 =>
    .exS fun a375 n375 c375 =>
    .isL v374 [.slice a375 n375 c375] <|
    .some a375 fun x376 =>
    .need ((0 : Int) ≤ 0 ∧ 0 < (↑n375 : Int)) <|
    .load (x376.add 9) 1 fun v377 =>
    .exB fun b378 =>
    .isL v377 [.bool b378] <|
    bif !b378 then
     (.ret (.bool true))
    else
    (.load ⟨p126, 1, none⟩ 1 fun v379 =>
    .exI fun i380 =>
    .isL v379 [.int .i64 i380] <|
    .load ⟨p2, 1, none⟩ 1 fun v381 =>
    .exI fun i382 =>
    .isL v381 [.int .i64 i382] <|
    bif (i380 == i382) then
     (.load ⟨p126, 0, none⟩ 1 fun v383 =>
     .exI fun i384 =>
     .isL v383 [.int .u64 i384] <|
     .load ⟨p2, 3, none⟩ 1 fun v385 =>
     .exI fun i386 =>
     .isL v385 [.int .u64 i386] <|
     .ret (.bool (i384 == i386)))
    else
    (.ret (.bool false))))
   else
   (.ret (.bool false)))
  else
  (bif (b373 == false) then
   (.load ⟨p127, 1, none⟩ 1 fun v387 =>
   .exS fun a388 n388 c388 =>
   .isL v387 [.slice a388 n388 c388] <|
   .some a388 fun x389 =>
   .need ((0 : Int) ≤ 0 ∧ 0 < (↑n388 : Int)) <|
   .load (x389.add 9) 1 fun v390 =>
   .exB fun b391 =>
   .isL v390 [.bool b391] <|
   bif !b391 then
    (.ret (.bool true))
   else
   (.load ⟨p126, 1, none⟩ 1 fun v392 =>
   .exI fun i393 =>
   .isL v392 [.int .i64 i393] <|
   .load ⟨p2, 1, none⟩ 1 fun v394 =>
   .exI fun i395 =>
   .isL v394 [.int .i64 i395] <|
   bif (i393 == i395) then
    (.load ⟨p126, 0, none⟩ 1 fun v396 =>
    .exI fun i397 =>
    .isL v396 [.int .u64 i397] <|
    .load ⟨p2, 3, none⟩ 1 fun v398 =>
    .exI fun i399 =>
    .isL v398 [.int .u64 i399] <|
    .ret (.bool (i397 == i399)))
   else
   (.ret (.bool false))))
  else
  (.ret (.bool false))))))
 else
 (.load ⟨p2, 3, none⟩ 1 fun v400 =>
 .exI fun i401 =>
 .isL v400 [.int .u64 i401] <|
 .load ⟨p1, 0, none⟩ 1 fun v402 =>
 .exI fun i403 =>
 .isL v402 [.int .u64 i403] <|
 bif (decide (i401 > i403)) then
  (.load ⟨p127, 1, none⟩ 1 fun v404 =>
  .exS fun a405 n405 c405 =>
  .isL v404 [.slice a405 n405 c405] <|
  .some a405 fun x406 =>
  .need ((0 : Int) ≤ 0 ∧ 0 < (↑n405 : Int)) <|
  .load (x406.add 9) 1 fun v407 =>
  .exB fun b408 =>
  .isL v407 [.bool b408] <|
  bif (b408 == false) then
   (.load ⟨p127, 1, none⟩ 1 fun v409 =>
   .exS fun a410 n410 c410 =>
   .isL v409 [.slice a410 n410 c410] <|
   .some a410 fun x411 =>
   .need ((0 : Int) ≤ 0 ∧ 0 < (↑n410 : Int)) <|
   .load (x411.add 9) 1 fun v412 =>
   .exB fun b413 =>
   .isL v412 [.bool b413] <|
   bif !b413 then
    (.ret (.bool true))
   else
   (.load ⟨p126, 1, none⟩ 1 fun v414 =>
   .exI fun i415 =>
   .isL v414 [.int .i64 i415] <|
   .load ⟨p2, 1, none⟩ 1 fun v416 =>
   .exI fun i417 =>
   .isL v416 [.int .i64 i417] <|
   bif (i415 == i417) then
    (.load ⟨p126, 0, none⟩ 1 fun v418 =>
    .exI fun i419 =>
    .isL v418 [.int .u64 i419] <|
    .load ⟨p2, 3, none⟩ 1 fun v420 =>
    .exI fun i421 =>
    .isL v420 [.int .u64 i421] <|
    .ret (.bool (i419 == i421)))
   else
   (.ret (.bool false))))
  else
  (.ret (.bool false)))
 else
 (.load ⟨p2, 3, none⟩ 1 fun v422 =>
 .exI fun i423 =>
 .isL v422 [.int .u64 i423] <|
 .load ⟨p1, 0, none⟩ 1 fun v424 =>
 .exI fun i425 =>
 .isL v424 [.int .u64 i425] <|
 bif (i423 == i425) then
  (.load ⟨p1, 1, none⟩ 1 fun v426 =>
  .exI fun i427 =>
  .isL v426 [.int .i64 i427] <|
  bif (i427 == 0) then
   (.load ⟨p127, 1, none⟩ 1 fun v428 =>
   .exS fun a429 n429 c429 =>
   .isL v428 [.slice a429 n429 c429] <|
   .some a429 fun x430 =>
   .need ((0 : Int) ≤ 0 ∧ 0 < (↑n429 : Int)) <|
   .load (x430.add 9) 1 fun v431 =>
   .exB fun b432 =>
   .isL v431 [.bool b432] <|
   bif (b432 == false) then
    (.load ⟨p127, 1, none⟩ 1 fun v433 =>
    .exS fun a434 n434 c434 =>
    .isL v433 [.slice a434 n434 c434] <|
    .some a434 fun x435 =>
    .need ((0 : Int) ≤ 0 ∧ 0 < (↑n434 : Int)) <|
    .load (x435.add 9) 1 fun v436 =>
    .exB fun b437 =>
    .isL v436 [.bool b437] <|
    bif !b437 then
     (.ret (.bool true))
    else
    (.load ⟨p126, 1, none⟩ 1 fun v438 =>
    .exI fun i439 =>
    .isL v438 [.int .i64 i439] <|
    .load ⟨p2, 1, none⟩ 1 fun v440 =>
    .exI fun i441 =>
    .isL v440 [.int .i64 i441] <|
    bif (i439 == i441) then
     (.load ⟨p126, 0, none⟩ 1 fun v442 =>
     .exI fun i443 =>
     .isL v442 [.int .u64 i443] <|
     .load ⟨p2, 3, none⟩ 1 fun v444 =>
     .exI fun i445 =>
     .isL v444 [.int .u64 i445] <|
     .ret (.bool (i443 == i445)))
    else
    (.ret (.bool false))))
   else
   (.ret (.bool false)))
  else
  (.load ⟨p1, 1, none⟩ 1 fun v446 =>
  .exI fun i447 =>
  .isL v446 [.int .i64 i447] <|
  .load ⟨p2, 1, none⟩ 1 fun v448 =>
  .exI fun i449 =>
  .isL v448 [.int .i64 i449] <|
  .load ⟨p127, 1, none⟩ 1 fun v450 =>
  .exS fun a451 n451 c451 =>
  .isL v450 [.slice a451 n451 c451] <|
  .some a451 fun x452 =>
  .need ((0 : Int) ≤ 0 ∧ 0 < (↑n451 : Int)) <|
  .load (x452.add 9) 1 fun v453 =>
  .exB fun b454 =>
  .isL v453 [.bool b454] <|
  bif (b454 == false) then
   (.load ⟨p127, 1, none⟩ 1 fun v455 =>
   .exS fun a456 n456 c456 =>
   .isL v455 [.slice a456 n456 c456] <|
   .some a456 fun x457 =>
   .need ((0 : Int) ≤ 0 ∧ 0 < (↑n456 : Int)) <|
   .load (x457.add 9) 1 fun v458 =>
   .exB fun b459 =>
   .isL v458 [.bool b459] <|
   bif !b459 then
    (.ret (.bool true))
   else
   (.load ⟨p126, 1, none⟩ 1 fun v460 =>
   .exI fun i461 =>
   .isL v460 [.int .i64 i461] <|
   .load ⟨p2, 1, none⟩ 1 fun v462 =>
   .exI fun i463 =>
   .isL v462 [.int .i64 i463] <|
   bif (i461 == i463) then
    (.load ⟨p126, 0, none⟩ 1 fun v464 =>
    .exI fun i465 =>
    .isL v464 [.int .u64 i465] <|
    .load ⟨p2, 3, none⟩ 1 fun v466 =>
    .exI fun i467 =>
    .isL v466 [.int .u64 i467] <|
    .ret (.bool (i465 == i467)))
   else
   (.ret (.bool false))))
  else
  (.ret (.bool false))))
 else
 (.load ⟨p127, 1, none⟩ 1 fun v468 =>
 .exS fun a469 n469 c469 =>
 .isL v468 [.slice a469 n469 c469] <|
 .some a469 fun x470 =>
 .need ((0 : Int) ≤ 0 ∧ 0 < (↑n469 : Int)) <|
 .load (x470.add 9) 1 fun v471 =>
 .exB fun b472 =>
 .isL v471 [.bool b472] <|
 bif (b472 == false) then
  (.load ⟨p127, 1, none⟩ 1 fun v473 =>
  .exS fun a474 n474 c474 =>
  .isL v473 [.slice a474 n474 c474] <|
  .some a474 fun x475 =>
  .need ((0 : Int) ≤ 0 ∧ 0 < (↑n474 : Int)) <|
  .load (x475.add 9) 1 fun v476 =>
  .exB fun b477 =>
  .isL v476 [.bool b477] <|
  bif !b477 then
   (.ret (.bool true))
  else
  (.load ⟨p126, 1, none⟩ 1 fun v478 =>
  .exI fun i479 =>
  .isL v478 [.int .i64 i479] <|
  .load ⟨p2, 1, none⟩ 1 fun v480 =>
  .exI fun i481 =>
  .isL v480 [.int .i64 i481] <|
  bif (i479 == i481) then
   (.load ⟨p126, 0, none⟩ 1 fun v482 =>
   .exI fun i483 =>
   .isL v482 [.int .u64 i483] <|
   .load ⟨p2, 3, none⟩ 1 fun v484 =>
   .exI fun i485 =>
   .isL v484 [.int .u64 i485] <|
   .ret (.bool (i483 == i485)))
  else
  (.ret (.bool false))))
 else
 (.ret (.bool false))))))))))))))))))
theorem e13 (r0 : Int) (r1 : Int) (r2 : Int) (r3 : Int) (r4 : Int) (r5 : Int) (r6a : Option Addr) (r6n : Nat) (r6c : Nat) (r7a : Option Addr) (r7n : Nat) (r7c : Nat) (r8 : Int) (r9 : Int) (r10 : Int) (r11a : Option Addr) (r11n : Nat) (r11c : Nat) (r12a : Option Addr) (r12n : Nat) (r12c : Nat) (r13a : Option Addr) (r13n : Nat) (r13c : Nat) (r14a : Option Addr) (r14n : Nat) (r14c : Nat) (r15 : Int) (r16a : Option Addr) (r16n : Nat) (r16c : Nat) (m0 : Int) (m1 : Int) (m2 : Int) (m3 : Int) (m4 : Int) (m5 : Int) (m6a : Option Addr) (m6n : Nat) (m6c : Nat) (m7 : Int) (m8 : Int) (m9 : Bool) (m10 : Int) (m11 : Int) (m12a : Option Addr) (m12n : Nat) (m12c : Nat) (m13 : Int) (m14 : Int) (m15 : Int) (m16 : ByteArray) (m17 : ByteArray) (m18 : Int) (m19 : Int) (m20 : ByteArray) : genFn Try.prog noM noM Try.f13 [.agg #[.int .u64 r0, .int .i64 r1, .int .i64 r2, .int .i64 r3, .int .u64 r4, .int .u64 r5, .slice r6a r6n r6c, .slice r7a r7n r7c, .int .u64 r8, .int .i64 r9, .int .i64 r10, .slice r11a r11n r11c, .slice r12a r12n r12c, .slice r13a r13n r13c, .slice r14a r14n r14c, .int .u64 r15, .slice r16a r16n r16c], .agg #[.int .i64 m0, .int .i64 m1, .int .i64 m2, .int .u64 m3, .int .u64 m4, .int .u64 m5, .slice m6a m6n m6c, .int .u64 m7, .int .u64 m8, .bool m9, .int .u64 m10, .int .u64 m11, .slice m12a m12n m12c, .int .i64 m13, .int .i64 m14, .int .u64 m15, .string m16, .string m17, .int .u64 m18, .int .i64 m19, .string m20]] = t13 r0 r1 r2 r3 r4 r5 r6a r6n r6c r7a r7n r7c r8 r9 r10 r11a r11n r11c r12a r12n r12c r13a r13n r13c r14a r14n r14c r15 r16a r16n r16c m0 m1 m2 m3 m4 m5 m6a m6n m6c m7 m8 m9 m10 m11 m12a m12n m12c m13 m14 m15 m16 m17 m18 m19 m20 := by kernel_rfl
theorem r13 (r0 : Int) (r1 : Int) (r2 : Int) (r3 : Int) (r4 : Int) (r5 : Int) (r6a : Option Addr) (r6n : Nat) (r6c : Nat) (r7a : Option Addr) (r7n : Nat) (r7c : Nat) (r8 : Int) (r9 : Int) (r10 : Int) (r11a : Option Addr) (r11n : Nat) (r11c : Nat) (r12a : Option Addr) (r12n : Nat) (r12c : Nat) (r13a : Option Addr) (r13n : Nat) (r13c : Nat) (r14a : Option Addr) (r14n : Nat) (r14c : Nat) (r15 : Int) (r16a : Option Addr) (r16n : Nat) (r16c : Nat) (m0 : Int) (m1 : Int) (m2 : Int) (m3 : Int) (m4 : Int) (m5 : Int) (m6a : Option Addr) (m6n : Nat) (m6c : Nat) (m7 : Int) (m8 : Int) (m9 : Bool) (m10 : Int) (m11 : Int) (m12a : Option Addr) (m12n : Nat) (m12c : Nat) (m13 : Int) (m14 : Int) (m15 : Int) (m16 : ByteArray) (m17 : ByteArray) (m18 : Int) (m19 : Int) (m20 : ByteArray) {R : Value → World → Prop} {w : World} (h : (t13 r0 r1 r2 r3 r4 r5 r6a r6n r6c r7a r7n r7c r8 r9 r10 r11a r11n r11c r12a r12n r12c r13a r13n r13c r14a r14n r14c r15 r16a r16n r16c m0 m1 m2 m3 m4 m5 m6a m6n m6c m7 m8 m9 m10 m11 m12a m12n m12c m13 m14 m15 m16 m17 m18 m19 m20).wp Try.prog R (fun _ _ _ => False) w) : Runs Try.prog 13 [.agg #[.int .u64 r0, .int .i64 r1, .int .i64 r2, .int .i64 r3, .int .u64 r4, .int .u64 r5, .slice r6a r6n r6c, .slice r7a r7n r7c, .int .u64 r8, .int .i64 r9, .int .i64 r10, .slice r11a r11n r11c, .slice r12a r12n r12c, .slice r13a r13n r13c, .slice r14a r14n r14c, .int .u64 r15, .slice r16a r16n r16c], .agg #[.int .i64 m0, .int .i64 m1, .int .i64 m2, .int .u64 m3, .int .u64 m4, .int .u64 m5, .slice m6a m6n m6c, .int .u64 m7, .int .u64 m8, .bool m9, .int .u64 m10, .int .u64 m11, .slice m12a m12n m12c, .int .i64 m13, .int .i64 m14, .int .u64 m15, .string m16, .string m17, .int .u64 m18, .int .i64 m19, .string m20]] w R :=
 genFn_runs mixed noM noM Try.func13 (by kernel_rfl) (by rw [e13]; exact h)
end Go.Proofs.Ytnbfffmdplcajaa
