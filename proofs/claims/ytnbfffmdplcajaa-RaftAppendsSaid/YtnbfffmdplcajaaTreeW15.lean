/- The trees of verification conditions of functions 15: printed by a program of mine, checked here. -/
import Derived.Test.YtnbfffmdplcajaaTree0
set_option linter.unusedVariables false
set_option maxRecDepth 100000
namespace Go.Proofs.Ytnbfffmdplcajaa
open Go.Vc
def lv15 : Marks := (fun | some 11 => some [(7, .int .i64 0)] | _ => none)
def t15 (r0 : Int) (r1 : Int) (r2 : Int) (r3 : Int) (r4 : Int) (r5 : Int) (r6a : Option Addr) (r6n : Nat) (r6c : Nat) (r7a : Option Addr) (r7n : Nat) (r7c : Nat) (r8 : Int) (r9 : Int) (r10 : Int) (r11a : Option Addr) (r11n : Nat) (r11c : Nat) (r12a : Option Addr) (r12n : Nat) (r12c : Nat) (r13a : Option Addr) (r13n : Nat) (r13c : Nat) (r14a : Option Addr) (r14n : Nat) (r14c : Nat) (r15 : Int) (r16a : Option Addr) (r16n : Nat) (r16c : Nat) (m0 : Int) (m1 : Int) (m2 : Int) (m3 : Int) (m4 : Int) (m5 : Int) (m6a : Option Addr) (m6n : Nat) (m6c : Nat) (m7 : Int) (m8 : Int) (m9 : Bool) (m10 : Int) (m11 : Int) (m12a : Option Addr) (m12n : Nat) (m12c : Nat) (m13 : Int) (m14 : Int) (m15 : Int) (m16 : ByteArray) (m17 : ByteArray) (m18 : Int) (m19 : Int) (m20 : ByteArray) : VC :=
 .new 36 [.int .u64 r0, .int .i64 r1, .int .i64 r2, .int .i64 r3, .int .u64 r4, .int .u64 r5, .slice r6a r6n r6c, .slice r7a r7n r7c, .int .u64 r8, .int .i64 r9, .int .i64 r10, .slice r11a r11n r11c, .slice r12a r12n r12c, .slice r13a r13n r13c, .slice r14a r14n r14c, .int .u64 r15, .slice r16a r16n r16c] fun p1 =>
 .new 70 [.int .i64 m0, .int .i64 m1, .int .i64 m2, .int .u64 m3, .int .u64 m4, .int .u64 m5, .slice m6a m6n m6c, .int .u64 m7, .int .u64 m8, .bool m9, .int .u64 m10, .int .u64 m11, .slice m12a m12n m12c, .int .i64 m13, .int .i64 m14, .int .u64 m15, .string m16, .string m17, .int .u64 m18, .int .i64 m19, .string m20] fun p2 =>
 .call 22 ([]) fun v3 =>
 .exB fun b4 =>
 .isL [v3] [.bool b4] <|
 bif !b4 then
  (.ret (.bool false))
 else
 (.load ⟨p1, 0, none⟩ 17 fun v5 =>
 .exI fun i6 =>
 .exI fun i7 =>
 .exI fun i8 =>
 .exI fun i9 =>
 .exI fun i10 =>
 .exI fun i11 =>
 .exS fun a12 n12 c12 =>
 .exS fun a13 n13 c13 =>
 .exI fun i14 =>
 .exI fun i15 =>
 .exI fun i16 =>
 .exS fun a17 n17 c17 =>
 .exS fun a18 n18 c18 =>
 .exS fun a19 n19 c19 =>
 .exS fun a20 n20 c20 =>
 .exI fun i21 =>
 .exS fun a22 n22 c22 =>
 .isL v5 [.int .u64 i6, .int .i64 i7, .int .i64 i8, .int .i64 i9, .int .u64 i10, .int .u64 i11, .slice a12 n12 c12, .slice a13 n13 c13, .int .u64 i14, .int .i64 i15, .int .i64 i16, .slice a17 n17 c17, .slice a18 n18 c18, .slice a19 n19 c19, .slice a20 n20 c20, .int .u64 i21, .slice a22 n22 c22] <|
 .call 30 ([.agg #[.int .u64 i6, .int .i64 i7, .int .i64 i8, .int .i64 i9, .int .u64 i10, .int .u64 i11, .slice a12 n12 c12, .slice a13 n13 c13, .int .u64 i14, .int .i64 i15, .int .i64 i16, .slice a17 n17 c17, .slice a18 n18 c18, .slice a19 n19 c19, .slice a20 n20 c20, .int .u64 i21, .slice a22 n22 c22]]) fun v23 =>
 .exB fun b24 =>
 .isL [v23] [.bool b24] <|
 bif !b24 then
  (.ret (.bool true))
 else
 (.load ⟨p2, 0, none⟩ 21 fun v25 =>
 .exI fun i26 =>
 .exI fun i27 =>
 .exI fun i28 =>
 .exI fun i29 =>
 .exI fun i30 =>
 .exI fun i31 =>
 .exS fun a32 n32 c32 =>
 .exI fun i33 =>
 .exI fun i34 =>
 .exB fun b35 =>
 .exI fun i36 =>
 .exI fun i37 =>
 .exS fun a38 n38 c38 =>
 .exI fun i39 =>
 .exI fun i40 =>
 .exI fun i41 =>
 .exT fun s42 =>
 .exT fun s43 =>
 .exI fun i44 =>
 .exI fun i45 =>
 .exT fun s46 =>
 .isL v25 [.int .i64 i26, .int .i64 i27, .int .i64 i28, .int .u64 i29, .int .u64 i30, .int .u64 i31, .slice a32 n32 c32, .int .u64 i33, .int .u64 i34, .bool b35, .int .u64 i36, .int .u64 i37, .slice a38 n38 c38, .int .i64 i39, .int .i64 i40, .int .u64 i41, .string s42, .string s43, .int .u64 i44, .int .i64 i45, .string s46] <|
 .call 35 ([.agg #[.int .i64 i26, .int .i64 i27, .int .i64 i28, .int .u64 i29, .int .u64 i30, .int .u64 i31, .slice a32 n32 c32, .int .u64 i33, .int .u64 i34, .bool b35, .int .u64 i36, .int .u64 i37, .slice a38 n38 c38, .int .i64 i39, .int .i64 i40, .int .u64 i41, .string s42, .string s43, .int .u64 i44, .int .i64 i45, .string s46]]) fun v47 =>
 .exB fun b48 =>
 .isL [v47] [.bool b48] <|
 bif !b48 then
  (.ret (.bool true))
 else
 (.load ⟨p2, 0, none⟩ 1 fun v49 =>
 .exI fun i50 =>
 .isL v49 [.int .i64 i50] <|
 bif (i50 != 3) then
  (.ret (.bool true))
 else
 (.load ⟨p2, 3, none⟩ 1 fun v51 =>
 .exI fun i52 =>
 .isL v51 [.int .u64 i52] <|
 .load ⟨p1, 0, none⟩ 1 fun v53 =>
 .exI fun i54 =>
 .isL v53 [.int .u64 i54] <|
 bif (decide (i52 < i54)) then
  (.ret (.bool true))
 else
 (.load ⟨p2, 1, none⟩ 1 fun v55 =>
 .exI fun i56 =>
 .isL v55 [.int .i64 i56] <|
 bif (decide (i56 < 1)) then
  (.ret (.bool true))
 else
 (.load ⟨p2, 1, none⟩ 1 fun v57 =>
 .exI fun i58 =>
 .isL v57 [.int .i64 i58] <|
 .load ⟨p1, 3, none⟩ 1 fun v59 =>
 .exI fun i60 =>
 .isL v59 [.int .i64 i60] <|
 bif (decide (i58 > i60)) then
  (.ret (.bool true))
 else
 (.load ⟨p2, 1, none⟩ 1 fun v61 =>
 .exI fun i62 =>
 .isL v61 [.int .i64 i62] <|
 .load ⟨p1, 2, none⟩ 1 fun v63 =>
 .exI fun i64 =>
 .isL v63 [.int .i64 i64] <|
 bif (i62 == i64) then
  (.ret (.bool true))
 else
 (.load ⟨p2, 2, none⟩ 1 fun v65 =>
 .exI fun i66 =>
 .isL v65 [.int .i64 i66] <|
 .load ⟨p1, 2, none⟩ 1 fun v67 =>
 .exI fun i68 =>
 .isL v67 [.int .i64 i68] <|
 bif (i66 != i68) then
  (.ret (.bool true))
 else
 (.load ⟨p1, 0, none⟩ 17 fun v69 =>
 .exI fun i70 =>
 .exI fun i71 =>
 .exI fun i72 =>
 .exI fun i73 =>
 .exI fun i74 =>
 .exI fun i75 =>
 .exS fun a76 n76 c76 =>
 .exS fun a77 n77 c77 =>
 .exI fun i78 =>
 .exI fun i79 =>
 .exI fun i80 =>
 .exS fun a81 n81 c81 =>
 .exS fun a82 n82 c82 =>
 .exS fun a83 n83 c83 =>
 .exS fun a84 n84 c84 =>
 .exI fun i85 =>
 .exS fun a86 n86 c86 =>
 .isL v69 [.int .u64 i70, .int .i64 i71, .int .i64 i72, .int .i64 i73, .int .u64 i74, .int .u64 i75, .slice a76 n76 c76, .slice a77 n77 c77, .int .u64 i78, .int .i64 i79, .int .i64 i80, .slice a81 n81 c81, .slice a82 n82 c82, .slice a83 n83 c83, .slice a84 n84 c84, .int .u64 i85, .slice a86 n86 c86] <|
 .load ⟨p2, 0, none⟩ 21 fun v87 =>
 .exI fun i88 =>
 .exI fun i89 =>
 .exI fun i90 =>
 .exI fun i91 =>
 .exI fun i92 =>
 .exI fun i93 =>
 .exS fun a94 n94 c94 =>
 .exI fun i95 =>
 .exI fun i96 =>
 .exB fun b97 =>
 .exI fun i98 =>
 .exI fun i99 =>
 .exS fun a100 n100 c100 =>
 .exI fun i101 =>
 .exI fun i102 =>
 .exI fun i103 =>
 .exT fun s104 =>
 .exT fun s105 =>
 .exI fun i106 =>
 .exI fun i107 =>
 .exT fun s108 =>
 .isL v87 [.int .i64 i88, .int .i64 i89, .int .i64 i90, .int .u64 i91, .int .u64 i92, .int .u64 i93, .slice a94 n94 c94, .int .u64 i95, .int .u64 i96, .bool b97, .int .u64 i98, .int .u64 i99, .slice a100 n100 c100, .int .i64 i101, .int .i64 i102, .int .u64 i103, .string s104, .string s105, .int .u64 i106, .int .i64 i107, .string s108] <|
 .call 38 ([.agg #[.int .u64 i70, .int .i64 i71, .int .i64 i72, .int .i64 i73, .int .u64 i74, .int .u64 i75, .slice a76 n76 c76, .slice a77 n77 c77, .int .u64 i78, .int .i64 i79, .int .i64 i80, .slice a81 n81 c81, .slice a82 n82 c82, .slice a83 n83 c83, .slice a84 n84 c84, .int .u64 i85, .slice a86 n86 c86], .agg #[.int .i64 i88, .int .i64 i89, .int .i64 i90, .int .u64 i91, .int .u64 i92, .int .u64 i93, .slice a94 n94 c94, .int .u64 i95, .int .u64 i96, .bool b97, .int .u64 i98, .int .u64 i99, .slice a100 n100 c100, .int .i64 i101, .int .i64 i102, .int .u64 i103, .string s104, .string s105, .int .u64 i106, .int .i64 i107, .string s108]]) fun v109 =>
 .exI fun i110 =>
 .exI fun i111 =>
 .exI fun i112 =>
 .exI fun i113 =>
 .exI fun i114 =>
 .exI fun i115 =>
 .exS fun a116 n116 c116 =>
 .exS fun a117 n117 c117 =>
 .exI fun i118 =>
 .exI fun i119 =>
 .exI fun i120 =>
 .exS fun a121 n121 c121 =>
 .exS fun a122 n122 c122 =>
 .exS fun a123 n123 c123 =>
 .exS fun a124 n124 c124 =>
 .exI fun i125 =>
 .exS fun a126 n126 c126 =>
 .exS fun a127 n127 c127 =>
 .exS fun a128 n128 c128 =>
 .exS fun a129 n129 c129 =>
 .isL [v109] [.tuple #[.agg #[.int .u64 i110, .int .i64 i111, .int .i64 i112, .int .i64 i113, .int .u64 i114, .int .u64 i115, .slice a116 n116 c116, .slice a117 n117 c117, .int .u64 i118, .int .i64 i119, .int .i64 i120, .slice a121 n121 c121, .slice a122 n122 c122, .slice a123 n123 c123, .slice a124 n124 c124, .int .u64 i125, .slice a126 n126 c126], .agg #[.slice a127 n127 c127, .slice a128 n128 c128, .slice a129 n129 c129]]] <|
 .new 36 [.int .u64 0, .int .i64 0, .int .i64 0, .int .i64 0, .int .u64 0, .int .u64 0, .slice none 0 0, .slice none 0 0, .int .u64 0, .int .i64 0, .int .i64 0, .slice none 0 0, .slice none 0 0, .slice none 0 0, .slice none 0 0, .int .u64 0, .slice none 0 0] fun p130 =>
 .new 48 [.slice none 0 0, .slice none 0 0, .slice none 0 0] fun p131 =>
 .store ⟨p130, 0, none⟩ [.int .u64 i110, .int .i64 i111, .int .i64 i112, .int .i64 i113, .int .u64 i114, .int .u64 i115, .slice a116 n116 c116, .slice a117 n117 c117, .int .u64 i118, .int .i64 i119, .int .i64 i120, .slice a121 n121 c121, .slice a122 n122 c122, .slice a123 n123 c123, .slice a124 n124 c124, .int .u64 i125, .slice a126 n126 c126] <|
 .store ⟨p131, 0, none⟩ [.slice a127 n127 c127, .slice a128 n128 c128, .slice a129 n129 c129] <|
 .draw <|
 .load ⟨p131, 1, none⟩ 1 fun v132 =>
 .exS fun a133 n133 c133 =>
 .isL v132 [.slice a133 n133 c133] <|
 bif ((↑n133 : Int) != 1) then
  (.ret (.bool false))
 else
 (.load ⟨p131, 1, none⟩ 1 fun v134 =>
 .exS fun a135 n135 c135 =>
 .isL v134 [.slice a135 n135 c135] <|
 .some a135 fun x136 =>
 .need ((0 : Int) ≤ 0 ∧ 0 < (↑n135 : Int)) <|
 .load x136 1 fun v137 =>
 .exI fun i138 =>
 .isL v137 [.int .i64 i138] <|
 bif (i138 != 4) then
  (.ret (.bool false))
 else
 (.load ⟨p131, 1, none⟩ 1 fun v139 =>
 .exS fun a140 n140 c140 =>
 .isL v139 [.slice a140 n140 c140] <|
 .some a140 fun x141 =>
 .need ((0 : Int) ≤ 0 ∧ 0 < (↑n140 : Int)) <|
 .load (x141.add 8) 1 fun v142 =>
 .exI fun i143 =>
 .isL v142 [.int .u64 i143] <|
 .load ⟨p2, 8, none⟩ 1 fun v144 =>
 .exI fun i145 =>
 .isL v144 [.int .u64 i145] <|
 bif (i143 != i145) then
  (.ret (.bool false))
 else
 (.load ⟨p130, 9, none⟩ 1 fun v146 =>
 .exI fun i147 =>
 .isL v146 [.int .i64 i147] <|
 bif (i147 != 0) then
  (.ret (.bool false))
 else
 (.load ⟨p130, 10, none⟩ 1 fun v148 =>
 .exI fun i149 =>
 .isL v148 [.int .i64 i149] <|
 .load ⟨p2, 1, none⟩ 1 fun v150 =>
 .exI fun i151 =>
 .isL v150 [.int .i64 i151] <|
 bif (i149 != i151) then
  (.ret (.bool false))
 else
 (.load ⟨p131, 1, none⟩ 1 fun v152 =>
 .exS fun a153 n153 c153 =>
 .isL v152 [.slice a153 n153 c153] <|
 .some a153 fun x154 =>
 .need ((0 : Int) ≤ 0 ∧ 0 < (↑n153 : Int)) <|
 .load (x154.add 9) 1 fun v155 =>
 .exB fun b156 =>
 .isL v155 [.bool b156] <|
 bif !b156 then
  (.draw <|
  .load ⟨p130, 7, none⟩ 1 fun v157 =>
  .exS fun a158 n158 c158 =>
  .isL v157 [.slice a158 n158 c158] <|
  .load ⟨p1, 7, none⟩ 1 fun v159 =>
  .exS fun a160 n160 c160 =>
  .isL v159 [.slice a160 n160 c160] <|
  .call 48 ([.slice a158 n158 c158, .slice a160 n160 c160]) fun v161 =>
  .exB fun b162 =>
  .isL [v161] [.bool b162] <|
  bif b162 then
   (.load ⟨p2, 4, none⟩ 1 fun v163 =>
   .exI fun i164 =>
   .isL v163 [.int .u64 i164] <|
   bif (i164 == 0) then
    (.load ⟨p130, 8, none⟩ 1 fun v165 =>
    .exI fun i166 =>
    .isL v165 [.int .u64 i166] <|
    .load ⟨p1, 8, none⟩ 1 fun v167 =>
    .exI fun i168 =>
    .isL v167 [.int .u64 i168] <|
    .ret (.bool (i166 == i168)))
   else
   (.load ⟨p131, 1, none⟩ 1 fun v169 =>
   .exS fun a170 n170 c170 =>
   .isL v169 [.slice a170 n170 c170] <|
   .some a170 fun x171 =>
   .need ((0 : Int) ≤ 0 ∧ 0 < (↑n170 : Int)) <|
   .load (x171.add 4) 1 fun v172 =>
   .exI fun i173 =>
   .isL v172 [.int .u64 i173] <|
   .load ⟨p2, 4, none⟩ 1 fun v174 =>
   .exI fun i175 =>
   .isL v174 [.int .u64 i175] <|
   bif (decide (i173 < i175)) then
    (.load ⟨p130, 8, none⟩ 1 fun v176 =>
    .exI fun i177 =>
    .isL v176 [.int .u64 i177] <|
    .load ⟨p1, 8, none⟩ 1 fun v178 =>
    .exI fun i179 =>
    .isL v178 [.int .u64 i179] <|
    .ret (.bool (i177 == i179)))
   else
   (.ret (.bool false))))
  else
  (.ret (.bool false)))
 else
 (.loop 0 [.int .i64 0] (fun v180 =>
  .exI fun i181 =>
  .isL v180 [.int .i64 i181] <|
  .load ⟨p2, 6, none⟩ 1 fun v182 =>
  .exS fun a183 n183 c183 =>
  .isL v182 [.slice a183 n183 c183] <|
  bif (decide (i181 < (↑n183 : Int))) then
   (.load ⟨p2, 4, none⟩ 1 fun v184 =>
   .exI fun i185 =>
   .isL v184 [.int .u64 i185] <|
   .load ⟨p130, 4, none⟩ 1 fun v186 =>
   .exI fun i187 =>
   .isL v186 [.int .u64 i187] <|
   bif (decide (IntKind.u64.wrap (IntKind.u64.wrap (i185 + 1) + IntKind.u64.wrap i181) ≤ i187)) then
    (.again 0 [.int .i64 (IntKind.i64.wrap (i181 + 1))])
   else
   (.load ⟨p130, 0, none⟩ 17 fun v188 =>
   .exI fun i189 =>
   .exI fun i190 =>
   .exI fun i191 =>
   .exI fun i192 =>
   .exI fun i193 =>
   .exI fun i194 =>
   .exS fun a195 n195 c195 =>
   .exS fun a196 n196 c196 =>
   .exI fun i197 =>
   .exI fun i198 =>
   .exI fun i199 =>
   .exS fun a200 n200 c200 =>
   .exS fun a201 n201 c201 =>
   .exS fun a202 n202 c202 =>
   .exS fun a203 n203 c203 =>
   .exI fun i204 =>
   .exS fun a205 n205 c205 =>
   .isL v188 [.int .u64 i189, .int .i64 i190, .int .i64 i191, .int .i64 i192, .int .u64 i193, .int .u64 i194, .slice a195 n195 c195, .slice a196 n196 c196, .int .u64 i197, .int .i64 i198, .int .i64 i199, .slice a200 n200 c200, .slice a201 n201 c201, .slice a202 n202 c202, .slice a203 n203 c203, .int .u64 i204, .slice a205 n205 c205] <|
   .call 27 ([.agg #[.int .u64 i189, .int .i64 i190, .int .i64 i191, .int .i64 i192, .int .u64 i193, .int .u64 i194, .slice a195 n195 c195, .slice a196 n196 c196, .int .u64 i197, .int .i64 i198, .int .i64 i199, .slice a200 n200 c200, .slice a201 n201 c201, .slice a202 n202 c202, .slice a203 n203 c203, .int .u64 i204, .slice a205 n205 c205], .int .u64 (IntKind.u64.wrap (IntKind.u64.wrap (i185 + 1) + IntKind.u64.wrap i181))]) fun v206 =>
   .exI fun i207 =>
   .exB fun b208 =>
   .isL [v206] [.tuple #[.int .u64 i207, .bool b208]] <|
   bif !b208 then
    (.ret (.bool false))
   else
   (.load ⟨p2, 6, none⟩ 1 fun v209 =>
   .exS fun a210 n210 c210 =>
   .isL v209 [.slice a210 n210 c210] <|
   .some a210 fun x211 =>
   .need ((0 : Int) ≤ i181 ∧ i181 < (↑n210 : Int)) <|
   .load (x211.add (i181.toNat * 2)) 1 fun v212 =>
   .exI fun i213 =>
   .isL v212 [.int .u64 i213] <|
   bif (i207 != i213) then
    (.ret (.bool false))
   else
   (.again 0 [.int .i64 (IntKind.i64.wrap (i181 + 1))]))))
  else
  (.draw <|
  .load ⟨p131, 1, none⟩ 1 fun v214 =>
  .exS fun a215 n215 c215 =>
  .isL v214 [.slice a215 n215 c215] <|
  .some a215 fun x216 =>
  .need ((0 : Int) ≤ 0 ∧ 0 < (↑n215 : Int)) <|
  .load (x216.add 4) 1 fun v217 =>
  .exI fun i218 =>
  .isL v217 [.int .u64 i218] <|
  .load ⟨p2, 4, none⟩ 1 fun v219 =>
  .exI fun i220 =>
  .isL v219 [.int .u64 i220] <|
  .load ⟨p2, 6, none⟩ 1 fun v221 =>
  .exS fun a222 n222 c222 =>
  .isL v221 [.slice a222 n222 c222] <|
  bif (i218 == IntKind.u64.wrap (i220 + IntKind.u64.wrap (↑n222 : Int))) then
   (.load ⟨p130, 8, none⟩ 1 fun v223 =>
   .exI fun i224 =>
   .isL v223 [.int .u64 i224] <|
   .load ⟨p1, 8, none⟩ 1 fun v225 =>
   .exI fun i226 =>
   .isL v225 [.int .u64 i226] <|
   .ret (.bool (decide (i224 ≥ i226))))
  else
  (.ret (.bool false)))))))))))))))))))
theorem e15 (r0 : Int) (r1 : Int) (r2 : Int) (r3 : Int) (r4 : Int) (r5 : Int) (r6a : Option Addr) (r6n : Nat) (r6c : Nat) (r7a : Option Addr) (r7n : Nat) (r7c : Nat) (r8 : Int) (r9 : Int) (r10 : Int) (r11a : Option Addr) (r11n : Nat) (r11c : Nat) (r12a : Option Addr) (r12n : Nat) (r12c : Nat) (r13a : Option Addr) (r13n : Nat) (r13c : Nat) (r14a : Option Addr) (r14n : Nat) (r14c : Nat) (r15 : Int) (r16a : Option Addr) (r16n : Nat) (r16c : Nat) (m0 : Int) (m1 : Int) (m2 : Int) (m3 : Int) (m4 : Int) (m5 : Int) (m6a : Option Addr) (m6n : Nat) (m6c : Nat) (m7 : Int) (m8 : Int) (m9 : Bool) (m10 : Int) (m11 : Int) (m12a : Option Addr) (m12n : Nat) (m12c : Nat) (m13 : Int) (m14 : Int) (m15 : Int) (m16 : ByteArray) (m17 : ByteArray) (m18 : Int) (m19 : Int) (m20 : ByteArray) : genFn Try.prog lv15 noM Try.f15 [.agg #[.int .u64 r0, .int .i64 r1, .int .i64 r2, .int .i64 r3, .int .u64 r4, .int .u64 r5, .slice r6a r6n r6c, .slice r7a r7n r7c, .int .u64 r8, .int .i64 r9, .int .i64 r10, .slice r11a r11n r11c, .slice r12a r12n r12c, .slice r13a r13n r13c, .slice r14a r14n r14c, .int .u64 r15, .slice r16a r16n r16c], .agg #[.int .i64 m0, .int .i64 m1, .int .i64 m2, .int .u64 m3, .int .u64 m4, .int .u64 m5, .slice m6a m6n m6c, .int .u64 m7, .int .u64 m8, .bool m9, .int .u64 m10, .int .u64 m11, .slice m12a m12n m12c, .int .i64 m13, .int .i64 m14, .int .u64 m15, .string m16, .string m17, .int .u64 m18, .int .i64 m19, .string m20]] = t15 r0 r1 r2 r3 r4 r5 r6a r6n r6c r7a r7n r7c r8 r9 r10 r11a r11n r11c r12a r12n r12c r13a r13n r13c r14a r14n r14c r15 r16a r16n r16c m0 m1 m2 m3 m4 m5 m6a m6n m6c m7 m8 m9 m10 m11 m12a m12n m12c m13 m14 m15 m16 m17 m18 m19 m20 := by kernel_rfl
theorem r15 (r0 : Int) (r1 : Int) (r2 : Int) (r3 : Int) (r4 : Int) (r5 : Int) (r6a : Option Addr) (r6n : Nat) (r6c : Nat) (r7a : Option Addr) (r7n : Nat) (r7c : Nat) (r8 : Int) (r9 : Int) (r10 : Int) (r11a : Option Addr) (r11n : Nat) (r11c : Nat) (r12a : Option Addr) (r12n : Nat) (r12c : Nat) (r13a : Option Addr) (r13n : Nat) (r13c : Nat) (r14a : Option Addr) (r14n : Nat) (r14c : Nat) (r15 : Int) (r16a : Option Addr) (r16n : Nat) (r16c : Nat) (m0 : Int) (m1 : Int) (m2 : Int) (m3 : Int) (m4 : Int) (m5 : Int) (m6a : Option Addr) (m6n : Nat) (m6c : Nat) (m7 : Int) (m8 : Int) (m9 : Bool) (m10 : Int) (m11 : Int) (m12a : Option Addr) (m12n : Nat) (m12c : Nat) (m13 : Int) (m14 : Int) (m15 : Int) (m16 : ByteArray) (m17 : ByteArray) (m18 : Int) (m19 : Int) (m20 : ByteArray) {R : Value → World → Prop} {w : World} (h : (t15 r0 r1 r2 r3 r4 r5 r6a r6n r6c r7a r7n r7c r8 r9 r10 r11a r11n r11c r12a r12n r12c r13a r13n r13c r14a r14n r14c r15 r16a r16n r16c m0 m1 m2 m3 m4 m5 m6a m6n m6c m7 m8 m9 m10 m11 m12a m12n m12c m13 m14 m15 m16 m17 m18 m19 m20).wp Try.prog R (fun _ _ _ => False) w) : Runs Try.prog 15 [.agg #[.int .u64 r0, .int .i64 r1, .int .i64 r2, .int .i64 r3, .int .u64 r4, .int .u64 r5, .slice r6a r6n r6c, .slice r7a r7n r7c, .int .u64 r8, .int .i64 r9, .int .i64 r10, .slice r11a r11n r11c, .slice r12a r12n r12c, .slice r13a r13n r13c, .slice r14a r14n r14c, .int .u64 r15, .slice r16a r16n r16c], .agg #[.int .i64 m0, .int .i64 m1, .int .i64 m2, .int .u64 m3, .int .u64 m4, .int .u64 m5, .slice m6a m6n m6c, .int .u64 m7, .int .u64 m8, .bool m9, .int .u64 m10, .int .u64 m11, .slice m12a m12n m12c, .int .i64 m13, .int .i64 m14, .int .u64 m15, .string m16, .string m17, .int .u64 m18, .int .i64 m19, .string m20]] w R :=
 genFn_runs mixed lv15 noM Try.func15 (by kernel_rfl) (by rw [e15]; exact h)
end Go.Proofs.Ytnbfffmdplcajaa
