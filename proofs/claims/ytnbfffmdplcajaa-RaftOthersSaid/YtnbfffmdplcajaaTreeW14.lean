/- The trees of verification conditions of functions 14: printed by a program of mine, checked here. -/
import Derived.Test.YtnbfffmdplcajaaTree0
set_option linter.unusedVariables false
set_option maxRecDepth 100000
namespace Go.Proofs.Ytnbfffmdplcajaa
open Go.Vc
def t14 (r0 : Int) (r1 : Int) (r2 : Int) (r3 : Int) (r4 : Int) (r5 : Int) (r6a : Option Addr) (r6n : Nat) (r6c : Nat) (r7a : Option Addr) (r7n : Nat) (r7c : Nat) (r8 : Int) (r9 : Int) (r10 : Int) (r11a : Option Addr) (r11n : Nat) (r11c : Nat) (r12a : Option Addr) (r12n : Nat) (r12c : Nat) (r13a : Option Addr) (r13n : Nat) (r13c : Nat) (r14a : Option Addr) (r14n : Nat) (r14c : Nat) (r15 : Int) (r16a : Option Addr) (r16n : Nat) (r16c : Nat) (m0 : Int) (m1 : Int) (m2 : Int) (m3 : Int) (m4 : Int) (m5 : Int) (m6a : Option Addr) (m6n : Nat) (m6c : Nat) (m7 : Int) (m8 : Int) (m9 : Bool) (m10 : Int) (m11 : Int) (m12a : Option Addr) (m12n : Nat) (m12c : Nat) (m13 : Int) (m14 : Int) (m15 : Int) (m16 : ByteArray) (m17 : ByteArray) (m18 : Int) (m19 : Int) (m20 : ByteArray) : VC :=
 .new 36 [.int .u64 r0, .int .i64 r1, .int .i64 r2, .int .i64 r3, .int .u64 r4, .int .u64 r5, .slice r6a r6n r6c, .slice r7a r7n r7c, .int .u64 r8, .int .i64 r9, .int .i64 r10, .slice r11a r11n r11c, .slice r12a r12n r12c, .slice r13a r13n r13c, .slice r14a r14n r14c, .int .u64 r15, .slice r16a r16n r16c] fun p1 =>
 .new 70 [.int .i64 m0, .int .i64 m1, .int .i64 m2, .int .u64 m3, .int .u64 m4, .int .u64 m5, .slice m6a m6n m6c, .int .u64 m7, .int .u64 m8, .bool m9, .int .u64 m10, .int .u64 m11, .slice m12a m12n m12c, .int .i64 m13, .int .i64 m14, .int .u64 m15, .string m16, .string m17, .int .u64 m18, .int .i64 m19, .string m20] fun p2 =>
 .call 22 ([]) fun v3 =>
 .exB fun b4 =>
 .isL [v3] [.bool b4] <|
 bif !b4 then
  (.ret (.bool false))
 else
 (.load ⟨p1, 0, none⟩ 17 fun v5 =>
 .exI fun i6 =>
 .exI fun i7 =>
 .exI fun i8 =>
 .exI fun i9 =>
 .exI fun i10 =>
 .exI fun i11 =>
 .exS fun a12 n12 c12 =>
 .exS fun a13 n13 c13 =>
 .exI fun i14 =>
 .exI fun i15 =>
 .exI fun i16 =>
 .exS fun a17 n17 c17 =>
 .exS fun a18 n18 c18 =>
 .exS fun a19 n19 c19 =>
 .exS fun a20 n20 c20 =>
 .exI fun i21 =>
 .exS fun a22 n22 c22 =>
 .isL v5 [.int .u64 i6, .int .i64 i7, .int .i64 i8, .int .i64 i9, .int .u64 i10, .int .u64 i11, .slice a12 n12 c12, .slice a13 n13 c13, .int .u64 i14, .int .i64 i15, .int .i64 i16, .slice a17 n17 c17, .slice a18 n18 c18, .slice a19 n19 c19, .slice a20 n20 c20, .int .u64 i21, .slice a22 n22 c22] <|
 .call 30 ([.agg #[.int .u64 i6, .int .i64 i7, .int .i64 i8, .int .i64 i9, .int .u64 i10, .int .u64 i11, .slice a12 n12 c12, .slice a13 n13 c13, .int .u64 i14, .int .i64 i15, .int .i64 i16, .slice a17 n17 c17, .slice a18 n18 c18, .slice a19 n19 c19, .slice a20 n20 c20, .int .u64 i21, .slice a22 n22 c22]]) fun v23 =>
 .exB fun b24 =>
 .isL [v23] [.bool b24] <|
 bif !b24 then
  (.ret (.bool true))
 else
 (.load ⟨p2, 0, none⟩ 21 fun v25 =>
 .exI fun i26 =>
 .exI fun i27 =>
 .exI fun i28 =>
 .exI fun i29 =>
 .exI fun i30 =>
 .exI fun i31 =>
 .exS fun a32 n32 c32 =>
 .exI fun i33 =>
 .exI fun i34 =>
 .exB fun b35 =>
 .exI fun i36 =>
 .exI fun i37 =>
 .exS fun a38 n38 c38 =>
 .exI fun i39 =>
 .exI fun i40 =>
 .exI fun i41 =>
 .exT fun s42 =>
 .exT fun s43 =>
 .exI fun i44 =>
 .exI fun i45 =>
 .exT fun s46 =>
 .isL v25 [.int .i64 i26, .int .i64 i27, .int .i64 i28, .int .u64 i29, .int .u64 i30, .int .u64 i31, .slice a32 n32 c32, .int .u64 i33, .int .u64 i34, .bool b35, .int .u64 i36, .int .u64 i37, .slice a38 n38 c38, .int .i64 i39, .int .i64 i40, .int .u64 i41, .string s42, .string s43, .int .u64 i44, .int .i64 i45, .string s46] <|
 .call 35 ([.agg #[.int .i64 i26, .int .i64 i27, .int .i64 i28, .int .u64 i29, .int .u64 i30, .int .u64 i31, .slice a32 n32 c32, .int .u64 i33, .int .u64 i34, .bool b35, .int .u64 i36, .int .u64 i37, .slice a38 n38 c38, .int .i64 i39, .int .i64 i40, .int .u64 i41, .string s42, .string s43, .int .u64 i44, .int .i64 i45, .string s46]]) fun v47 =>
 .exB fun b48 =>
 .isL [v47] [.bool b48] <|
 bif !b48 then
  (.ret (.bool true))
 else
 (.load ⟨p2, 2, none⟩ 1 fun v49 =>
 .exI fun i50 =>
 .isL v49 [.int .i64 i50] <|
 .load ⟨p1, 2, none⟩ 1 fun v51 =>
 .exI fun i52 =>
 .isL v51 [.int .i64 i52] <|
 bif (i50 == i52) then
  (.load ⟨p2, 1, none⟩ 1 fun v53 =>
  .exI fun i54 =>
  .isL v53 [.int .i64 i54] <|
  bif (decide (i54 ≥ 1)) then
   (.load ⟨p2, 1, none⟩ 1 fun v55 =>
   .exI fun i56 =>
   .isL v55 [.int .i64 i56] <|
   .load ⟨p1, 3, none⟩ 1 fun v57 =>
   .exI fun i58 =>
   .isL v57 [.int .i64 i58] <|
   bif (decide (i56 ≤ i58)) then
    (.load ⟨p2, 1, none⟩ 1 fun v59 =>
    .exI fun i60 =>
    .isL v59 [.int .i64 i60] <|
    .load ⟨p1, 2, none⟩ 1 fun v61 =>
    .exI fun i62 =>
    .isL v61 [.int .i64 i62] <|
    bif (i60 != i62) then
     (.load ⟨p2, 0, none⟩ 1 fun v63 =>
     .exI fun i64 =>
     .isL v63 [.int .i64 i64] <|
     bif (decide (i64 ≥ 1)) then
      (.load ⟨p2, 0, none⟩ 1 fun v65 =>
      .exI fun i66 =>
      .isL v65 [.int .i64 i66] <|
      bif (decide (i66 ≤ 5)) then
       (.ret (.bool true))
      else
      (.load ⟨p1, 0, none⟩ 17 fun v67 =>
      .exI fun i68 =>
      .exI fun i69 =>
      .exI fun i70 =>
      .exI fun i71 =>
      .exI fun i72 =>
      .exI fun i73 =>
      .exS fun a74 n74 c74 =>
      .exS fun a75 n75 c75 =>
      .exI fun i76 =>
      .exI fun i77 =>
      .exI fun i78 =>
      .exS fun a79 n79 c79 =>
      .exS fun a80 n80 c80 =>
      .exS fun a81 n81 c81 =>
      .exS fun a82 n82 c82 =>
      .exI fun i83 =>
      .exS fun a84 n84 c84 =>
      .isL v67 [.int .u64 i68, .int .i64 i69, .int .i64 i70, .int .i64 i71, .int .u64 i72, .int .u64 i73, .slice a74 n74 c74, .slice a75 n75 c75, .int .u64 i76, .int .i64 i77, .int .i64 i78, .slice a79 n79 c79, .slice a80 n80 c80, .slice a81 n81 c81, .slice a82 n82 c82, .int .u64 i83, .slice a84 n84 c84] <|
      .load ⟨p2, 0, none⟩ 21 fun v85 =>
      .exI fun i86 =>
      .exI fun i87 =>
      .exI fun i88 =>
      .exI fun i89 =>
      .exI fun i90 =>
      .exI fun i91 =>
      .exS fun a92 n92 c92 =>
      .exI fun i93 =>
      .exI fun i94 =>
      .exB fun b95 =>
      .exI fun i96 =>
      .exI fun i97 =>
      .exS fun a98 n98 c98 =>
      .exI fun i99 =>
      .exI fun i100 =>
      .exI fun i101 =>
      .exT fun s102 =>
      .exT fun s103 =>
      .exI fun i104 =>
      .exI fun i105 =>
      .exT fun s106 =>
      .isL v85 [.int .i64 i86, .int .i64 i87, .int .i64 i88, .int .u64 i89, .int .u64 i90, .int .u64 i91, .slice a92 n92 c92, .int .u64 i93, .int .u64 i94, .bool b95, .int .u64 i96, .int .u64 i97, .slice a98 n98 c98, .int .i64 i99, .int .i64 i100, .int .u64 i101, .string s102, .string s103, .int .u64 i104, .int .i64 i105, .string s106] <|
      .call 38 ([.agg #[.int .u64 i68, .int .i64 i69, .int .i64 i70, .int .i64 i71, .int .u64 i72, .int .u64 i73, .slice a74 n74 c74, .slice a75 n75 c75, .int .u64 i76, .int .i64 i77, .int .i64 i78, .slice a79 n79 c79, .slice a80 n80 c80, .slice a81 n81 c81, .slice a82 n82 c82, .int .u64 i83, .slice a84 n84 c84], .agg #[.int .i64 i86, .int .i64 i87, .int .i64 i88, .int .u64 i89, .int .u64 i90, .int .u64 i91, .slice a92 n92 c92, .int .u64 i93, .int .u64 i94, .bool b95, .int .u64 i96, .int .u64 i97, .slice a98 n98 c98, .int .i64 i99, .int .i64 i100, .int .u64 i101, .string s102, .string s103, .int .u64 i104, .int .i64 i105, .string s106]]) fun v107 =>
      .exI fun i108 =>
      .exI fun i109 =>
      .exI fun i110 =>
      .exI fun i111 =>
      .exI fun i112 =>
      .exI fun i113 =>
      .exS fun a114 n114 c114 =>
      .exS fun a115 n115 c115 =>
      .exI fun i116 =>
      .exI fun i117 =>
      .exI fun i118 =>
      .exS fun a119 n119 c119 =>
      .exS fun a120 n120 c120 =>
      .exS fun a121 n121 c121 =>
      .exS fun a122 n122 c122 =>
      .exI fun i123 =>
      .exS fun a124 n124 c124 =>
      .exS fun a125 n125 c125 =>
      .exS fun a126 n126 c126 =>
      .exS fun a127 n127 c127 =>
      .isL [v107] [.tuple #[.agg #[.int .u64 i108, .int .i64 i109, .int .i64 i110, .int .i64 i111, .int .u64 i112, .int .u64 i113, .slice a114 n114 c114, .slice a115 n115 c115, .int .u64 i116, .int .i64 i117, .int .i64 i118, .slice a119 n119 c119, .slice a120 n120 c120, .slice a121 n121 c121, .slice a122 n122 c122, .int .u64 i123, .slice a124 n124 c124], .agg #[.slice a125 n125 c125, .slice a126 n126 c126, .slice a127 n127 c127]]] <|
      .new 36 [.int .u64 0, .int .i64 0, .int .i64 0, .int .i64 0, .int .u64 0, .int .u64 0, .slice none 0 0, .slice none 0 0, .int .u64 0, .int .i64 0, .int .i64 0, .slice none 0 0, .slice none 0 0, .slice none 0 0, .slice none 0 0, .int .u64 0, .slice none 0 0] fun p128 =>
      .new 48 [.slice none 0 0, .slice none 0 0, .slice none 0 0] fun p129 =>
      .store ⟨p128, 0, none⟩ [.int .u64 i108, .int .i64 i109, .int .i64 i110, .int .i64 i111, .int .u64 i112, .int .u64 i113, .slice a114 n114 c114, .slice a115 n115 c115, .int .u64 i116, .int .i64 i117, .int .i64 i118, .slice a119 n119 c119, .slice a120 n120 c120, .slice a121 n121 c121, .slice a122 n122 c122, .int .u64 i123, .slice a124 n124 c124] <|
      .store ⟨p129, 0, none⟩ [.slice a125 n125 c125, .slice a126 n126 c126, .slice a127 n127 c127] <|
      .load ⟨p128, 0, none⟩ 17 fun v130 =>
      .exI fun i131 =>
      .exI fun i132 =>
      .exI fun i133 =>
      .exI fun i134 =>
      .exI fun i135 =>
      .exI fun i136 =>
      .exS fun a137 n137 c137 =>
      .exS fun a138 n138 c138 =>
      .exI fun i139 =>
      .exI fun i140 =>
      .exI fun i141 =>
      .exS fun a142 n142 c142 =>
      .exS fun a143 n143 c143 =>
      .exS fun a144 n144 c144 =>
      .exS fun a145 n145 c145 =>
      .exI fun i146 =>
      .exS fun a147 n147 c147 =>
      .isL v130 [.int .u64 i131, .int .i64 i132, .int .i64 i133, .int .i64 i134, .int .u64 i135, .int .u64 i136, .slice a137 n137 c137, .slice a138 n138 c138, .int .u64 i139, .int .i64 i140, .int .i64 i141, .slice a142 n142 c142, .slice a143 n143 c143, .slice a144 n144 c144, .slice a145 n145 c145, .int .u64 i146, .slice a147 n147 c147] <|
      .load ⟨p1, 0, none⟩ 17 fun v148 =>
      .exI fun i149 =>
      .exI fun i150 =>
      .exI fun i151 =>
      .exI fun i152 =>
      .exI fun i153 =>
      .exI fun i154 =>
      .exS fun a155 n155 c155 =>
      .exS fun a156 n156 c156 =>
      .exI fun i157 =>
      .exI fun i158 =>
      .exI fun i159 =>
      .exS fun a160 n160 c160 =>
      .exS fun a161 n161 c161 =>
      .exS fun a162 n162 c162 =>
      .exS fun a163 n163 c163 =>
      .exI fun i164 =>
      .exS fun a165 n165 c165 =>
      .isL v148 [.int .u64 i149, .int .i64 i150, .int .i64 i151, .int .i64 i152, .int .u64 i153, .int .u64 i154, .slice a155 n155 c155, .slice a156 n156 c156, .int .u64 i157, .int .i64 i158, .int .i64 i159, .slice a160 n160 c160, .slice a161 n161 c161, .slice a162 n162 c162, .slice a163 n163 c163, .int .u64 i164, .slice a165 n165 c165] <|
      .call 29 ([.agg #[.int .u64 i131, .int .i64 i132, .int .i64 i133, .int .i64 i134, .int .u64 i135, .int .u64 i136, .slice a137 n137 c137, .slice a138 n138 c138, .int .u64 i139, .int .i64 i140, .int .i64 i141, .slice a142 n142 c142, .slice a143 n143 c143, .slice a144 n144 c144, .slice a145 n145 c145, .int .u64 i146, .slice a147 n147 c147], .agg #[.int .u64 i149, .int .i64 i150, .int .i64 i151, .int .i64 i152, .int .u64 i153, .int .u64 i154, .slice a155 n155 c155, .slice a156 n156 c156, .int .u64 i157, .int .i64 i158, .int .i64 i159, .slice a160 n160 c160, .slice a161 n161 c161, .slice a162 n162 c162, .slice a163 n163 c163, .int .u64 i164, .slice a165 n165 c165]]) fun v166 =>
      .exB fun b167 =>
      .isL [v166] [.bool b167] <|
      bif b167 then
       (.load ⟨p129, 0, none⟩ 1 fun v168 =>
       .exS fun a169 n169 c169 =>
       .isL v168 [.slice a169 n169 c169] <|
       .load ⟨p129, 1, none⟩ 1 fun v170 =>
       .exS fun a171 n171 c171 =>
       .isL v170 [.slice a171 n171 c171] <|
       .load ⟨p129, 2, none⟩ 1 fun v172 =>
       .exS fun a173 n173 c173 =>
       .isL v172 [.slice a173 n173 c173] <|
       .ret (.bool (IntKind.i64.wrap (IntKind.i64.wrap ((↑n169 : Int) + (↑n171 : Int)) + (↑n173 : Int)) == 0)))
      else
      (.ret (.bool false))))
     else
     (.load ⟨p1, 0, none⟩ 17 fun v174 =>
     .exI fun i175 =>
     .exI fun i176 =>
     .exI fun i177 =>
     .exI fun i178 =>
     .exI fun i179 =>
     .exI fun i180 =>
     .exS fun a181 n181 c181 =>
     .exS fun a182 n182 c182 =>
     .exI fun i183 =>
     .exI fun i184 =>
     .exI fun i185 =>
     .exS fun a186 n186 c186 =>
     .exS fun a187 n187 c187 =>
     .exS fun a188 n188 c188 =>
     .exS fun a189 n189 c189 =>
     .exI fun i190 =>
     .exS fun a191 n191 c191 =>
     .isL v174 [.int .u64 i175, .int .i64 i176, .int .i64 i177, .int .i64 i178, .int .u64 i179, .int .u64 i180, .slice a181 n181 c181, .slice a182 n182 c182, .int .u64 i183, .int .i64 i184, .int .i64 i185, .slice a186 n186 c186, .slice a187 n187 c187, .slice a188 n188 c188, .slice a189 n189 c189, .int .u64 i190, .slice a191 n191 c191] <|
     .load ⟨p2, 0, none⟩ 21 fun v192 =>
     .exI fun i193 =>
     .exI fun i194 =>
     .exI fun i195 =>
     .exI fun i196 =>
     .exI fun i197 =>
     .exI fun i198 =>
     .exS fun a199 n199 c199 =>
     .exI fun i200 =>
     .exI fun i201 =>
     .exB fun b202 =>
     .exI fun i203 =>
     .exI fun i204 =>
     .exS fun a205 n205 c205 =>
     .exI fun i206 =>
     .exI fun i207 =>
     .exI fun i208 =>
     .exT fun s209 =>
     .exT fun s210 =>
     .exI fun i211 =>
     .exI fun i212 =>
     .exT fun s213 =>
     .isL v192 [.int .i64 i193, .int .i64 i194, .int .i64 i195, .int .u64 i196, .int .u64 i197, .int .u64 i198, .slice a199 n199 c199, .int .u64 i200, .int .u64 i201, .bool b202, .int .u64 i203, .int .u64 i204, .slice a205 n205 c205, .int .i64 i206, .int .i64 i207, .int .u64 i208, .string s209, .string s210, .int .u64 i211, .int .i64 i212, .string s213] <|
     .call 38 ([.agg #[.int .u64 i175, .int .i64 i176, .int .i64 i177, .int .i64 i178, .int .u64 i179, .int .u64 i180, .slice a181 n181 c181, .slice a182 n182 c182, .int .u64 i183, .int .i64 i184, .int .i64 i185, .slice a186 n186 c186, .slice a187 n187 c187, .slice a188 n188 c188, .slice a189 n189 c189, .int .u64 i190, .slice a191 n191 c191], .agg #[.int .i64 i193, .int .i64 i194, .int .i64 i195, .int .u64 i196, .int .u64 i197, .int .u64 i198, .slice a199 n199 c199, .int .u64 i200, .int .u64 i201, .bool b202, .int .u64 i203, .int .u64 i204, .slice a205 n205 c205, .int .i64 i206, .int .i64 i207, .int .u64 i208, .string s209, .string s210, .int .u64 i211, .int .i64 i212, .string s213]]) fun v214 =>
     .exI fun i215 =>
     .exI fun i216 =>
     .exI fun i217 =>
     .exI fun i218 =>
     .exI fun i219 =>
     .exI fun i220 =>
     .exS fun a221 n221 c221 =>
     .exS fun a222 n222 c222 =>
     .exI fun i223 =>
     .exI fun i224 =>
     .exI fun i225 =>
     .exS fun a226 n226 c226 =>
     .exS fun a227 n227 c227 =>
     .exS fun a228 n228 c228 =>
     .exS fun a229 n229 c229 =>
     .exI fun i230 =>
     .exS fun a231 n231 c231 =>
     .exS fun a232 n232 c232 =>
     .exS fun a233 n233 c233 =>
     .exS fun a234 n234 c234 =>
     .isL [v214] [.tuple #[.agg #[.int .u64 i215, .int .i64 i216, .int .i64 i217, .int .i64 i218, .int .u64 i219, .int .u64 i220, .slice a221 n221 c221, .slice a222 n222 c222, .int .u64 i223, .int .i64 i224, .int .i64 i225, .slice a226 n226 c226, .slice a227 n227 c227, .slice a228 n228 c228, .slice a229 n229 c229, .int .u64 i230, .slice a231 n231 c231], .agg #[.slice a232 n232 c232, .slice a233 n233 c233, .slice a234 n234 c234]]] <|
     .new 36 [.int .u64 0, .int .i64 0, .int .i64 0, .int .i64 0, .int .u64 0, .int .u64 0, .slice none 0 0, .slice none 0 0, .int .u64 0, .int .i64 0, .int .i64 0, .slice none 0 0, .slice none 0 0, .slice none 0 0, .slice none 0 0, .int .u64 0, .slice none 0 0] fun p235 =>
     .new 48 [.slice none 0 0, .slice none 0 0, .slice none 0 0] fun p236 =>
     .store ⟨p235, 0, none⟩ [.int .u64 i215, .int .i64 i216, .int .i64 i217, .int .i64 i218, .int .u64 i219, .int .u64 i220, .slice a221 n221 c221, .slice a222 n222 c222, .int .u64 i223, .int .i64 i224, .int .i64 i225, .slice a226 n226 c226, .slice a227 n227 c227, .slice a228 n228 c228, .slice a229 n229 c229, .int .u64 i230, .slice a231 n231 c231] <|
     .store ⟨p236, 0, none⟩ [.slice a232 n232 c232, .slice a233 n233 c233, .slice a234 n234 c234] <|
     .load ⟨p235, 0, none⟩ 17 fun v237 =>
     .exI fun i238 =>
     .exI fun i239 =>
     .exI fun i240 =>
     .exI fun i241 =>
     .exI fun i242 =>
     .exI fun i243 =>
     .exS fun a244 n244 c244 =>
     .exS fun a245 n245 c245 =>
     .exI fun i246 =>
     .exI fun i247 =>
     .exI fun i248 =>
     .exS fun a249 n249 c249 =>
     .exS fun a250 n250 c250 =>
     .exS fun a251 n251 c251 =>
     .exS fun a252 n252 c252 =>
     .exI fun i253 =>
     .exS fun a254 n254 c254 =>
     .isL v237 [.int .u64 i238, .int .i64 i239, .int .i64 i240, .int .i64 i241, .int .u64 i242, .int .u64 i243, .slice a244 n244 c244, .slice a245 n245 c245, .int .u64 i246, .int .i64 i247, .int .i64 i248, .slice a249 n249 c249, .slice a250 n250 c250, .slice a251 n251 c251, .slice a252 n252 c252, .int .u64 i253, .slice a254 n254 c254] <|
     .load ⟨p1, 0, none⟩ 17 fun v255 =>
     .exI fun i256 =>
     .exI fun i257 =>
     .exI fun i258 =>
     .exI fun i259 =>
     .exI fun i260 =>
     .exI fun i261 =>
     .exS fun a262 n262 c262 =>
     .exS fun a263 n263 c263 =>
     .exI fun i264 =>
     .exI fun i265 =>
     .exI fun i266 =>
     .exS fun a267 n267 c267 =>
     .exS fun a268 n268 c268 =>
     .exS fun a269 n269 c269 =>
     .exS fun a270 n270 c270 =>
     .exI fun i271 =>
     .exS fun a272 n272 c272 =>
     .isL v255 [.int .u64 i256, .int .i64 i257, .int .i64 i258, .int .i64 i259, .int .u64 i260, .int .u64 i261, .slice a262 n262 c262, .slice a263 n263 c263, .int .u64 i264, .int .i64 i265, .int .i64 i266, .slice a267 n267 c267, .slice a268 n268 c268, .slice a269 n269 c269, .slice a270 n270 c270, .int .u64 i271, .slice a272 n272 c272] <|
     .call 29 ([.agg #[.int .u64 i238, .int .i64 i239, .int .i64 i240, .int .i64 i241, .int .u64 i242, .int .u64 i243, .slice a244 n244 c244, .slice a245 n245 c245, .int .u64 i246, .int .i64 i247, .int .i64 i248, .slice a249 n249 c249, .slice a250 n250 c250, .slice a251 n251 c251, .slice a252 n252 c252, .int .u64 i253, .slice a254 n254 c254], .agg #[.int .u64 i256, .int .i64 i257, .int .i64 i258, .int .i64 i259, .int .u64 i260, .int .u64 i261, .slice a262 n262 c262, .slice a263 n263 c263, .int .u64 i264, .int .i64 i265, .int .i64 i266, .slice a267 n267 c267, .slice a268 n268 c268, .slice a269 n269 c269, .slice a270 n270 c270, .int .u64 i271, .slice a272 n272 c272]]) fun v273 =>
     .exB fun b274 =>
     .isL [v273] [.bool b274] <|
     bif b274 then
      (.load ⟨p236, 0, none⟩ 1 fun v275 =>
      .exS fun a276 n276 c276 =>
      .isL v275 [.slice a276 n276 c276] <|
      .load ⟨p236, 1, none⟩ 1 fun v277 =>
      .exS fun a278 n278 c278 =>
      .isL v277 [.slice a278 n278 c278] <|
      .load ⟨p236, 2, none⟩ 1 fun v279 =>
      .exS fun a280 n280 c280 =>
      .isL v279 [.slice a280 n280 c280] <|
      .ret (.bool (IntKind.i64.wrap (IntKind.i64.wrap ((↑n276 : Int) + (↑n278 : Int)) + (↑n280 : Int)) == 0)))
     else
     (.ret (.bool false))))
    else
    (.load ⟨p1, 0, none⟩ 17 fun v281 =>
    .exI fun i282 =>
    .exI fun i283 =>
    .exI fun i284 =>
    .exI fun i285 =>
    .exI fun i286 =>
    .exI fun i287 =>
    .exS fun a288 n288 c288 =>
    .exS fun a289 n289 c289 =>
    .exI fun i290 =>
    .exI fun i291 =>
    .exI fun i292 =>
    .exS fun a293 n293 c293 =>
    .exS fun a294 n294 c294 =>
    .exS fun a295 n295 c295 =>
    .exS fun a296 n296 c296 =>
    .exI fun i297 =>
    .exS fun a298 n298 c298 =>
    .isL v281 [.int .u64 i282, .int .i64 i283, .int .i64 i284, .int .i64 i285, .int .u64 i286, .int .u64 i287, .slice a288 n288 c288, .slice a289 n289 c289, .int .u64 i290, .int .i64 i291, .int .i64 i292, .slice a293 n293 c293, .slice a294 n294 c294, .slice a295 n295 c295, .slice a296 n296 c296, .int .u64 i297, .slice a298 n298 c298] <|
    .load ⟨p2, 0, none⟩ 21 fun v299 =>
    .exI fun i300 =>
    .exI fun i301 =>
    .exI fun i302 =>
    .exI fun i303 =>
    .exI fun i304 =>
    .exI fun i305 =>
    .exS fun a306 n306 c306 =>
    .exI fun i307 =>
    .exI fun i308 =>
    .exB fun b309 =>
    .exI fun i310 =>
    .exI fun i311 =>
    .exS fun a312 n312 c312 =>
    .exI fun i313 =>
    .exI fun i314 =>
    .exI fun i315 =>
    .exT fun s316 =>
    .exT fun s317 =>
    .exI fun i318 =>
    .exI fun i319 =>
    .exT fun s320 =>
    .isL v299 [.int .i64 i300, .int .i64 i301, .int .i64 i302, .int .u64 i303, .int .u64 i304, .int .u64 i305, .slice a306 n306 c306, .int .u64 i307, .int .u64 i308, .bool b309, .int .u64 i310, .int .u64 i311, .slice a312 n312 c312, .int .i64 i313, .int .i64 i314, .int .u64 i315, .string s316, .string s317, .int .u64 i318, .int .i64 i319, .string s320] <|
    .call 38 ([.agg #[.int .u64 i282, .int .i64 i283, .int .i64 i284, .int .i64 i285, .int .u64 i286, .int .u64 i287, .slice a288 n288 c288, .slice a289 n289 c289, .int .u64 i290, .int .i64 i291, .int .i64 i292, .slice a293 n293 c293, .slice a294 n294 c294, .slice a295 n295 c295, .slice a296 n296 c296, .int .u64 i297, .slice a298 n298 c298], .agg #[.int .i64 i300, .int .i64 i301, .int .i64 i302, .int .u64 i303, .int .u64 i304, .int .u64 i305, .slice a306 n306 c306, .int .u64 i307, .int .u64 i308, .bool b309, .int .u64 i310, .int .u64 i311, .slice a312 n312 c312, .int .i64 i313, .int .i64 i314, .int .u64 i315, .string s316, .string s317, .int .u64 i318, .int .i64 i319, .string s320]]) fun v321 =>
    .exI fun i322 =>
    .exI fun i323 =>
    .exI fun i324 =>
    .exI fun i325 =>
    .exI fun i326 =>
    .exI fun i327 =>
    .exS fun a328 n328 c328 =>
    .exS fun a329 n329 c329 =>
    .exI fun i330 =>
    .exI fun i331 =>
    .exI fun i332 =>
    .exS fun a333 n333 c333 =>
    .exS fun a334 n334 c334 =>
    .exS fun a335 n335 c335 =>
    .exS fun a336 n336 c336 =>
    .exI fun i337 =>
    .exS fun a338 n338 c338 =>
    .exS fun a339 n339 c339 =>
    .exS fun a340 n340 c340 =>
    .exS fun a341 n341 c341 =>
    .isL [v321] [.tuple #[.agg #[.int .u64 i322, .int .i64 i323, .int .i64 i324, .int .i64 i325, .int .u64 i326, .int .u64 i327, .slice a328 n328 c328, .slice a329 n329 c329, .int .u64 i330, .int .i64 i331, .int .i64 i332, .slice a333 n333 c333, .slice a334 n334 c334, .slice a335 n335 c335, .slice a336 n336 c336, .int .u64 i337, .slice a338 n338 c338], .agg #[.slice a339 n339 c339, .slice a340 n340 c340, .slice a341 n341 c341]]] <|
    .new 36 [.int .u64 0, .int .i64 0, .int .i64 0, .int .i64 0, .int .u64 0, .int .u64 0, .slice none 0 0, .slice none 0 0, .int .u64 0, .int .i64 0, .int .i64 0, .slice none 0 0, .slice none 0 0, .slice none 0 0, .slice none 0 0, .int .u64 0, .slice none 0 0] fun p342 =>
    .new 48 [.slice none 0 0, .slice none 0 0, .slice none 0 0] fun p343 =>
    .store ⟨p342, 0, none⟩ [.int .u64 i322, .int .i64 i323, .int .i64 i324, .int .i64 i325, .int .u64 i326, .int .u64 i327, .slice a328 n328 c328, .slice a329 n329 c329, .int .u64 i330, .int .i64 i331, .int .i64 i332, .slice a333 n333 c333, .slice a334 n334 c334, .slice a335 n335 c335, .slice a336 n336 c336, .int .u64 i337, .slice a338 n338 c338] <|
    .store ⟨p343, 0, none⟩ [.slice a339 n339 c339, .slice a340 n340 c340, .slice a341 n341 c341] <|
    .load ⟨p342, 0, none⟩ 17 fun v344 =>
    .exI fun i345 =>
    .exI fun i346 =>
    .exI fun i347 =>
    .exI fun i348 =>
    .exI fun i349 =>
    .exI fun i350 =>
    .exS fun a351 n351 c351 =>
    .exS fun a352 n352 c352 =>
    .exI fun i353 =>
    .exI fun i354 =>
    .exI fun i355 =>
    .exS fun a356 n356 c356 =>
    .exS fun a357 n357 c357 =>
    .exS fun a358 n358 c358 =>
    .exS fun a359 n359 c359 =>
    .exI fun i360 =>
    .exS fun a361 n361 c361 =>
    .isL v344 [.int .u64 i345, .int .i64 i346, .int .i64 i347, .int .i64 i348, .int .u64 i349, .int .u64 i350, .slice a351 n351 c351, .slice a352 n352 c352, .int .u64 i353, .int .i64 i354, .int .i64 i355, .slice a356 n356 c356, .slice a357 n357 c357, .slice a358 n358 c358, .slice a359 n359 c359, .int .u64 i360, .slice a361 n361 c361] <|
    .load ⟨p1, 0, none⟩ 17 fun v362 =>
    .exI fun i363 =>
    .exI fun i364 =>
    .exI fun i365 =>
    .exI fun i366 =>
    .exI fun i367 =>
    .exI fun i368 =>
    .exS fun a369 n369 c369 =>
    .exS fun a370 n370 c370 =>
    .exI fun i371 =>
    .exI fun i372 =>
    .exI fun i373 =>
    .exS fun a374 n374 c374 =>
    .exS fun a375 n375 c375 =>
    .exS fun a376 n376 c376 =>
    .exS fun a377 n377 c377 =>
    .exI fun i378 =>
    .exS fun a379 n379 c379 =>
    .isL v362 [.int .u64 i363, .int .i64 i364, .int .i64 i365, .int .i64 i366, .int .u64 i367, .int .u64 i368, .slice a369 n369 c369, .slice a370 n370 c370, .int .u64 i371, .int .i64 i372, .int .i64 i373, .slice a374 n374 c374, .slice a375 n375 c375, .slice a376 n376 c376, .slice a377 n377 c377, .int .u64 i378, .slice a379 n379 c379] <|
    .call 29 ([.agg #[.int .u64 i345, .int .i64 i346, .int .i64 i347, .int .i64 i348, .int .u64 i349, .int .u64 i350, .slice a351 n351 c351, .slice a352 n352 c352, .int .u64 i353, .int .i64 i354, .int .i64 i355, .slice a356 n356 c356, .slice a357 n357 c357, .slice a358 n358 c358, .slice a359 n359 c359, .int .u64 i360, .slice a361 n361 c361], .agg #[.int .u64 i363, .int .i64 i364, .int .i64 i365, .int .i64 i366, .int .u64 i367, .int .u64 i368, .slice a369 n369 c369, .slice a370 n370 c370, .int .u64 i371, .int .i64 i372, .int .i64 i373, .slice a374 n374 c374, .slice a375 n375 c375, .slice a376 n376 c376, .slice a377 n377 c377, .int .u64 i378, .slice a379 n379 c379]]) fun v380 =>
    .exB fun b381 =>
    .isL [v380] [.bool b381] <|
    bif b381 then
     (.load ⟨p343, 0, none⟩ 1 fun v382 =>
     .exS fun a383 n383 c383 =>
     .isL v382 [.slice a383 n383 c383] <|
     .load ⟨p343, 1, none⟩ 1 fun v384 =>
     .exS fun a385 n385 c385 =>
     .isL v384 [.slice a385 n385 c385] <|
     .load ⟨p343, 2, none⟩ 1 fun v386 =>
     .exS fun a387 n387 c387 =>
     .isL v386 [.slice a387 n387 c387] <|
     .ret (.bool (IntKind.i64.wrap (IntKind.i64.wrap ((↑n383 : Int) + (↑n385 : Int)) + (↑n387 : Int)) == 0)))
    else
    (.ret (.bool false))))
   else
   (.load ⟨p1, 0, none⟩ 17 fun v388 =>
   .exI fun i389 =>
   .exI fun i390 =>
   .exI fun i391 =>
   .exI fun i392 =>
   .exI fun i393 =>
   .exI fun i394 =>
   .exS fun a395 n395 c395 =>
   .exS fun a396 n396 c396 =>
   .exI fun i397 =>
   .exI fun i398 =>
   .exI fun i399 =>
   .exS fun a400 n400 c400 =>
   .exS fun a401 n401 c401 =>
   .exS fun a402 n402 c402 =>
   .exS fun a403 n403 c403 =>
   .exI fun i404 =>
   .exS fun a405 n405 c405 =>
   .isL v388 [.int .u64 i389, .int .i64 i390, .int .i64 i391, .int .i64 i392, .int .u64 i393, .int .u64 i394, .slice a395 n395 c395, .slice a396 n396 c396, .int .u64 i397, .int .i64 i398, .int .i64 i399, .slice a400 n400 c400, .slice a401 n401 c401, .slice a402 n402 c402, .slice a403 n403 c403, .int .u64 i404, .slice a405 n405 c405] <|
   .load ⟨p2, 0, none⟩ 21 fun v406 =>
   .exI fun i407 =>
   .exI fun i408 =>
   .exI fun i409 =>
   .exI fun i410 =>
   .exI fun i411 =>
   .exI fun i412 =>
   .exS fun a413 n413 c413 =>
   .exI fun i414 =>
   .exI fun i415 =>
   .exB fun b416 =>
   .exI fun i417 =>
   .exI fun i418 =>
   .exS fun a419 n419 c419 =>
   .exI fun i420 =>
   .exI fun i421 =>
   .exI fun i422 =>
   .exT fun s423 =>
   .exT fun s424 =>
   .exI fun i425 =>
   .exI fun i426 =>
   .exT fun s427 =>
   .isL v406 [.int .i64 i407, .int .i64 i408, .int .i64 i409, .int .u64 i410, .int .u64 i411, .int .u64 i412, .slice a413 n413 c413, .int .u64 i414, .int .u64 i415, .bool b416, .int .u64 i417, .int .u64 i418, .slice a419 n419 c419, .int .i64 i420, .int .i64 i421, .int .u64 i422, .string s423, .string s424, .int .u64 i425, .int .i64 i426, .string s427] <|
   .call 38 ([.agg #[.int .u64 i389, .int .i64 i390, .int .i64 i391, .int .i64 i392, .int .u64 i393, .int .u64 i394, .slice a395 n395 c395, .slice a396 n396 c396, .int .u64 i397, .int .i64 i398, .int .i64 i399, .slice a400 n400 c400, .slice a401 n401 c401, .slice a402 n402 c402, .slice a403 n403 c403, .int .u64 i404, .slice a405 n405 c405], .agg #[.int .i64 i407, .int .i64 i408, .int .i64 i409, .int .u64 i410, .int .u64 i411, .int .u64 i412, .slice a413 n413 c413, .int .u64 i414, .int .u64 i415, .bool b416, .int .u64 i417, .int .u64 i418, .slice a419 n419 c419, .int .i64 i420, .int .i64 i421, .int .u64 i422, .string s423, .string s424, .int .u64 i425, .int .i64 i426, .string s427]]) fun v428 =>
   .exI fun i429 =>
   .exI fun i430 =>
   .exI fun i431 =>
   .exI fun i432 =>
   .exI fun i433 =>
   .exI fun i434 =>
   .exS fun a435 n435 c435 =>
   .exS fun a436 n436 c436 =>
   .exI fun i437 =>
   .exI fun i438 =>
   .exI fun i439 =>
   .exS fun a440 n440 c440 =>
   .exS fun a441 n441 c441 =>
   .exS fun a442 n442 c442 =>
   .exS fun a443 n443 c443 =>
   .exI fun i444 =>
   .exS fun a445 n445 c445 =>
   .exS fun a446 n446 c446 =>
   .exS fun a447 n447 c447 =>
   .exS fun a448 n448 c448 =>
   .isL [v428] [.tuple #[.agg #[.int .u64 i429, .int .i64 i430, .int .i64 i431, .int .i64 i432, .int .u64 i433, .int .u64 i434, .slice a435 n435 c435, .slice a436 n436 c436, .int .u64 i437, .int .i64 i438, .int .i64 i439, .slice a440 n440 c440, .slice a441 n441 c441, .slice a442 n442 c442, .slice a443 n443 c443, .int .u64 i444, .slice a445 n445 c445], .agg #[.slice a446 n446 c446, .slice a447 n447 c447, .slice a448 n448 c448]]] <|
   .new 36 [.int .u64 0, .int .i64 0, .int .i64 0, .int .i64 0, .int .u64 0, .int .u64 0, .slice none 0 0, .slice none 0 0, .int .u64 0, .int .i64 0, .int .i64 0, .slice none 0 0, .slice none 0 0, .slice none 0 0, .slice none 0 0, .int .u64 0, .slice none 0 0] fun p449 =>
   .new 48 [.slice none 0 0, .slice none 0 0, .slice none 0 0] fun p450 =>
   .store ⟨p449, 0, none⟩ [.int .u64 i429, .int .i64 i430, .int .i64 i431, .int .i64 i432, .int .u64 i433, .int .u64 i434, .slice a435 n435 c435, .slice a436 n436 c436, .int .u64 i437, .int .i64 i438, .int .i64 i439, .slice a440 n440 c440, .slice a441 n441 c441, .slice a442 n442 c442, .slice a443 n443 c443, .int .u64 i444, .slice a445 n445 c445] <|
   .store ⟨p450, 0, none⟩ [.slice a446 n446 c446, .slice a447 n447 c447, .slice a448 n448 c448] <|
   .load ⟨p449, 0, none⟩ 17 fun v451 =>
   .exI fun i452 =>
   .exI fun i453 =>
   .exI fun i454 =>
   .exI fun i455 =>
   .exI fun i456 =>
   .exI fun i457 =>
   .exS fun a458 n458 c458 =>
   .exS fun a459 n459 c459 =>
   .exI fun i460 =>
   .exI fun i461 =>
   .exI fun i462 =>
   .exS fun a463 n463 c463 =>
   .exS fun a464 n464 c464 =>
   .exS fun a465 n465 c465 =>
   .exS fun a466 n466 c466 =>
   .exI fun i467 =>
   .exS fun a468 n468 c468 =>
   .isL v451 [.int .u64 i452, .int .i64 i453, .int .i64 i454, .int .i64 i455, .int .u64 i456, .int .u64 i457, .slice a458 n458 c458, .slice a459 n459 c459, .int .u64 i460, .int .i64 i461, .int .i64 i462, .slice a463 n463 c463, .slice a464 n464 c464, .slice a465 n465 c465, .slice a466 n466 c466, .int .u64 i467, .slice a468 n468 c468] <|
   .load ⟨p1, 0, none⟩ 17 fun v469 =>
   .exI fun i470 =>
   .exI fun i471 =>
   .exI fun i472 =>
   .exI fun i473 =>
   .exI fun i474 =>
   .exI fun i475 =>
   .exS fun a476 n476 c476 =>
   .exS fun a477 n477 c477 =>
   .exI fun i478 =>
   .exI fun i479 =>
   .exI fun i480 =>
   .exS fun a481 n481 c481 =>
   .exS fun a482 n482 c482 =>
   .exS fun a483 n483 c483 =>
   .exS fun a484 n484 c484 =>
   .exI fun i485 =>
   .exS fun a486 n486 c486 =>
   .isL v469 [.int .u64 i470, .int .i64 i471, .int .i64 i472, .int .i64 i473, .int .u64 i474, .int .u64 i475, .slice a476 n476 c476, .slice a477 n477 c477, .int .u64 i478, .int .i64 i479, .int .i64 i480, .slice a481 n481 c481, .slice a482 n482 c482, .slice a483 n483 c483, .slice a484 n484 c484, .int .u64 i485, .slice a486 n486 c486] <|
   .call 29 ([.agg #[.int .u64 i452, .int .i64 i453, .int .i64 i454, .int .i64 i455, .int .u64 i456, .int .u64 i457, .slice a458 n458 c458, .slice a459 n459 c459, .int .u64 i460, .int .i64 i461, .int .i64 i462, .slice a463 n463 c463, .slice a464 n464 c464, .slice a465 n465 c465, .slice a466 n466 c466, .int .u64 i467, .slice a468 n468 c468], .agg #[.int .u64 i470, .int .i64 i471, .int .i64 i472, .int .i64 i473, .int .u64 i474, .int .u64 i475, .slice a476 n476 c476, .slice a477 n477 c477, .int .u64 i478, .int .i64 i479, .int .i64 i480, .slice a481 n481 c481, .slice a482 n482 c482, .slice a483 n483 c483, .slice a484 n484 c484, .int .u64 i485, .slice a486 n486 c486]]) fun v487 =>
   .exB fun b488 =>
   .isL [v487] [.bool b488] <|
   bif b488 then
    (.load ⟨p450, 0, none⟩ 1 fun v489 =>
    .exS fun a490 n490 c490 =>
    .isL v489 [.slice a490 n490 c490] <|
    .load ⟨p450, 1, none⟩ 1 fun v491 =>
    .exS fun a492 n492 c492 =>
    .isL v491 [.slice a492 n492 c492] <|
    .load ⟨p450, 2, none⟩ 1 fun v493 =>
    .exS fun a494 n494 c494 =>
    .isL v493 [.slice a494 n494 c494] <|
    .ret (.bool (IntKind.i64.wrap (IntKind.i64.wrap ((↑n490 : Int) + (↑n492 : Int)) + (↑n494 : Int)) == 0)))
   else
   (.ret (.bool false))))
  else
  (.load ⟨p1, 0, none⟩ 17 fun v495 =>
  .exI fun i496 =>
  .exI fun i497 =>
  .exI fun i498 =>
  .exI fun i499 =>
  .exI fun i500 =>
  .exI fun i501 =>
  .exS fun a502 n502 c502 =>
  .exS fun a503 n503 c503 =>
  .exI fun i504 =>
  .exI fun i505 =>
  .exI fun i506 =>
  .exS fun a507 n507 c507 =>
  .exS fun a508 n508 c508 =>
  .exS fun a509 n509 c509 =>
  .exS fun a510 n510 c510 =>
  .exI fun i511 =>
  .exS fun a512 n512 c512 =>
  .isL v495 [.int .u64 i496, .int .i64 i497, .int .i64 i498, .int .i64 i499, .int .u64 i500, .int .u64 i501, .slice a502 n502 c502, .slice a503 n503 c503, .int .u64 i504, .int .i64 i505, .int .i64 i506, .slice a507 n507 c507, .slice a508 n508 c508, .slice a509 n509 c509, .slice a510 n510 c510, .int .u64 i511, .slice a512 n512 c512] <|
  .load ⟨p2, 0, none⟩ 21 fun v513 =>
  .exI fun i514 =>
  .exI fun i515 =>
  .exI fun i516 =>
  .exI fun i517 =>
  .exI fun i518 =>
  .exI fun i519 =>
  .exS fun a520 n520 c520 =>
  .exI fun i521 =>
  .exI fun i522 =>
  .exB fun b523 =>
  .exI fun i524 =>
  .exI fun i525 =>
  .exS fun a526 n526 c526 =>
  .exI fun i527 =>
  .exI fun i528 =>
  .exI fun i529 =>
  .exT fun s530 =>
  .exT fun s531 =>
  .exI fun i532 =>
  .exI fun i533 =>
  .exT fun s534 =>
  .isL v513 [.int .i64 i514, .int .i64 i515, .int .i64 i516, .int .u64 i517, .int .u64 i518, .int .u64 i519, .slice a520 n520 c520, .int .u64 i521, .int .u64 i522, .bool b523, .int .u64 i524, .int .u64 i525, .slice a526 n526 c526, .int .i64 i527, .int .i64 i528, .int .u64 i529, .string s530, .string s531, .int .u64 i532, .int .i64 i533, .string s534] <|
  .call 38 ([.agg #[.int .u64 i496, .int .i64 i497, .int .i64 i498, .int .i64 i499, .int .u64 i500, .int .u64 i501, .slice a502 n502 c502, .slice a503 n503 c503, .int .u64 i504, .int .i64 i505, .int .i64 i506, .slice a507 n507 c507, .slice a508 n508 c508, .slice a509 n509 c509, .slice a510 n510 c510, .int .u64 i511, .slice a512 n512 c512], .agg #[.int .i64 i514, .int .i64 i515, .int .i64 i516, .int .u64 i517, .int .u64 i518, .int .u64 i519, .slice a520 n520 c520, .int .u64 i521, .int .u64 i522, .bool b523, .int .u64 i524, .int .u64 i525, .slice a526 n526 c526, .int .i64 i527, .int .i64 i528, .int .u64 i529, .string s530, .string s531, .int .u64 i532, .int .i64 i533, .string s534]]) fun v535 =>
  .exI fun i536 =>
  .exI fun i537 =>
  .exI fun i538 =>
  .exI fun i539 =>
  .exI fun i540 =>
  .exI fun i541 =>
  .exS fun a542 n542 c542 =>
  .exS fun a543 n543 c543 =>
  .exI fun i544 =>
  .exI fun i545 =>
  .exI fun i546 =>
  .exS fun a547 n547 c547 =>
  .exS fun a548 n548 c548 =>
  .exS fun a549 n549 c549 =>
  .exS fun a550 n550 c550 =>
  .exI fun i551 =>
  .exS fun a552 n552 c552 =>
  .exS fun a553 n553 c553 =>
  .exS fun a554 n554 c554 =>
  .exS fun a555 n555 c555 =>
  .isL [v535] [.tuple #[.agg #[.int .u64 i536, .int .i64 i537, .int .i64 i538, .int .i64 i539, .int .u64 i540, .int .u64 i541, .slice a542 n542 c542, .slice a543 n543 c543, .int .u64 i544, .int .i64 i545, .int .i64 i546, .slice a547 n547 c547, .slice a548 n548 c548, .slice a549 n549 c549, .slice a550 n550 c550, .int .u64 i551, .slice a552 n552 c552], .agg #[.slice a553 n553 c553, .slice a554 n554 c554, .slice a555 n555 c555]]] <|
  .new 36 [.int .u64 0, .int .i64 0, .int .i64 0, .int .i64 0, .int .u64 0, .int .u64 0, .slice none 0 0, .slice none 0 0, .int .u64 0, .int .i64 0, .int .i64 0, .slice none 0 0, .slice none 0 0, .slice none 0 0, .slice none 0 0, .int .u64 0, .slice none 0 0] fun p556 =>
  .new 48 [.slice none 0 0, .slice none 0 0, .slice none 0 0] fun p557 =>
  .store ⟨p556, 0, none⟩ [.int .u64 i536, .int .i64 i537, .int .i64 i538, .int .i64 i539, .int .u64 i540, .int .u64 i541, .slice a542 n542 c542, .slice a543 n543 c543, .int .u64 i544, .int .i64 i545, .int .i64 i546, .slice a547 n547 c547, .slice a548 n548 c548, .slice a549 n549 c549, .slice a550 n550 c550, .int .u64 i551, .slice a552 n552 c552] <|
  .store ⟨p557, 0, none⟩ [.slice a553 n553 c553, .slice a554 n554 c554, .slice a555 n555 c555] <|
  .load ⟨p556, 0, none⟩ 17 fun v558 =>
  .exI fun i559 =>
  .exI fun i560 =>
  .exI fun i561 =>
  .exI fun i562 =>
  .exI fun i563 =>
  .exI fun i564 =>
  .exS fun a565 n565 c565 =>
  .exS fun a566 n566 c566 =>
  .exI fun i567 =>
  .exI fun i568 =>
  .exI fun i569 =>
  .exS fun a570 n570 c570 =>
  .exS fun a571 n571 c571 =>
  .exS fun a572 n572 c572 =>
  .exS fun a573 n573 c573 =>
  .exI fun i574 =>
  .exS fun a575 n575 c575 =>
  .isL v558 [.int .u64 i559, .int .i64 i560, .int .i64 i561, .int .i64 i562, .int .u64 i563, .int .u64 i564, .slice a565 n565 c565, .slice a566 n566 c566, .int .u64 i567, .int .i64 i568, .int .i64 i569, .slice a570 n570 c570, .slice a571 n571 c571, .slice a572 n572 c572, .slice a573 n573 c573, .int .u64 i574, .slice a575 n575 c575] <|
  .load ⟨p1, 0, none⟩ 17 fun v576 =>
  .exI fun i577 =>
  .exI fun i578 =>
  .exI fun i579 =>
  .exI fun i580 =>
  .exI fun i581 =>
  .exI fun i582 =>
  .exS fun a583 n583 c583 =>
  .exS fun a584 n584 c584 =>
  .exI fun i585 =>
  .exI fun i586 =>
  .exI fun i587 =>
  .exS fun a588 n588 c588 =>
  .exS fun a589 n589 c589 =>
  .exS fun a590 n590 c590 =>
  .exS fun a591 n591 c591 =>
  .exI fun i592 =>
  .exS fun a593 n593 c593 =>
  .isL v576 [.int .u64 i577, .int .i64 i578, .int .i64 i579, .int .i64 i580, .int .u64 i581, .int .u64 i582, .slice a583 n583 c583, .slice a584 n584 c584, .int .u64 i585, .int .i64 i586, .int .i64 i587, .slice a588 n588 c588, .slice a589 n589 c589, .slice a590 n590 c590, .slice a591 n591 c591, .int .u64 i592, .slice a593 n593 c593] <|
  .call 29 ([.agg #[.int .u64 i559, .int .i64 i560, .int .i64 i561, .int .i64 i562, .int .u64 i563, .int .u64 i564, .slice a565 n565 c565, .slice a566 n566 c566, .int .u64 i567, .int .i64 i568, .int .i64 i569, .slice a570 n570 c570, .slice a571 n571 c571, .slice a572 n572 c572, .slice a573 n573 c573, .int .u64 i574, .slice a575 n575 c575], .agg #[.int .u64 i577, .int .i64 i578, .int .i64 i579, .int .i64 i580, .int .u64 i581, .int .u64 i582, .slice a583 n583 c583, .slice a584 n584 c584, .int .u64 i585, .int .i64 i586, .int .i64 i587, .slice a588 n588 c588, .slice a589 n589 c589, .slice a590 n590 c590, .slice a591 n591 c591, .int .u64 i592, .slice a593 n593 c593]]) fun v594 =>
  .exB fun b595 =>
  .isL [v594] [.bool b595] <|
  bif b595 then
   (.load ⟨p557, 0, none⟩ 1 fun v596 =>
   .exS fun a597 n597 c597 =>
   .isL v596 [.slice a597 n597 c597] <|
   .load ⟨p557, 1, none⟩ 1 fun v598 =>
   .exS fun a599 n599 c599 =>
   .isL v598 [.slice a599 n599 c599] <|
   .load ⟨p557, 2, none⟩ 1 fun v600 =>
   .exS fun a601 n601 c601 =>
   .isL v600 [.slice a601 n601 c601] <|
   .ret (.bool (IntKind.i64.wrap (IntKind.i64.wrap ((↑n597 : Int) + (↑n599 : Int)) + (↑n601 : Int)) == 0)))
  else
  (.ret (.bool false))))
 else
 (.load ⟨p1, 0, none⟩ 17 fun v602 =>
 .exI fun i603 =>
 .exI fun i604 =>
 .exI fun i605 =>
 .exI fun i606 =>
 .exI fun i607 =>
 .exI fun i608 =>
 .exS fun a609 n609 c609 =>
 .exS fun a610 n610 c610 =>
 .exI fun i611 =>
 .exI fun i612 =>
 .exI fun i613 =>
 .exS fun a614 n614 c614 =>
 .exS fun a615 n615 c615 =>
 .exS fun a616 n616 c616 =>
 .exS fun a617 n617 c617 =>
 .exI fun i618 =>
 .exS fun a619 n619 c619 =>
 .isL v602 [.int .u64 i603, .int .i64 i604, .int .i64 i605, .int .i64 i606, .int .u64 i607, .int .u64 i608, .slice a609 n609 c609, .slice a610 n610 c610, .int .u64 i611, .int .i64 i612, .int .i64 i613, .slice a614 n614 c614, .slice a615 n615 c615, .slice a616 n616 c616, .slice a617 n617 c617, .int .u64 i618, .slice a619 n619 c619] <|
 .load ⟨p2, 0, none⟩ 21 fun v620 =>
 .exI fun i621 =>
 .exI fun i622 =>
 .exI fun i623 =>
 .exI fun i624 =>
 .exI fun i625 =>
 .exI fun i626 =>
 .exS fun a627 n627 c627 =>
 .exI fun i628 =>
 .exI fun i629 =>
 .exB fun b630 =>
 .exI fun i631 =>
 .exI fun i632 =>
 .exS fun a633 n633 c633 =>
 .exI fun i634 =>
 .exI fun i635 =>
 .exI fun i636 =>
 .exT fun s637 =>
 .exT fun s638 =>
 .exI fun i639 =>
 .exI fun i640 =>
 .exT fun s641 =>
 .isL v620 [.int .i64 i621, .int .i64 i622, .int .i64 i623, .int .u64 i624, .int .u64 i625, .int .u64 i626, .slice a627 n627 c627, .int .u64 i628, .int .u64 i629, .bool b630, .int .u64 i631, .int .u64 i632, .slice a633 n633 c633, .int .i64 i634, .int .i64 i635, .int .u64 i636, .string s637, .string s638, .int .u64 i639, .int .i64 i640, .string s641] <|
 .call 38 ([.agg #[.int .u64 i603, .int .i64 i604, .int .i64 i605, .int .i64 i606, .int .u64 i607, .int .u64 i608, .slice a609 n609 c609, .slice a610 n610 c610, .int .u64 i611, .int .i64 i612, .int .i64 i613, .slice a614 n614 c614, .slice a615 n615 c615, .slice a616 n616 c616, .slice a617 n617 c617, .int .u64 i618, .slice a619 n619 c619], .agg #[.int .i64 i621, .int .i64 i622, .int .i64 i623, .int .u64 i624, .int .u64 i625, .int .u64 i626, .slice a627 n627 c627, .int .u64 i628, .int .u64 i629, .bool b630, .int .u64 i631, .int .u64 i632, .slice a633 n633 c633, .int .i64 i634, .int .i64 i635, .int .u64 i636, .string s637, .string s638, .int .u64 i639, .int .i64 i640, .string s641]]) fun v642 =>
 .exI fun i643 =>
 .exI fun i644 =>
 .exI fun i645 =>
 .exI fun i646 =>
 .exI fun i647 =>
 .exI fun i648 =>
 .exS fun a649 n649 c649 =>
 .exS fun a650 n650 c650 =>
 .exI fun i651 =>
 .exI fun i652 =>
 .exI fun i653 =>
 .exS fun a654 n654 c654 =>
 .exS fun a655 n655 c655 =>
 .exS fun a656 n656 c656 =>
 .exS fun a657 n657 c657 =>
 .exI fun i658 =>
 .exS fun a659 n659 c659 =>
 .exS fun a660 n660 c660 =>
 .exS fun a661 n661 c661 =>
 .exS fun a662 n662 c662 =>
 .isL [v642] [.tuple #[.agg #[.int .u64 i643, .int .i64 i644, .int .i64 i645, .int .i64 i646, .int .u64 i647, .int .u64 i648, .slice a649 n649 c649, .slice a650 n650 c650, .int .u64 i651, .int .i64 i652, .int .i64 i653, .slice a654 n654 c654, .slice a655 n655 c655, .slice a656 n656 c656, .slice a657 n657 c657, .int .u64 i658, .slice a659 n659 c659], .agg #[.slice a660 n660 c660, .slice a661 n661 c661, .slice a662 n662 c662]]] <|
 .new 36 [.int .u64 0, .int .i64 0, .int .i64 0, .int .i64 0, .int .u64 0, .int .u64 0, .slice none 0 0, .slice none 0 0, .int .u64 0, .int .i64 0, .int .i64 0, .slice none 0 0, .slice none 0 0, .slice none 0 0, .slice none 0 0, .int .u64 0, .slice none 0 0] fun p663 =>
 .new 48 [.slice none 0 0, .slice none 0 0, .slice none 0 0] fun p664 =>
 .store ⟨p663, 0, none⟩ [.int .u64 i643, .int .i64 i644, .int .i64 i645, .int .i64 i646, .int .u64 i647, .int .u64 i648, .slice a649 n649 c649, .slice a650 n650 c650, .int .u64 i651, .int .i64 i652, .int .i64 i653, .slice a654 n654 c654, .slice a655 n655 c655, .slice a656 n656 c656, .slice a657 n657 c657, .int .u64 i658, .slice a659 n659 c659] <|
 .store ⟨p664, 0, none⟩ [.slice a660 n660 c660, .slice a661 n661 c661, .slice a662 n662 c662] <|
 .load ⟨p663, 0, none⟩ 17 fun v665 =>
 .exI fun i666 =>
 .exI fun i667 =>
 .exI fun i668 =>
 .exI fun i669 =>
 .exI fun i670 =>
 .exI fun i671 =>
 .exS fun a672 n672 c672 =>
 .exS fun a673 n673 c673 =>
 .exI fun i674 =>
 .exI fun i675 =>
 .exI fun i676 =>
 .exS fun a677 n677 c677 =>
 .exS fun a678 n678 c678 =>
 .exS fun a679 n679 c679 =>
 .exS fun a680 n680 c680 =>
 .exI fun i681 =>
 .exS fun a682 n682 c682 =>
 .isL v665 [.int .u64 i666, .int .i64 i667, .int .i64 i668, .int .i64 i669, .int .u64 i670, .int .u64 i671, .slice a672 n672 c672, .slice a673 n673 c673, .int .u64 i674, .int .i64 i675, .int .i64 i676, .slice a677 n677 c677, .slice a678 n678 c678, .slice a679 n679 c679, .slice a680 n680 c680, .int .u64 i681, .slice a682 n682 c682] <|
 .load ⟨p1, 0, none⟩ 17 fun v683 =>
 .exI fun i684 =>
 .exI fun i685 =>
 .exI fun i686 =>
 .exI fun i687 =>
 .exI fun i688 =>
 .exI fun i689 =>
 .exS fun a690 n690 c690 =>
 .exS fun a691 n691 c691 =>
 .exI fun i692 =>
 .exI fun i693 =>
 .exI fun i694 =>
 .exS fun a695 n695 c695 =>
 .exS fun a696 n696 c696 =>
 .exS fun a697 n697 c697 =>
 .exS fun a698 n698 c698 =>
 .exI fun i699 =>
 .exS fun a700 n700 c700 =>
 .isL v683 [.int .u64 i684, .int .i64 i685, .int .i64 i686, .int .i64 i687, .int .u64 i688, .int .u64 i689, .slice a690 n690 c690, .slice a691 n691 c691, .int .u64 i692, .int .i64 i693, .int .i64 i694, .slice a695 n695 c695, .slice a696 n696 c696, .slice a697 n697 c697, .slice a698 n698 c698, .int .u64 i699, .slice a700 n700 c700] <|
 .call 29 ([.agg #[.int .u64 i666, .int .i64 i667, .int .i64 i668, .int .i64 i669, .int .u64 i670, .int .u64 i671, .slice a672 n672 c672, .slice a673 n673 c673, .int .u64 i674, .int .i64 i675, .int .i64 i676, .slice a677 n677 c677, .slice a678 n678 c678, .slice a679 n679 c679, .slice a680 n680 c680, .int .u64 i681, .slice a682 n682 c682], .agg #[.int .u64 i684, .int .i64 i685, .int .i64 i686, .int .i64 i687, .int .u64 i688, .int .u64 i689, .slice a690 n690 c690, .slice a691 n691 c691, .int .u64 i692, .int .i64 i693, .int .i64 i694, .slice a695 n695 c695, .slice a696 n696 c696, .slice a697 n697 c697, .slice a698 n698 c698, .int .u64 i699, .slice a700 n700 c700]]) fun v701 =>
 .exB fun b702 =>
 .isL [v701] [.bool b702] <|
 bif b702 then
  (.load ⟨p664, 0, none⟩ 1 fun v703 =>
  .exS fun a704 n704 c704 =>
  .isL v703 [.slice a704 n704 c704] <|
  .load ⟨p664, 1, none⟩ 1 fun v705 =>
  .exS fun a706 n706 c706 =>
  .isL v705 [.slice a706 n706 c706] <|
  .load ⟨p664, 2, none⟩ 1 fun v707 =>
  .exS fun a708 n708 c708 =>
  .isL v707 [.slice a708 n708 c708] <|
  .ret (.bool (IntKind.i64.wrap (IntKind.i64.wrap ((↑n704 : Int) + (↑n706 : Int)) + (↑n708 : Int)) == 0)))
 else
 (.ret (.bool false))))))
theorem e14 (r0 : Int) (r1 : Int) (r2 : Int) (r3 : Int) (r4 : Int) (r5 : Int) (r6a : Option Addr) (r6n : Nat) (r6c : Nat) (r7a : Option Addr) (r7n : Nat) (r7c : Nat) (r8 : Int) (r9 : Int) (r10 : Int) (r11a : Option Addr) (r11n : Nat) (r11c : Nat) (r12a : Option Addr) (r12n : Nat) (r12c : Nat) (r13a : Option Addr) (r13n : Nat) (r13c : Nat) (r14a : Option Addr) (r14n : Nat) (r14c : Nat) (r15 : Int) (r16a : Option Addr) (r16n : Nat) (r16c : Nat) (m0 : Int) (m1 : Int) (m2 : Int) (m3 : Int) (m4 : Int) (m5 : Int) (m6a : Option Addr) (m6n : Nat) (m6c : Nat) (m7 : Int) (m8 : Int) (m9 : Bool) (m10 : Int) (m11 : Int) (m12a : Option Addr) (m12n : Nat) (m12c : Nat) (m13 : Int) (m14 : Int) (m15 : Int) (m16 : ByteArray) (m17 : ByteArray) (m18 : Int) (m19 : Int) (m20 : ByteArray) : genFn Try.prog noM noM Try.f14 [.agg #[.int .u64 r0, .int .i64 r1, .int .i64 r2, .int .i64 r3, .int .u64 r4, .int .u64 r5, .slice r6a r6n r6c, .slice r7a r7n r7c, .int .u64 r8, .int .i64 r9, .int .i64 r10, .slice r11a r11n r11c, .slice r12a r12n r12c, .slice r13a r13n r13c, .slice r14a r14n r14c, .int .u64 r15, .slice r16a r16n r16c], .agg #[.int .i64 m0, .int .i64 m1, .int .i64 m2, .int .u64 m3, .int .u64 m4, .int .u64 m5, .slice m6a m6n m6c, .int .u64 m7, .int .u64 m8, .bool m9, .int .u64 m10, .int .u64 m11, .slice m12a m12n m12c, .int .i64 m13, .int .i64 m14, .int .u64 m15, .string m16, .string m17, .int .u64 m18, .int .i64 m19, .string m20]] = t14 r0 r1 r2 r3 r4 r5 r6a r6n r6c r7a r7n r7c r8 r9 r10 r11a r11n r11c r12a r12n r12c r13a r13n r13c r14a r14n r14c r15 r16a r16n r16c m0 m1 m2 m3 m4 m5 m6a m6n m6c m7 m8 m9 m10 m11 m12a m12n m12c m13 m14 m15 m16 m17 m18 m19 m20 := by kernel_rfl
theorem r14 (r0 : Int) (r1 : Int) (r2 : Int) (r3 : Int) (r4 : Int) (r5 : Int) (r6a : Option Addr) (r6n : Nat) (r6c : Nat) (r7a : Option Addr) (r7n : Nat) (r7c : Nat) (r8 : Int) (r9 : Int) (r10 : Int) (r11a : Option Addr) (r11n : Nat) (r11c : Nat) (r12a : Option Addr) (r12n : Nat) (r12c : Nat) (r13a : Option Addr) (r13n : Nat) (r13c : Nat) (r14a : Option Addr) (r14n : Nat) (r14c : Nat) (r15 : Int) (r16a : Option Addr) (r16n : Nat) (r16c : Nat) (m0 : Int) (m1 : Int) (m2 : Int) (m3 : Int) (m4 : Int) (m5 : Int) (m6a : Option Addr) (m6n : Nat) (m6c : Nat) (m7 : Int) (m8 : Int) (m9 : Bool) (m10 : Int) (m11 : Int) (m12a : Option Addr) (m12n : Nat) (m12c : Nat) (m13 : Int) (m14 : Int) (m15 : Int) (m16 : ByteArray) (m17 : ByteArray) (m18 : Int) (m19 : Int) (m20 : ByteArray) {R : Value → World → Prop} {w : World} (h : (t14 r0 r1 r2 r3 r4 r5 r6a r6n r6c r7a r7n r7c r8 r9 r10 r11a r11n r11c r12a r12n r12c r13a r13n r13c r14a r14n r14c r15 r16a r16n r16c m0 m1 m2 m3 m4 m5 m6a m6n m6c m7 m8 m9 m10 m11 m12a m12n m12c m13 m14 m15 m16 m17 m18 m19 m20).wp Try.prog R (fun _ _ _ => False) w) : Runs Try.prog 14 [.agg #[.int .u64 r0, .int .i64 r1, .int .i64 r2, .int .i64 r3, .int .u64 r4, .int .u64 r5, .slice r6a r6n r6c, .slice r7a r7n r7c, .int .u64 r8, .int .i64 r9, .int .i64 r10, .slice r11a r11n r11c, .slice r12a r12n r12c, .slice r13a r13n r13c, .slice r14a r14n r14c, .int .u64 r15, .slice r16a r16n r16c], .agg #[.int .i64 m0, .int .i64 m1, .int .i64 m2, .int .u64 m3, .int .u64 m4, .int .u64 m5, .slice m6a m6n m6c, .int .u64 m7, .int .u64 m8, .bool m9, .int .u64 m10, .int .u64 m11, .slice m12a m12n m12c, .int .i64 m13, .int .i64 m14, .int .u64 m15, .string m16, .string m17, .int .u64 m18, .int .i64 m19, .string m20]] w R :=
 genFn_runs mixed noM noM Try.func14 (by kernel_rfl) (by rw [e14]; exact h)
end Go.Proofs.Ytnbfffmdplcajaa
