/- The trees of verification conditions of functions 9: printed by a program of mine, checked here. -/
import Derived.Test.YtnbfffmdplcajaaTree0
set_option linter.unusedVariables false
set_option maxRecDepth 100000
namespace Go.Proofs.Ytnbfffmdplcajaa
open Go.Vc
def t9 (r0 : Int) (r1 : Int) (r2 : Int) (r3 : Int) (r4 : Int) (r5 : Int) (r6a : Option Addr) (r6n : Nat) (r6c : Nat) (r7a : Option Addr) (r7n : Nat) (r7c : Nat) (r8 : Int) (r9 : Int) (r10 : Int) (r11a : Option Addr) (r11n : Nat) (r11c : Nat) (r12a : Option Addr) (r12n : Nat) (r12c : Nat) (r13a : Option Addr) (r13n : Nat) (r13c : Nat) (r14a : Option Addr) (r14n : Nat) (r14c : Nat) (r15 : Int) (r16a : Option Addr) (r16n : Nat) (r16c : Nat) (m0 : Int) (m1 : Int) (m2 : Int) (m3 : Int) (m4 : Int) (m5 : Int) (m6a : Option Addr) (m6n : Nat) (m6c : Nat) (m7 : Int) (m8 : Int) (m9 : Bool) (m10 : Int) (m11 : Int) (m12a : Option Addr) (m12n : Nat) (m12c : Nat) (m13 : Int) (m14 : Int) (m15 : Int) (m16 : ByteArray) (m17 : ByteArray) (m18 : Int) (m19 : Int) (m20 : ByteArray) : VC :=
 .new 36 [.int .u64 r0, .int .i64 r1, .int .i64 r2, .int .i64 r3, .int .u64 r4, .int .u64 r5, .slice r6a r6n r6c, .slice r7a r7n r7c, .int .u64 r8, .int .i64 r9, .int .i64 r10, .slice r11a r11n r11c, .slice r12a r12n r12c, .slice r13a r13n r13c, .slice r14a r14n r14c, .int .u64 r15, .slice r16a r16n r16c] fun p1 =>
 .new 70 [.int .i64 m0, .int .i64 m1, .int .i64 m2, .int .u64 m3, .int .u64 m4, .int .u64 m5, .slice m6a m6n m6c, .int .u64 m7, .int .u64 m8, .bool m9, .int .u64 m10, .int .u64 m11, .slice m12a m12n m12c, .int .i64 m13, .int .i64 m14, .int .u64 m15, .string m16, .string m17, .int .u64 m18, .int .i64 m19, .string m20] fun p2 =>
 .call 22 ([]) fun v3 =>
 .exB fun b4 =>
 .isL [v3] [.bool b4] <|
 bif !b4 then
  (.ret (.bool false))
 else
 (.load ⟨p1, 0, none⟩ 17 fun v5 =>
 .exI fun i6 =>
 .exI fun i7 =>
 .exI fun i8 =>
 .exI fun i9 =>
 .exI fun i10 =>
 .exI fun i11 =>
 .exS fun a12 n12 c12 =>
 .exS fun a13 n13 c13 =>
 .exI fun i14 =>
 .exI fun i15 =>
 .exI fun i16 =>
 .exS fun a17 n17 c17 =>
 .exS fun a18 n18 c18 =>
 .exS fun a19 n19 c19 =>
 .exS fun a20 n20 c20 =>
 .exI fun i21 =>
 .exS fun a22 n22 c22 =>
 .isL v5 [.int .u64 i6, .int .i64 i7, .int .i64 i8, .int .i64 i9, .int .u64 i10, .int .u64 i11, .slice a12 n12 c12, .slice a13 n13 c13, .int .u64 i14, .int .i64 i15, .int .i64 i16, .slice a17 n17 c17, .slice a18 n18 c18, .slice a19 n19 c19, .slice a20 n20 c20, .int .u64 i21, .slice a22 n22 c22] <|
 .call 30 ([.agg #[.int .u64 i6, .int .i64 i7, .int .i64 i8, .int .i64 i9, .int .u64 i10, .int .u64 i11, .slice a12 n12 c12, .slice a13 n13 c13, .int .u64 i14, .int .i64 i15, .int .i64 i16, .slice a17 n17 c17, .slice a18 n18 c18, .slice a19 n19 c19, .slice a20 n20 c20, .int .u64 i21, .slice a22 n22 c22]]) fun v23 =>
 .exB fun b24 =>
 .isL [v23] [.bool b24] <|
 bif !b24 then
  (.ret (.bool true))
 else
 (.load ⟨p2, 0, none⟩ 21 fun v25 =>
 .exI fun i26 =>
 .exI fun i27 =>
 .exI fun i28 =>
 .exI fun i29 =>
 .exI fun i30 =>
 .exI fun i31 =>
 .exS fun a32 n32 c32 =>
 .exI fun i33 =>
 .exI fun i34 =>
 .exB fun b35 =>
 .exI fun i36 =>
 .exI fun i37 =>
 .exS fun a38 n38 c38 =>
 .exI fun i39 =>
 .exI fun i40 =>
 .exI fun i41 =>
 .exT fun s42 =>
 .exT fun s43 =>
 .exI fun i44 =>
 .exI fun i45 =>
 .exT fun s46 =>
 .isL v25 [.int .i64 i26, .int .i64 i27, .int .i64 i28, .int .u64 i29, .int .u64 i30, .int .u64 i31, .slice a32 n32 c32, .int .u64 i33, .int .u64 i34, .bool b35, .int .u64 i36, .int .u64 i37, .slice a38 n38 c38, .int .i64 i39, .int .i64 i40, .int .u64 i41, .string s42, .string s43, .int .u64 i44, .int .i64 i45, .string s46] <|
 .call 35 ([.agg #[.int .i64 i26, .int .i64 i27, .int .i64 i28, .int .u64 i29, .int .u64 i30, .int .u64 i31, .slice a32 n32 c32, .int .u64 i33, .int .u64 i34, .bool b35, .int .u64 i36, .int .u64 i37, .slice a38 n38 c38, .int .i64 i39, .int .i64 i40, .int .u64 i41, .string s42, .string s43, .int .u64 i44, .int .i64 i45, .string s46]]) fun v47 =>
 .exB fun b48 =>
 .isL [v47] [.bool b48] <|
 bif !b48 then
  (.ret (.bool true))
 else
 (.load ⟨p1, 0, none⟩ 17 fun v49 =>
 .exI fun i50 =>
 .exI fun i51 =>
 .exI fun i52 =>
 .exI fun i53 =>
 .exI fun i54 =>
 .exI fun i55 =>
 .exS fun a56 n56 c56 =>
 .exS fun a57 n57 c57 =>
 .exI fun i58 =>
 .exI fun i59 =>
 .exI fun i60 =>
 .exS fun a61 n61 c61 =>
 .exS fun a62 n62 c62 =>
 .exS fun a63 n63 c63 =>
 .exS fun a64 n64 c64 =>
 .exI fun i65 =>
 .exS fun a66 n66 c66 =>
 .isL v49 [.int .u64 i50, .int .i64 i51, .int .i64 i52, .int .i64 i53, .int .u64 i54, .int .u64 i55, .slice a56 n56 c56, .slice a57 n57 c57, .int .u64 i58, .int .i64 i59, .int .i64 i60, .slice a61 n61 c61, .slice a62 n62 c62, .slice a63 n63 c63, .slice a64 n64 c64, .int .u64 i65, .slice a66 n66 c66] <|
 .load ⟨p2, 0, none⟩ 21 fun v67 =>
 .exI fun i68 =>
 .exI fun i69 =>
 .exI fun i70 =>
 .exI fun i71 =>
 .exI fun i72 =>
 .exI fun i73 =>
 .exS fun a74 n74 c74 =>
 .exI fun i75 =>
 .exI fun i76 =>
 .exB fun b77 =>
 .exI fun i78 =>
 .exI fun i79 =>
 .exS fun a80 n80 c80 =>
 .exI fun i81 =>
 .exI fun i82 =>
 .exI fun i83 =>
 .exT fun s84 =>
 .exT fun s85 =>
 .exI fun i86 =>
 .exI fun i87 =>
 .exT fun s88 =>
 .isL v67 [.int .i64 i68, .int .i64 i69, .int .i64 i70, .int .u64 i71, .int .u64 i72, .int .u64 i73, .slice a74 n74 c74, .int .u64 i75, .int .u64 i76, .bool b77, .int .u64 i78, .int .u64 i79, .slice a80 n80 c80, .int .i64 i81, .int .i64 i82, .int .u64 i83, .string s84, .string s85, .int .u64 i86, .int .i64 i87, .string s88] <|
 .call 38 ([.agg #[.int .u64 i50, .int .i64 i51, .int .i64 i52, .int .i64 i53, .int .u64 i54, .int .u64 i55, .slice a56 n56 c56, .slice a57 n57 c57, .int .u64 i58, .int .i64 i59, .int .i64 i60, .slice a61 n61 c61, .slice a62 n62 c62, .slice a63 n63 c63, .slice a64 n64 c64, .int .u64 i65, .slice a66 n66 c66], .agg #[.int .i64 i68, .int .i64 i69, .int .i64 i70, .int .u64 i71, .int .u64 i72, .int .u64 i73, .slice a74 n74 c74, .int .u64 i75, .int .u64 i76, .bool b77, .int .u64 i78, .int .u64 i79, .slice a80 n80 c80, .int .i64 i81, .int .i64 i82, .int .u64 i83, .string s84, .string s85, .int .u64 i86, .int .i64 i87, .string s88]]) fun v89 =>
 .exI fun i90 =>
 .exI fun i91 =>
 .exI fun i92 =>
 .exI fun i93 =>
 .exI fun i94 =>
 .exI fun i95 =>
 .exS fun a96 n96 c96 =>
 .exS fun a97 n97 c97 =>
 .exI fun i98 =>
 .exI fun i99 =>
 .exI fun i100 =>
 .exS fun a101 n101 c101 =>
 .exS fun a102 n102 c102 =>
 .exS fun a103 n103 c103 =>
 .exS fun a104 n104 c104 =>
 .exI fun i105 =>
 .exS fun a106 n106 c106 =>
 .exS fun a107 n107 c107 =>
 .exS fun a108 n108 c108 =>
 .exS fun a109 n109 c109 =>
 .isL [v89] [.tuple #[.agg #[.int .u64 i90, .int .i64 i91, .int .i64 i92, .int .i64 i93, .int .u64 i94, .int .u64 i95, .slice a96 n96 c96, .slice a97 n97 c97, .int .u64 i98, .int .i64 i99, .int .i64 i100, .slice a101 n101 c101, .slice a102 n102 c102, .slice a103 n103 c103, .slice a104 n104 c104, .int .u64 i105, .slice a106 n106 c106], .agg #[.slice a107 n107 c107, .slice a108 n108 c108, .slice a109 n109 c109]]] <|
 .new 36 [.int .u64 0, .int .i64 0, .int .i64 0, .int .i64 0, .int .u64 0, .int .u64 0, .slice none 0 0, .slice none 0 0, .int .u64 0, .int .i64 0, .int .i64 0, .slice none 0 0, .slice none 0 0, .slice none 0 0, .slice none 0 0, .int .u64 0, .slice none 0 0] fun p110 =>
 .new 48 [.slice none 0 0, .slice none 0 0, .slice none 0 0] fun p111 =>
 .store ⟨p110, 0, none⟩ [.int .u64 i90, .int .i64 i91, .int .i64 i92, .int .i64 i93, .int .u64 i94, .int .u64 i95, .slice a96 n96 c96, .slice a97 n97 c97, .int .u64 i98, .int .i64 i99, .int .i64 i100, .slice a101 n101 c101, .slice a102 n102 c102, .slice a103 n103 c103, .slice a104 n104 c104, .int .u64 i105, .slice a106 n106 c106] <|
 .store ⟨p111, 0, none⟩ [.slice a107 n107 c107, .slice a108 n108 c108, .slice a109 n109 c109] <|
 .load ⟨p1, 0, none⟩ 17 fun v112 =>
 .exI fun i113 =>
 .exI fun i114 =>
 .exI fun i115 =>
 .exI fun i116 =>
 .exI fun i117 =>
 .exI fun i118 =>
 .exS fun a119 n119 c119 =>
 .exS fun a120 n120 c120 =>
 .exI fun i121 =>
 .exI fun i122 =>
 .exI fun i123 =>
 .exS fun a124 n124 c124 =>
 .exS fun a125 n125 c125 =>
 .exS fun a126 n126 c126 =>
 .exS fun a127 n127 c127 =>
 .exI fun i128 =>
 .exS fun a129 n129 c129 =>
 .isL v112 [.int .u64 i113, .int .i64 i114, .int .i64 i115, .int .i64 i116, .int .u64 i117, .int .u64 i118, .slice a119 n119 c119, .slice a120 n120 c120, .int .u64 i121, .int .i64 i122, .int .i64 i123, .slice a124 n124 c124, .slice a125 n125 c125, .slice a126 n126 c126, .slice a127 n127 c127, .int .u64 i128, .slice a129 n129 c129] <|
 .load ⟨p2, 0, none⟩ 21 fun v130 =>
 .exI fun i131 =>
 .exI fun i132 =>
 .exI fun i133 =>
 .exI fun i134 =>
 .exI fun i135 =>
 .exI fun i136 =>
 .exS fun a137 n137 c137 =>
 .exI fun i138 =>
 .exI fun i139 =>
 .exB fun b140 =>
 .exI fun i141 =>
 .exI fun i142 =>
 .exS fun a143 n143 c143 =>
 .exI fun i144 =>
 .exI fun i145 =>
 .exI fun i146 =>
 .exT fun s147 =>
 .exT fun s148 =>
 .exI fun i149 =>
 .exI fun i150 =>
 .exT fun s151 =>
 .isL v130 [.int .i64 i131, .int .i64 i132, .int .i64 i133, .int .u64 i134, .int .u64 i135, .int .u64 i136, .slice a137 n137 c137, .int .u64 i138, .int .u64 i139, .bool b140, .int .u64 i141, .int .u64 i142, .slice a143 n143 c143, .int .i64 i144, .int .i64 i145, .int .u64 i146, .string s147, .string s148, .int .u64 i149, .int .i64 i150, .string s151] <|
 .call 46 ([.agg #[.int .u64 i113, .int .i64 i114, .int .i64 i115, .int .i64 i116, .int .u64 i117, .int .u64 i118, .slice a119 n119 c119, .slice a120 n120 c120, .int .u64 i121, .int .i64 i122, .int .i64 i123, .slice a124 n124 c124, .slice a125 n125 c125, .slice a126 n126 c126, .slice a127 n127 c127, .int .u64 i128, .slice a129 n129 c129], .agg #[.int .i64 i131, .int .i64 i132, .int .i64 i133, .int .u64 i134, .int .u64 i135, .int .u64 i136, .slice a137 n137 c137, .int .u64 i138, .int .u64 i139, .bool b140, .int .u64 i141, .int .u64 i142, .slice a143 n143 c143, .int .i64 i144, .int .i64 i145, .int .u64 i146, .string s147, .string s148, .int .u64 i149, .int .i64 i150, .string s151]]) fun v152 =>
 .exI fun i153 =>
 .exI fun i154 =>
 .exI fun i155 =>
 .exI fun i156 =>
 .exI fun i157 =>
 .exI fun i158 =>
 .exS fun a159 n159 c159 =>
 .exS fun a160 n160 c160 =>
 .exI fun i161 =>
 .exI fun i162 =>
 .exI fun i163 =>
 .exS fun a164 n164 c164 =>
 .exS fun a165 n165 c165 =>
 .exS fun a166 n166 c166 =>
 .exS fun a167 n167 c167 =>
 .exI fun i168 =>
 .exS fun a169 n169 c169 =>
 .exS fun a170 n170 c170 =>
 .exS fun a171 n171 c171 =>
 .exS fun a172 n172 c172 =>
 .isL [v152] [.tuple #[.agg #[.int .u64 i153, .int .i64 i154, .int .i64 i155, .int .i64 i156, .int .u64 i157, .int .u64 i158, .slice a159 n159 c159, .slice a160 n160 c160, .int .u64 i161, .int .i64 i162, .int .i64 i163, .slice a164 n164 c164, .slice a165 n165 c165, .slice a166 n166 c166, .slice a167 n167 c167, .int .u64 i168, .slice a169 n169 c169], .agg #[.slice a170 n170 c170, .slice a171 n171 c171, .slice a172 n172 c172]]] <|
 .new 36 [.int .u64 0, .int .i64 0, .int .i64 0, .int .i64 0, .int .u64 0, .int .u64 0, .slice none 0 0, .slice none 0 0, .int .u64 0, .int .i64 0, .int .i64 0, .slice none 0 0, .slice none 0 0, .slice none 0 0, .slice none 0 0, .int .u64 0, .slice none 0 0] fun p173 =>
 .new 48 [.slice none 0 0, .slice none 0 0, .slice none 0 0] fun p174 =>
 .store ⟨p173, 0, none⟩ [.int .u64 i153, .int .i64 i154, .int .i64 i155, .int .i64 i156, .int .u64 i157, .int .u64 i158, .slice a159 n159 c159, .slice a160 n160 c160, .int .u64 i161, .int .i64 i162, .int .i64 i163, .slice a164 n164 c164, .slice a165 n165 c165, .slice a166 n166 c166, .slice a167 n167 c167, .int .u64 i168, .slice a169 n169 c169] <|
 .store ⟨p174, 0, none⟩ [.slice a170 n170 c170, .slice a171 n171 c171, .slice a172 n172 c172] <|
 .load ⟨p110, 0, none⟩ 17 fun v175 =>
 .exI fun i176 =>
 .exI fun i177 =>
 .exI fun i178 =>
 .exI fun i179 =>
 .exI fun i180 =>
 .exI fun i181 =>
 .exS fun a182 n182 c182 =>
 .exS fun a183 n183 c183 =>
 .exI fun i184 =>
 .exI fun i185 =>
 .exI fun i186 =>
 .exS fun a187 n187 c187 =>
 .exS fun a188 n188 c188 =>
 .exS fun a189 n189 c189 =>
 .exS fun a190 n190 c190 =>
 .exI fun i191 =>
 .exS fun a192 n192 c192 =>
 .isL v175 [.int .u64 i176, .int .i64 i177, .int .i64 i178, .int .i64 i179, .int .u64 i180, .int .u64 i181, .slice a182 n182 c182, .slice a183 n183 c183, .int .u64 i184, .int .i64 i185, .int .i64 i186, .slice a187 n187 c187, .slice a188 n188 c188, .slice a189 n189 c189, .slice a190 n190 c190, .int .u64 i191, .slice a192 n192 c192] <|
 .load ⟨p173, 0, none⟩ 17 fun v193 =>
 .exI fun i194 =>
 .exI fun i195 =>
 .exI fun i196 =>
 .exI fun i197 =>
 .exI fun i198 =>
 .exI fun i199 =>
 .exS fun a200 n200 c200 =>
 .exS fun a201 n201 c201 =>
 .exI fun i202 =>
 .exI fun i203 =>
 .exI fun i204 =>
 .exS fun a205 n205 c205 =>
 .exS fun a206 n206 c206 =>
 .exS fun a207 n207 c207 =>
 .exS fun a208 n208 c208 =>
 .exI fun i209 =>
 .exS fun a210 n210 c210 =>
 .isL v193 [.int .u64 i194, .int .i64 i195, .int .i64 i196, .int .i64 i197, .int .u64 i198, .int .u64 i199, .slice a200 n200 c200, .slice a201 n201 c201, .int .u64 i202, .int .i64 i203, .int .i64 i204, .slice a205 n205 c205, .slice a206 n206 c206, .slice a207 n207 c207, .slice a208 n208 c208, .int .u64 i209, .slice a210 n210 c210] <|
 .call 29 ([.agg #[.int .u64 i176, .int .i64 i177, .int .i64 i178, .int .i64 i179, .int .u64 i180, .int .u64 i181, .slice a182 n182 c182, .slice a183 n183 c183, .int .u64 i184, .int .i64 i185, .int .i64 i186, .slice a187 n187 c187, .slice a188 n188 c188, .slice a189 n189 c189, .slice a190 n190 c190, .int .u64 i191, .slice a192 n192 c192], .agg #[.int .u64 i194, .int .i64 i195, .int .i64 i196, .int .i64 i197, .int .u64 i198, .int .u64 i199, .slice a200 n200 c200, .slice a201 n201 c201, .int .u64 i202, .int .i64 i203, .int .i64 i204, .slice a205 n205 c205, .slice a206 n206 c206, .slice a207 n207 c207, .slice a208 n208 c208, .int .u64 i209, .slice a210 n210 c210]]) fun v211 =>
 .exB fun b212 =>
 .isL [v211] [.bool b212] <|
 bif b212 then
  (.load ⟨p111, 0, none⟩ 3 fun v213 =>
  .exS fun a214 n214 c214 =>
  .exS fun a215 n215 c215 =>
  .exS fun a216 n216 c216 =>
  .isL v213 [.slice a214 n214 c214, .slice a215 n215 c215, .slice a216 n216 c216] <|
  .load ⟨p174, 0, none⟩ 3 fun v217 =>
  .exS fun a218 n218 c218 =>
  .exS fun a219 n219 c219 =>
  .exS fun a220 n220 c220 =>
  .isL v217 [.slice a218 n218 c218, .slice a219 n219 c219, .slice a220 n220 c220] <|
  .call 40 ([.agg #[.slice a214 n214 c214, .slice a215 n215 c215, .slice a216 n216 c216], .agg #[.slice a218 n218 c218, .slice a219 n219 c219, .slice a220 n220 c220]]) fun v221 =>
  .exB fun b222 =>
  .isL [v221] [.bool b222] <|
  .ret (.bool b222))
 else
 (.ret (.bool false)))))
theorem e9 (r0 : Int) (r1 : Int) (r2 : Int) (r3 : Int) (r4 : Int) (r5 : Int) (r6a : Option Addr) (r6n : Nat) (r6c : Nat) (r7a : Option Addr) (r7n : Nat) (r7c : Nat) (r8 : Int) (r9 : Int) (r10 : Int) (r11a : Option Addr) (r11n : Nat) (r11c : Nat) (r12a : Option Addr) (r12n : Nat) (r12c : Nat) (r13a : Option Addr) (r13n : Nat) (r13c : Nat) (r14a : Option Addr) (r14n : Nat) (r14c : Nat) (r15 : Int) (r16a : Option Addr) (r16n : Nat) (r16c : Nat) (m0 : Int) (m1 : Int) (m2 : Int) (m3 : Int) (m4 : Int) (m5 : Int) (m6a : Option Addr) (m6n : Nat) (m6c : Nat) (m7 : Int) (m8 : Int) (m9 : Bool) (m10 : Int) (m11 : Int) (m12a : Option Addr) (m12n : Nat) (m12c : Nat) (m13 : Int) (m14 : Int) (m15 : Int) (m16 : ByteArray) (m17 : ByteArray) (m18 : Int) (m19 : Int) (m20 : ByteArray) : genFn Try.prog noM noM Try.f9 [.agg #[.int .u64 r0, .int .i64 r1, .int .i64 r2, .int .i64 r3, .int .u64 r4, .int .u64 r5, .slice r6a r6n r6c, .slice r7a r7n r7c, .int .u64 r8, .int .i64 r9, .int .i64 r10, .slice r11a r11n r11c, .slice r12a r12n r12c, .slice r13a r13n r13c, .slice r14a r14n r14c, .int .u64 r15, .slice r16a r16n r16c], .agg #[.int .i64 m0, .int .i64 m1, .int .i64 m2, .int .u64 m3, .int .u64 m4, .int .u64 m5, .slice m6a m6n m6c, .int .u64 m7, .int .u64 m8, .bool m9, .int .u64 m10, .int .u64 m11, .slice m12a m12n m12c, .int .i64 m13, .int .i64 m14, .int .u64 m15, .string m16, .string m17, .int .u64 m18, .int .i64 m19, .string m20]] = t9 r0 r1 r2 r3 r4 r5 r6a r6n r6c r7a r7n r7c r8 r9 r10 r11a r11n r11c r12a r12n r12c r13a r13n r13c r14a r14n r14c r15 r16a r16n r16c m0 m1 m2 m3 m4 m5 m6a m6n m6c m7 m8 m9 m10 m11 m12a m12n m12c m13 m14 m15 m16 m17 m18 m19 m20 := by kernel_rfl
theorem r9 (r0 : Int) (r1 : Int) (r2 : Int) (r3 : Int) (r4 : Int) (r5 : Int) (r6a : Option Addr) (r6n : Nat) (r6c : Nat) (r7a : Option Addr) (r7n : Nat) (r7c : Nat) (r8 : Int) (r9 : Int) (r10 : Int) (r11a : Option Addr) (r11n : Nat) (r11c : Nat) (r12a : Option Addr) (r12n : Nat) (r12c : Nat) (r13a : Option Addr) (r13n : Nat) (r13c : Nat) (r14a : Option Addr) (r14n : Nat) (r14c : Nat) (r15 : Int) (r16a : Option Addr) (r16n : Nat) (r16c : Nat) (m0 : Int) (m1 : Int) (m2 : Int) (m3 : Int) (m4 : Int) (m5 : Int) (m6a : Option Addr) (m6n : Nat) (m6c : Nat) (m7 : Int) (m8 : Int) (m9 : Bool) (m10 : Int) (m11 : Int) (m12a : Option Addr) (m12n : Nat) (m12c : Nat) (m13 : Int) (m14 : Int) (m15 : Int) (m16 : ByteArray) (m17 : ByteArray) (m18 : Int) (m19 : Int) (m20 : ByteArray) {R : Value → World → Prop} {w : World} (h : (t9 r0 r1 r2 r3 r4 r5 r6a r6n r6c r7a r7n r7c r8 r9 r10 r11a r11n r11c r12a r12n r12c r13a r13n r13c r14a r14n r14c r15 r16a r16n r16c m0 m1 m2 m3 m4 m5 m6a m6n m6c m7 m8 m9 m10 m11 m12a m12n m12c m13 m14 m15 m16 m17 m18 m19 m20).wp Try.prog R (fun _ _ _ => False) w) : Runs Try.prog 9 [.agg #[.int .u64 r0, .int .i64 r1, .int .i64 r2, .int .i64 r3, .int .u64 r4, .int .u64 r5, .slice r6a r6n r6c, .slice r7a r7n r7c, .int .u64 r8, .int .i64 r9, .int .i64 r10, .slice r11a r11n r11c, .slice r12a r12n r12c, .slice r13a r13n r13c, .slice r14a r14n r14c, .int .u64 r15, .slice r16a r16n r16c], .agg #[.int .i64 m0, .int .i64 m1, .int .i64 m2, .int .u64 m3, .int .u64 m4, .int .u64 m5, .slice m6a m6n m6c, .int .u64 m7, .int .u64 m8, .bool m9, .int .u64 m10, .int .u64 m11, .slice m12a m12n m12c, .int .i64 m13, .int .i64 m14, .int .u64 m15, .string m16, .string m17, .int .u64 m18, .int .i64 m19, .string m20]] w R :=
 genFn_runs mixed noM noM Try.func9 (by kernel_rfl) (by rw [e9]; exact h)
end Go.Proofs.Ytnbfffmdplcajaa
