/- The trees of verification conditions of functions 8: printed by a program of mine, checked here. -/
import Derived.Test.YtnbfffmdplcajaaTree0
set_option linter.unusedVariables false
set_option maxRecDepth 100000
namespace Go.Proofs.Ytnbfffmdplcajaa
open Go.Vc
def t8 (r0 : Int) (r1 : Int) (r2 : Int) (r3 : Int) (r4 : Int) (r5 : Int) (r6a : Option Addr) (r6n : Nat) (r6c : Nat) (r7a : Option Addr) (r7n : Nat) (r7c : Nat) (r8 : Int) (r9 : Int) (r10 : Int) (r11a : Option Addr) (r11n : Nat) (r11c : Nat) (r12a : Option Addr) (r12n : Nat) (r12c : Nat) (r13a : Option Addr) (r13n : Nat) (r13c : Nat) (r14a : Option Addr) (r14n : Nat) (r14c : Nat) (r15 : Int) (r16a : Option Addr) (r16n : Nat) (r16c : Nat) (m0 : Int) (m1 : Int) (m2 : Int) (m3 : Int) (m4 : Int) (m5 : Int) (m6a : Option Addr) (m6n : Nat) (m6c : Nat) (m7 : Int) (m8 : Int) (m9 : Bool) (m10 : Int) (m11 : Int) (m12a : Option Addr) (m12n : Nat) (m12c : Nat) (m13 : Int) (m14 : Int) (m15 : Int) (m16 : ByteArray) (m17 : ByteArray) (m18 : Int) (m19 : Int) (m20 : ByteArray) (dataa : Option Addr) (datan : Nat) (datac : Nat) : VC :=
 .new 36 [.int .u64 r0, .int .i64 r1, .int .i64 r2, .int .i64 r3, .int .u64 r4, .int .u64 r5, .slice r6a r6n r6c, .slice r7a r7n r7c, .int .u64 r8, .int .i64 r9, .int .i64 r10, .slice r11a r11n r11c, .slice r12a r12n r12c, .slice r13a r13n r13c, .slice r14a r14n r14c, .int .u64 r15, .slice r16a r16n r16c] fun p1 =>
 .new 70 [.int .i64 m0, .int .i64 m1, .int .i64 m2, .int .u64 m3, .int .u64 m4, .int .u64 m5, .slice m6a m6n m6c, .int .u64 m7, .int .u64 m8, .bool m9, .int .u64 m10, .int .u64 m11, .slice m12a m12n m12c, .int .i64 m13, .int .i64 m14, .int .u64 m15, .string m16, .string m17, .int .u64 m18, .int .i64 m19, .string m20] fun p2 =>
 .call 22 ([]) fun v3 =>
 .exB fun b4 =>
 .isL [v3] [.bool b4] <|
 bif !b4 then
  (.ret (.bool false))
 else
 (.load ⟨p1, 0, none⟩ 17 fun v5 =>
 .exI fun i6 =>
 .exI fun i7 =>
 .exI fun i8 =>
 .exI fun i9 =>
 .exI fun i10 =>
 .exI fun i11 =>
 .exS fun a12 n12 c12 =>
 .exS fun a13 n13 c13 =>
 .exI fun i14 =>
 .exI fun i15 =>
 .exI fun i16 =>
 .exS fun a17 n17 c17 =>
 .exS fun a18 n18 c18 =>
 .exS fun a19 n19 c19 =>
 .exS fun a20 n20 c20 =>
 .exI fun i21 =>
 .exS fun a22 n22 c22 =>
 .isL v5 [.int .u64 i6, .int .i64 i7, .int .i64 i8, .int .i64 i9, .int .u64 i10, .int .u64 i11, .slice a12 n12 c12, .slice a13 n13 c13, .int .u64 i14, .int .i64 i15, .int .i64 i16, .slice a17 n17 c17, .slice a18 n18 c18, .slice a19 n19 c19, .slice a20 n20 c20, .int .u64 i21, .slice a22 n22 c22] <|
 .call 30 ([.agg #[.int .u64 i6, .int .i64 i7, .int .i64 i8, .int .i64 i9, .int .u64 i10, .int .u64 i11, .slice a12 n12 c12, .slice a13 n13 c13, .int .u64 i14, .int .i64 i15, .int .i64 i16, .slice a17 n17 c17, .slice a18 n18 c18, .slice a19 n19 c19, .slice a20 n20 c20, .int .u64 i21, .slice a22 n22 c22]]) fun v23 =>
 .exB fun b24 =>
 .isL [v23] [.bool b24] <|
 bif !b24 then
  (.ret (.bool true))
 else
 (.load ⟨p2, 0, none⟩ 21 fun v25 =>
 .exI fun i26 =>
 .exI fun i27 =>
 .exI fun i28 =>
 .exI fun i29 =>
 .exI fun i30 =>
 .exI fun i31 =>
 .exS fun a32 n32 c32 =>
 .exI fun i33 =>
 .exI fun i34 =>
 .exB fun b35 =>
 .exI fun i36 =>
 .exI fun i37 =>
 .exS fun a38 n38 c38 =>
 .exI fun i39 =>
 .exI fun i40 =>
 .exI fun i41 =>
 .exT fun s42 =>
 .exT fun s43 =>
 .exI fun i44 =>
 .exI fun i45 =>
 .exT fun s46 =>
 .isL v25 [.int .i64 i26, .int .i64 i27, .int .i64 i28, .int .u64 i29, .int .u64 i30, .int .u64 i31, .slice a32 n32 c32, .int .u64 i33, .int .u64 i34, .bool b35, .int .u64 i36, .int .u64 i37, .slice a38 n38 c38, .int .i64 i39, .int .i64 i40, .int .u64 i41, .string s42, .string s43, .int .u64 i44, .int .i64 i45, .string s46] <|
 .call 35 ([.agg #[.int .i64 i26, .int .i64 i27, .int .i64 i28, .int .u64 i29, .int .u64 i30, .int .u64 i31, .slice a32 n32 c32, .int .u64 i33, .int .u64 i34, .bool b35, .int .u64 i36, .int .u64 i37, .slice a38 n38 c38, .int .i64 i39, .int .i64 i40, .int .u64 i41, .string s42, .string s43, .int .u64 i44, .int .i64 i45, .string s46]]) fun v47 =>
 .exB fun b48 =>
 .isL [v47] [.bool b48] <|
 bif !b48 then
  (.ret (.bool true))
 else
 (bif (decide ((↑datan : Int) > 60)) then
  (.ret (.bool true))
 else
 (.load ⟨p1, 0, none⟩ 17 fun v49 =>
 .exI fun i50 =>
 .exI fun i51 =>
 .exI fun i52 =>
 .exI fun i53 =>
 .exI fun i54 =>
 .exI fun i55 =>
 .exS fun a56 n56 c56 =>
 .exS fun a57 n57 c57 =>
 .exI fun i58 =>
 .exI fun i59 =>
 .exI fun i60 =>
 .exS fun a61 n61 c61 =>
 .exS fun a62 n62 c62 =>
 .exS fun a63 n63 c63 =>
 .exS fun a64 n64 c64 =>
 .exI fun i65 =>
 .exS fun a66 n66 c66 =>
 .isL v49 [.int .u64 i50, .int .i64 i51, .int .i64 i52, .int .i64 i53, .int .u64 i54, .int .u64 i55, .slice a56 n56 c56, .slice a57 n57 c57, .int .u64 i58, .int .i64 i59, .int .i64 i60, .slice a61 n61 c61, .slice a62 n62 c62, .slice a63 n63 c63, .slice a64 n64 c64, .int .u64 i65, .slice a66 n66 c66] <|
 .load ⟨p2, 0, none⟩ 21 fun v67 =>
 .exI fun i68 =>
 .exI fun i69 =>
 .exI fun i70 =>
 .exI fun i71 =>
 .exI fun i72 =>
 .exI fun i73 =>
 .exS fun a74 n74 c74 =>
 .exI fun i75 =>
 .exI fun i76 =>
 .exB fun b77 =>
 .exI fun i78 =>
 .exI fun i79 =>
 .exS fun a80 n80 c80 =>
 .exI fun i81 =>
 .exI fun i82 =>
 .exI fun i83 =>
 .exT fun s84 =>
 .exT fun s85 =>
 .exI fun i86 =>
 .exI fun i87 =>
 .exT fun s88 =>
 .isL v67 [.int .i64 i68, .int .i64 i69, .int .i64 i70, .int .u64 i71, .int .u64 i72, .int .u64 i73, .slice a74 n74 c74, .int .u64 i75, .int .u64 i76, .bool b77, .int .u64 i78, .int .u64 i79, .slice a80 n80 c80, .int .i64 i81, .int .i64 i82, .int .u64 i83, .string s84, .string s85, .int .u64 i86, .int .i64 i87, .string s88] <|
 .call 38 ([.agg #[.int .u64 i50, .int .i64 i51, .int .i64 i52, .int .i64 i53, .int .u64 i54, .int .u64 i55, .slice a56 n56 c56, .slice a57 n57 c57, .int .u64 i58, .int .i64 i59, .int .i64 i60, .slice a61 n61 c61, .slice a62 n62 c62, .slice a63 n63 c63, .slice a64 n64 c64, .int .u64 i65, .slice a66 n66 c66], .agg #[.int .i64 i68, .int .i64 i69, .int .i64 i70, .int .u64 i71, .int .u64 i72, .int .u64 i73, .slice a74 n74 c74, .int .u64 i75, .int .u64 i76, .bool b77, .int .u64 i78, .int .u64 i79, .slice a80 n80 c80, .int .i64 i81, .int .i64 i82, .int .u64 i83, .string s84, .string s85, .int .u64 i86, .int .i64 i87, .string s88]]) fun v89 =>
 .exI fun i90 =>
 .exI fun i91 =>
 .exI fun i92 =>
 .exI fun i93 =>
 .exI fun i94 =>
 .exI fun i95 =>
 .exS fun a96 n96 c96 =>
 .exS fun a97 n97 c97 =>
 .exI fun i98 =>
 .exI fun i99 =>
 .exI fun i100 =>
 .exS fun a101 n101 c101 =>
 .exS fun a102 n102 c102 =>
 .exS fun a103 n103 c103 =>
 .exS fun a104 n104 c104 =>
 .exI fun i105 =>
 .exS fun a106 n106 c106 =>
 .exS fun a107 n107 c107 =>
 .exS fun a108 n108 c108 =>
 .exS fun a109 n109 c109 =>
 .isL [v89] [.tuple #[.agg #[.int .u64 i90, .int .i64 i91, .int .i64 i92, .int .i64 i93, .int .u64 i94, .int .u64 i95, .slice a96 n96 c96, .slice a97 n97 c97, .int .u64 i98, .int .i64 i99, .int .i64 i100, .slice a101 n101 c101, .slice a102 n102 c102, .slice a103 n103 c103, .slice a104 n104 c104, .int .u64 i105, .slice a106 n106 c106], .agg #[.slice a107 n107 c107, .slice a108 n108 c108, .slice a109 n109 c109]]] <|
 .new 36 [.int .u64 0, .int .i64 0, .int .i64 0, .int .i64 0, .int .u64 0, .int .u64 0, .slice none 0 0, .slice none 0 0, .int .u64 0, .int .i64 0, .int .i64 0, .slice none 0 0, .slice none 0 0, .slice none 0 0, .slice none 0 0, .int .u64 0, .slice none 0 0] fun p110 =>
 .new 48 [.slice none 0 0, .slice none 0 0, .slice none 0 0] fun p111 =>
 .store ⟨p110, 0, none⟩ [.int .u64 i90, .int .i64 i91, .int .i64 i92, .int .i64 i93, .int .u64 i94, .int .u64 i95, .slice a96 n96 c96, .slice a97 n97 c97, .int .u64 i98, .int .i64 i99, .int .i64 i100, .slice a101 n101 c101, .slice a102 n102 c102, .slice a103 n103 c103, .slice a104 n104 c104, .int .u64 i105, .slice a106 n106 c106] <|
 .store ⟨p111, 0, none⟩ [.slice a107 n107 c107, .slice a108 n108 c108, .slice a109 n109 c109] <|
 .load ⟨p1, 0, none⟩ 17 fun v112 =>
 .exI fun i113 =>
 .exI fun i114 =>
 .exI fun i115 =>
 .exI fun i116 =>
 .exI fun i117 =>
 .exI fun i118 =>
 .exS fun a119 n119 c119 =>
 .exS fun a120 n120 c120 =>
 .exI fun i121 =>
 .exI fun i122 =>
 .exI fun i123 =>
 .exS fun a124 n124 c124 =>
 .exS fun a125 n125 c125 =>
 .exS fun a126 n126 c126 =>
 .exS fun a127 n127 c127 =>
 .exI fun i128 =>
 .exS fun a129 n129 c129 =>
 .isL v112 [.int .u64 i113, .int .i64 i114, .int .i64 i115, .int .i64 i116, .int .u64 i117, .int .u64 i118, .slice a119 n119 c119, .slice a120 n120 c120, .int .u64 i121, .int .i64 i122, .int .i64 i123, .slice a124 n124 c124, .slice a125 n125 c125, .slice a126 n126 c126, .slice a127 n127 c127, .int .u64 i128, .slice a129 n129 c129] <|
 .call 32 ([.agg #[.int .u64 i113, .int .i64 i114, .int .i64 i115, .int .i64 i116, .int .u64 i117, .int .u64 i118, .slice a119 n119 c119, .slice a120 n120 c120, .int .u64 i121, .int .i64 i122, .int .i64 i123, .slice a124 n124 c124, .slice a125 n125 c125, .slice a126 n126 c126, .slice a127 n127 c127, .int .u64 i128, .slice a129 n129 c129]]) fun v130 =>
 .exI fun i131 =>
 .exI fun i132 =>
 .exI fun i133 =>
 .exI fun i134 =>
 .exI fun i135 =>
 .exI fun i136 =>
 .exS fun a137 n137 c137 =>
 .exS fun a138 n138 c138 =>
 .exI fun i139 =>
 .exI fun i140 =>
 .exI fun i141 =>
 .exS fun a142 n142 c142 =>
 .exS fun a143 n143 c143 =>
 .exS fun a144 n144 c144 =>
 .exS fun a145 n145 c145 =>
 .exI fun i146 =>
 .exS fun a147 n147 c147 =>
 .exS fun a148 n148 c148 =>
 .exS fun a149 n149 c149 =>
 .exS fun a150 n150 c150 =>
 .isL [v130] [.tuple #[.agg #[.int .u64 i131, .int .i64 i132, .int .i64 i133, .int .i64 i134, .int .u64 i135, .int .u64 i136, .slice a137 n137 c137, .slice a138 n138 c138, .int .u64 i139, .int .i64 i140, .int .i64 i141, .slice a142 n142 c142, .slice a143 n143 c143, .slice a144 n144 c144, .slice a145 n145 c145, .int .u64 i146, .slice a147 n147 c147], .agg #[.slice a148 n148 c148, .slice a149 n149 c149, .slice a150 n150 c150]]] <|
 .new 36 [.int .u64 0, .int .i64 0, .int .i64 0, .int .i64 0, .int .u64 0, .int .u64 0, .slice none 0 0, .slice none 0 0, .int .u64 0, .int .i64 0, .int .i64 0, .slice none 0 0, .slice none 0 0, .slice none 0 0, .slice none 0 0, .int .u64 0, .slice none 0 0] fun p151 =>
 .new 48 [.slice none 0 0, .slice none 0 0, .slice none 0 0] fun p152 =>
 .store ⟨p151, 0, none⟩ [.int .u64 i131, .int .i64 i132, .int .i64 i133, .int .i64 i134, .int .u64 i135, .int .u64 i136, .slice a137 n137 c137, .slice a138 n138 c138, .int .u64 i139, .int .i64 i140, .int .i64 i141, .slice a142 n142 c142, .slice a143 n143 c143, .slice a144 n144 c144, .slice a145 n145 c145, .int .u64 i146, .slice a147 n147 c147] <|
 .store ⟨p152, 0, none⟩ [.slice a148 n148 c148, .slice a149 n149 c149, .slice a150 n150 c150] <|
 .load ⟨p1, 0, none⟩ 17 fun v153 =>
 .exI fun i154 =>
 .exI fun i155 =>
 .exI fun i156 =>
 .exI fun i157 =>
 .exI fun i158 =>
 .exI fun i159 =>
 .exS fun a160 n160 c160 =>
 .exS fun a161 n161 c161 =>
 .exI fun i162 =>
 .exI fun i163 =>
 .exI fun i164 =>
 .exS fun a165 n165 c165 =>
 .exS fun a166 n166 c166 =>
 .exS fun a167 n167 c167 =>
 .exS fun a168 n168 c168 =>
 .exI fun i169 =>
 .exS fun a170 n170 c170 =>
 .isL v153 [.int .u64 i154, .int .i64 i155, .int .i64 i156, .int .i64 i157, .int .u64 i158, .int .u64 i159, .slice a160 n160 c160, .slice a161 n161 c161, .int .u64 i162, .int .i64 i163, .int .i64 i164, .slice a165 n165 c165, .slice a166 n166 c166, .slice a167 n167 c167, .slice a168 n168 c168, .int .u64 i169, .slice a170 n170 c170] <|
 .call 33 ([.agg #[.int .u64 i154, .int .i64 i155, .int .i64 i156, .int .i64 i157, .int .u64 i158, .int .u64 i159, .slice a160 n160 c160, .slice a161 n161 c161, .int .u64 i162, .int .i64 i163, .int .i64 i164, .slice a165 n165 c165, .slice a166 n166 c166, .slice a167 n167 c167, .slice a168 n168 c168, .int .u64 i169, .slice a170 n170 c170], .slice dataa datan datac]) fun v171 =>
 .exI fun i172 =>
 .exI fun i173 =>
 .exI fun i174 =>
 .exI fun i175 =>
 .exI fun i176 =>
 .exI fun i177 =>
 .exS fun a178 n178 c178 =>
 .exS fun a179 n179 c179 =>
 .exI fun i180 =>
 .exI fun i181 =>
 .exI fun i182 =>
 .exS fun a183 n183 c183 =>
 .exS fun a184 n184 c184 =>
 .exS fun a185 n185 c185 =>
 .exS fun a186 n186 c186 =>
 .exI fun i187 =>
 .exS fun a188 n188 c188 =>
 .exS fun a189 n189 c189 =>
 .exS fun a190 n190 c190 =>
 .exS fun a191 n191 c191 =>
 .exB fun b192 =>
 .isL [v171] [.tuple #[.agg #[.int .u64 i172, .int .i64 i173, .int .i64 i174, .int .i64 i175, .int .u64 i176, .int .u64 i177, .slice a178 n178 c178, .slice a179 n179 c179, .int .u64 i180, .int .i64 i181, .int .i64 i182, .slice a183 n183 c183, .slice a184 n184 c184, .slice a185 n185 c185, .slice a186 n186 c186, .int .u64 i187, .slice a188 n188 c188], .agg #[.slice a189 n189 c189, .slice a190 n190 c190, .slice a191 n191 c191], .bool b192]] <|
 .new 36 [.int .u64 0, .int .i64 0, .int .i64 0, .int .i64 0, .int .u64 0, .int .u64 0, .slice none 0 0, .slice none 0 0, .int .u64 0, .int .i64 0, .int .i64 0, .slice none 0 0, .slice none 0 0, .slice none 0 0, .slice none 0 0, .int .u64 0, .slice none 0 0] fun p193 =>
 .new 48 [.slice none 0 0, .slice none 0 0, .slice none 0 0] fun p194 =>
 .store ⟨p193, 0, none⟩ [.int .u64 i172, .int .i64 i173, .int .i64 i174, .int .i64 i175, .int .u64 i176, .int .u64 i177, .slice a178 n178 c178, .slice a179 n179 c179, .int .u64 i180, .int .i64 i181, .int .i64 i182, .slice a183 n183 c183, .slice a184 n184 c184, .slice a185 n185 c185, .slice a186 n186 c186, .int .u64 i187, .slice a188 n188 c188] <|
 .store ⟨p194, 0, none⟩ [.slice a189 n189 c189, .slice a190 n190 c190, .slice a191 n191 c191] <|
 .load ⟨p1, 0, none⟩ 17 fun v195 =>
 .exI fun i196 =>
 .exI fun i197 =>
 .exI fun i198 =>
 .exI fun i199 =>
 .exI fun i200 =>
 .exI fun i201 =>
 .exS fun a202 n202 c202 =>
 .exS fun a203 n203 c203 =>
 .exI fun i204 =>
 .exI fun i205 =>
 .exI fun i206 =>
 .exS fun a207 n207 c207 =>
 .exS fun a208 n208 c208 =>
 .exS fun a209 n209 c209 =>
 .exS fun a210 n210 c210 =>
 .exI fun i211 =>
 .exS fun a212 n212 c212 =>
 .isL v195 [.int .u64 i196, .int .i64 i197, .int .i64 i198, .int .i64 i199, .int .u64 i200, .int .u64 i201, .slice a202 n202 c202, .slice a203 n203 c203, .int .u64 i204, .int .i64 i205, .int .i64 i206, .slice a207 n207 c207, .slice a208 n208 c208, .slice a209 n209 c209, .slice a210 n210 c210, .int .u64 i211, .slice a212 n212 c212] <|
 .call 31 ([.agg #[.int .u64 i196, .int .i64 i197, .int .i64 i198, .int .i64 i199, .int .u64 i200, .int .u64 i201, .slice a202 n202 c202, .slice a203 n203 c203, .int .u64 i204, .int .i64 i205, .int .i64 i206, .slice a207 n207 c207, .slice a208 n208 c208, .slice a209 n209 c209, .slice a210 n210 c210, .int .u64 i211, .slice a212 n212 c212], .slice dataa datan datac]) fun v213 =>
 .exI fun i214 =>
 .exI fun i215 =>
 .exI fun i216 =>
 .exI fun i217 =>
 .exI fun i218 =>
 .exI fun i219 =>
 .exS fun a220 n220 c220 =>
 .exS fun a221 n221 c221 =>
 .exI fun i222 =>
 .exI fun i223 =>
 .exI fun i224 =>
 .exS fun a225 n225 c225 =>
 .exS fun a226 n226 c226 =>
 .exS fun a227 n227 c227 =>
 .exS fun a228 n228 c228 =>
 .exI fun i229 =>
 .exS fun a230 n230 c230 =>
 .exS fun a231 n231 c231 =>
 .exS fun a232 n232 c232 =>
 .exS fun a233 n233 c233 =>
 .isL [v213] [.tuple #[.agg #[.int .u64 i214, .int .i64 i215, .int .i64 i216, .int .i64 i217, .int .u64 i218, .int .u64 i219, .slice a220 n220 c220, .slice a221 n221 c221, .int .u64 i222, .int .i64 i223, .int .i64 i224, .slice a225 n225 c225, .slice a226 n226 c226, .slice a227 n227 c227, .slice a228 n228 c228, .int .u64 i229, .slice a230 n230 c230], .agg #[.slice a231 n231 c231, .slice a232 n232 c232, .slice a233 n233 c233]]] <|
 .new 36 [.int .u64 0, .int .i64 0, .int .i64 0, .int .i64 0, .int .u64 0, .int .u64 0, .slice none 0 0, .slice none 0 0, .int .u64 0, .int .i64 0, .int .i64 0, .slice none 0 0, .slice none 0 0, .slice none 0 0, .slice none 0 0, .int .u64 0, .slice none 0 0] fun p234 =>
 .new 48 [.slice none 0 0, .slice none 0 0, .slice none 0 0] fun p235 =>
 .store ⟨p234, 0, none⟩ [.int .u64 i214, .int .i64 i215, .int .i64 i216, .int .i64 i217, .int .u64 i218, .int .u64 i219, .slice a220 n220 c220, .slice a221 n221 c221, .int .u64 i222, .int .i64 i223, .int .i64 i224, .slice a225 n225 c225, .slice a226 n226 c226, .slice a227 n227 c227, .slice a228 n228 c228, .int .u64 i229, .slice a230 n230 c230] <|
 .store ⟨p235, 0, none⟩ [.slice a231 n231 c231, .slice a232 n232 c232, .slice a233 n233 c233] <|
 .load ⟨p1, 9, none⟩ 1 fun v236 =>
 .exI fun i237 =>
 .isL v236 [.int .i64 i237] <|
 bif (i237 != 2) then
  (.load ⟨p1, 0, none⟩ 17 fun v238 =>
  .exI fun i239 =>
  .exI fun i240 =>
  .exI fun i241 =>
  .exI fun i242 =>
  .exI fun i243 =>
  .exI fun i244 =>
  .exS fun a245 n245 c245 =>
  .exS fun a246 n246 c246 =>
  .exI fun i247 =>
  .exI fun i248 =>
  .exI fun i249 =>
  .exS fun a250 n250 c250 =>
  .exS fun a251 n251 c251 =>
  .exS fun a252 n252 c252 =>
  .exS fun a253 n253 c253 =>
  .exI fun i254 =>
  .exS fun a255 n255 c255 =>
  .isL v238 [.int .u64 i239, .int .i64 i240, .int .i64 i241, .int .i64 i242, .int .u64 i243, .int .u64 i244, .slice a245 n245 c245, .slice a246 n246 c246, .int .u64 i247, .int .i64 i248, .int .i64 i249, .slice a250 n250 c250, .slice a251 n251 c251, .slice a252 n252 c252, .slice a253 n253 c253, .int .u64 i254, .slice a255 n255 c255] <|
  .store ⟨p193, 0, none⟩ [.int .u64 i239, .int .i64 i240, .int .i64 i241, .int .i64 i242, .int .u64 i243, .int .u64 i244, .slice a245 n245 c245, .slice a246 n246 c246, .int .u64 i247, .int .i64 i248, .int .i64 i249, .slice a250 n250 c250, .slice a251 n251 c251, .slice a252 n252 c252, .slice a253 n253 c253, .int .u64 i254, .slice a255 n255 c255] <|
  .store ⟨p194, 0, none⟩ [.slice none 0 0, .slice none 0 0, .slice none 0 0] <|
  .load ⟨p1, 0, none⟩ 17 fun v256 =>
  .exI fun i257 =>
  .exI fun i258 =>
  .exI fun i259 =>
  .exI fun i260 =>
  .exI fun i261 =>
  .exI fun i262 =>
  .exS fun a263 n263 c263 =>
  .exS fun a264 n264 c264 =>
  .exI fun i265 =>
  .exI fun i266 =>
  .exI fun i267 =>
  .exS fun a268 n268 c268 =>
  .exS fun a269 n269 c269 =>
  .exS fun a270 n270 c270 =>
  .exS fun a271 n271 c271 =>
  .exI fun i272 =>
  .exS fun a273 n273 c273 =>
  .isL v256 [.int .u64 i257, .int .i64 i258, .int .i64 i259, .int .i64 i260, .int .u64 i261, .int .u64 i262, .slice a263 n263 c263, .slice a264 n264 c264, .int .u64 i265, .int .i64 i266, .int .i64 i267, .slice a268 n268 c268, .slice a269 n269 c269, .slice a270 n270 c270, .slice a271 n271 c271, .int .u64 i272, .slice a273 n273 c273] <|
  .load ⟨p110, 0, none⟩ 17 fun v274 =>
  .exI fun i275 =>
  .exI fun i276 =>
  .exI fun i277 =>
  .exI fun i278 =>
  .exI fun i279 =>
  .exI fun i280 =>
  .exS fun a281 n281 c281 =>
  .exS fun a282 n282 c282 =>
  .exI fun i283 =>
  .exI fun i284 =>
  .exI fun i285 =>
  .exS fun a286 n286 c286 =>
  .exS fun a287 n287 c287 =>
  .exS fun a288 n288 c288 =>
  .exS fun a289 n289 c289 =>
  .exI fun i290 =>
  .exS fun a291 n291 c291 =>
  .isL v274 [.int .u64 i275, .int .i64 i276, .int .i64 i277, .int .i64 i278, .int .u64 i279, .int .u64 i280, .slice a281 n281 c281, .slice a282 n282 c282, .int .u64 i283, .int .i64 i284, .int .i64 i285, .slice a286 n286 c286, .slice a287 n287 c287, .slice a288 n288 c288, .slice a289 n289 c289, .int .u64 i290, .slice a291 n291 c291] <|
  .load ⟨p111, 0, none⟩ 3 fun v292 =>
  .exS fun a293 n293 c293 =>
  .exS fun a294 n294 c294 =>
  .exS fun a295 n295 c295 =>
  .isL v292 [.slice a293 n293 c293, .slice a294 n294 c294, .slice a295 n295 c295] <|
  .call 45 ([.agg #[.int .u64 i257, .int .i64 i258, .int .i64 i259, .int .i64 i260, .int .u64 i261, .int .u64 i262, .slice a263 n263 c263, .slice a264 n264 c264, .int .u64 i265, .int .i64 i266, .int .i64 i267, .slice a268 n268 c268, .slice a269 n269 c269, .slice a270 n270 c270, .slice a271 n271 c271, .int .u64 i272, .slice a273 n273 c273], .agg #[.int .u64 i275, .int .i64 i276, .int .i64 i277, .int .i64 i278, .int .u64 i279, .int .u64 i280, .slice a281 n281 c281, .slice a282 n282 c282, .int .u64 i283, .int .i64 i284, .int .i64 i285, .slice a286 n286 c286, .slice a287 n287 c287, .slice a288 n288 c288, .slice a289 n289 c289, .int .u64 i290, .slice a291 n291 c291], .agg #[.slice a293 n293 c293, .slice a294 n294 c294, .slice a295 n295 c295]]) fun v296 =>
  .exB fun b297 =>
  .isL [v296] [.bool b297] <|
  bif b297 then
   (.load ⟨p1, 0, none⟩ 17 fun v298 =>
   .exI fun i299 =>
   .exI fun i300 =>
   .exI fun i301 =>
   .exI fun i302 =>
   .exI fun i303 =>
   .exI fun i304 =>
   .exS fun a305 n305 c305 =>
   .exS fun a306 n306 c306 =>
   .exI fun i307 =>
   .exI fun i308 =>
   .exI fun i309 =>
   .exS fun a310 n310 c310 =>
   .exS fun a311 n311 c311 =>
   .exS fun a312 n312 c312 =>
   .exS fun a313 n313 c313 =>
   .exI fun i314 =>
   .exS fun a315 n315 c315 =>
   .isL v298 [.int .u64 i299, .int .i64 i300, .int .i64 i301, .int .i64 i302, .int .u64 i303, .int .u64 i304, .slice a305 n305 c305, .slice a306 n306 c306, .int .u64 i307, .int .i64 i308, .int .i64 i309, .slice a310 n310 c310, .slice a311 n311 c311, .slice a312 n312 c312, .slice a313 n313 c313, .int .u64 i314, .slice a315 n315 c315] <|
   .load ⟨p151, 0, none⟩ 17 fun v316 =>
   .exI fun i317 =>
   .exI fun i318 =>
   .exI fun i319 =>
   .exI fun i320 =>
   .exI fun i321 =>
   .exI fun i322 =>
   .exS fun a323 n323 c323 =>
   .exS fun a324 n324 c324 =>
   .exI fun i325 =>
   .exI fun i326 =>
   .exI fun i327 =>
   .exS fun a328 n328 c328 =>
   .exS fun a329 n329 c329 =>
   .exS fun a330 n330 c330 =>
   .exS fun a331 n331 c331 =>
   .exI fun i332 =>
   .exS fun a333 n333 c333 =>
   .isL v316 [.int .u64 i317, .int .i64 i318, .int .i64 i319, .int .i64 i320, .int .u64 i321, .int .u64 i322, .slice a323 n323 c323, .slice a324 n324 c324, .int .u64 i325, .int .i64 i326, .int .i64 i327, .slice a328 n328 c328, .slice a329 n329 c329, .slice a330 n330 c330, .slice a331 n331 c331, .int .u64 i332, .slice a333 n333 c333] <|
   .load ⟨p152, 0, none⟩ 3 fun v334 =>
   .exS fun a335 n335 c335 =>
   .exS fun a336 n336 c336 =>
   .exS fun a337 n337 c337 =>
   .isL v334 [.slice a335 n335 c335, .slice a336 n336 c336, .slice a337 n337 c337] <|
   .call 45 ([.agg #[.int .u64 i299, .int .i64 i300, .int .i64 i301, .int .i64 i302, .int .u64 i303, .int .u64 i304, .slice a305 n305 c305, .slice a306 n306 c306, .int .u64 i307, .int .i64 i308, .int .i64 i309, .slice a310 n310 c310, .slice a311 n311 c311, .slice a312 n312 c312, .slice a313 n313 c313, .int .u64 i314, .slice a315 n315 c315], .agg #[.int .u64 i317, .int .i64 i318, .int .i64 i319, .int .i64 i320, .int .u64 i321, .int .u64 i322, .slice a323 n323 c323, .slice a324 n324 c324, .int .u64 i325, .int .i64 i326, .int .i64 i327, .slice a328 n328 c328, .slice a329 n329 c329, .slice a330 n330 c330, .slice a331 n331 c331, .int .u64 i332, .slice a333 n333 c333], .agg #[.slice a335 n335 c335, .slice a336 n336 c336, .slice a337 n337 c337]]) fun v338 =>
   .exB fun b339 =>
   .isL [v338] [.bool b339] <|
   bif b339 then
    (.load ⟨p1, 0, none⟩ 17 fun v340 =>
    .exI fun i341 =>
    .exI fun i342 =>
    .exI fun i343 =>
    .exI fun i344 =>
    .exI fun i345 =>
    .exI fun i346 =>
    .exS fun a347 n347 c347 =>
    .exS fun a348 n348 c348 =>
    .exI fun i349 =>
    .exI fun i350 =>
    .exI fun i351 =>
    .exS fun a352 n352 c352 =>
    .exS fun a353 n353 c353 =>
    .exS fun a354 n354 c354 =>
    .exS fun a355 n355 c355 =>
    .exI fun i356 =>
    .exS fun a357 n357 c357 =>
    .isL v340 [.int .u64 i341, .int .i64 i342, .int .i64 i343, .int .i64 i344, .int .u64 i345, .int .u64 i346, .slice a347 n347 c347, .slice a348 n348 c348, .int .u64 i349, .int .i64 i350, .int .i64 i351, .slice a352 n352 c352, .slice a353 n353 c353, .slice a354 n354 c354, .slice a355 n355 c355, .int .u64 i356, .slice a357 n357 c357] <|
    .load ⟨p193, 0, none⟩ 17 fun v358 =>
    .exI fun i359 =>
    .exI fun i360 =>
    .exI fun i361 =>
    .exI fun i362 =>
    .exI fun i363 =>
    .exI fun i364 =>
    .exS fun a365 n365 c365 =>
    .exS fun a366 n366 c366 =>
    .exI fun i367 =>
    .exI fun i368 =>
    .exI fun i369 =>
    .exS fun a370 n370 c370 =>
    .exS fun a371 n371 c371 =>
    .exS fun a372 n372 c372 =>
    .exS fun a373 n373 c373 =>
    .exI fun i374 =>
    .exS fun a375 n375 c375 =>
    .isL v358 [.int .u64 i359, .int .i64 i360, .int .i64 i361, .int .i64 i362, .int .u64 i363, .int .u64 i364, .slice a365 n365 c365, .slice a366 n366 c366, .int .u64 i367, .int .i64 i368, .int .i64 i369, .slice a370 n370 c370, .slice a371 n371 c371, .slice a372 n372 c372, .slice a373 n373 c373, .int .u64 i374, .slice a375 n375 c375] <|
    .load ⟨p194, 0, none⟩ 3 fun v376 =>
    .exS fun a377 n377 c377 =>
    .exS fun a378 n378 c378 =>
    .exS fun a379 n379 c379 =>
    .isL v376 [.slice a377 n377 c377, .slice a378 n378 c378, .slice a379 n379 c379] <|
    .call 45 ([.agg #[.int .u64 i341, .int .i64 i342, .int .i64 i343, .int .i64 i344, .int .u64 i345, .int .u64 i346, .slice a347 n347 c347, .slice a348 n348 c348, .int .u64 i349, .int .i64 i350, .int .i64 i351, .slice a352 n352 c352, .slice a353 n353 c353, .slice a354 n354 c354, .slice a355 n355 c355, .int .u64 i356, .slice a357 n357 c357], .agg #[.int .u64 i359, .int .i64 i360, .int .i64 i361, .int .i64 i362, .int .u64 i363, .int .u64 i364, .slice a365 n365 c365, .slice a366 n366 c366, .int .u64 i367, .int .i64 i368, .int .i64 i369, .slice a370 n370 c370, .slice a371 n371 c371, .slice a372 n372 c372, .slice a373 n373 c373, .int .u64 i374, .slice a375 n375 c375], .agg #[.slice a377 n377 c377, .slice a378 n378 c378, .slice a379 n379 c379]]) fun v380 =>
    .exB fun b381 =>
    .isL [v380] [.bool b381] <|
    bif b381 then
     (.load ⟨p1, 0, none⟩ 17 fun v382 =>
     .exI fun i383 =>
     .exI fun i384 =>
     .exI fun i385 =>
     .exI fun i386 =>
     .exI fun i387 =>
     .exI fun i388 =>
     .exS fun a389 n389 c389 =>
     .exS fun a390 n390 c390 =>
     .exI fun i391 =>
     .exI fun i392 =>
     .exI fun i393 =>
     .exS fun a394 n394 c394 =>
     .exS fun a395 n395 c395 =>
     .exS fun a396 n396 c396 =>
     .exS fun a397 n397 c397 =>
     .exI fun i398 =>
     .exS fun a399 n399 c399 =>
     .isL v382 [.int .u64 i383, .int .i64 i384, .int .i64 i385, .int .i64 i386, .int .u64 i387, .int .u64 i388, .slice a389 n389 c389, .slice a390 n390 c390, .int .u64 i391, .int .i64 i392, .int .i64 i393, .slice a394 n394 c394, .slice a395 n395 c395, .slice a396 n396 c396, .slice a397 n397 c397, .int .u64 i398, .slice a399 n399 c399] <|
     .load ⟨p234, 0, none⟩ 17 fun v400 =>
     .exI fun i401 =>
     .exI fun i402 =>
     .exI fun i403 =>
     .exI fun i404 =>
     .exI fun i405 =>
     .exI fun i406 =>
     .exS fun a407 n407 c407 =>
     .exS fun a408 n408 c408 =>
     .exI fun i409 =>
     .exI fun i410 =>
     .exI fun i411 =>
     .exS fun a412 n412 c412 =>
     .exS fun a413 n413 c413 =>
     .exS fun a414 n414 c414 =>
     .exS fun a415 n415 c415 =>
     .exI fun i416 =>
     .exS fun a417 n417 c417 =>
     .isL v400 [.int .u64 i401, .int .i64 i402, .int .i64 i403, .int .i64 i404, .int .u64 i405, .int .u64 i406, .slice a407 n407 c407, .slice a408 n408 c408, .int .u64 i409, .int .i64 i410, .int .i64 i411, .slice a412 n412 c412, .slice a413 n413 c413, .slice a414 n414 c414, .slice a415 n415 c415, .int .u64 i416, .slice a417 n417 c417] <|
     .load ⟨p235, 0, none⟩ 3 fun v418 =>
     .exS fun a419 n419 c419 =>
     .exS fun a420 n420 c420 =>
     .exS fun a421 n421 c421 =>
     .isL v418 [.slice a419 n419 c419, .slice a420 n420 c420, .slice a421 n421 c421] <|
     .call 45 ([.agg #[.int .u64 i383, .int .i64 i384, .int .i64 i385, .int .i64 i386, .int .u64 i387, .int .u64 i388, .slice a389 n389 c389, .slice a390 n390 c390, .int .u64 i391, .int .i64 i392, .int .i64 i393, .slice a394 n394 c394, .slice a395 n395 c395, .slice a396 n396 c396, .slice a397 n397 c397, .int .u64 i398, .slice a399 n399 c399], .agg #[.int .u64 i401, .int .i64 i402, .int .i64 i403, .int .i64 i404, .int .u64 i405, .int .u64 i406, .slice a407 n407 c407, .slice a408 n408 c408, .int .u64 i409, .int .i64 i410, .int .i64 i411, .slice a412 n412 c412, .slice a413 n413 c413, .slice a414 n414 c414, .slice a415 n415 c415, .int .u64 i416, .slice a417 n417 c417], .agg #[.slice a419 n419 c419, .slice a420 n420 c420, .slice a421 n421 c421]]) fun v422 =>
     .exB fun b423 =>
     .isL [v422] [.bool b423] <|
     .ret (.bool b423))
    else
    (.ret (.bool false)))
   else
   (.ret (.bool false)))
  else
  (.ret (.bool false)))
 else
 (.load ⟨p1, 0, none⟩ 17 fun v424 =>
 .exI fun i425 =>
 .exI fun i426 =>
 .exI fun i427 =>
 .exI fun i428 =>
 .exI fun i429 =>
 .exI fun i430 =>
 .exS fun a431 n431 c431 =>
 .exS fun a432 n432 c432 =>
 .exI fun i433 =>
 .exI fun i434 =>
 .exI fun i435 =>
 .exS fun a436 n436 c436 =>
 .exS fun a437 n437 c437 =>
 .exS fun a438 n438 c438 =>
 .exS fun a439 n439 c439 =>
 .exI fun i440 =>
 .exS fun a441 n441 c441 =>
 .isL v424 [.int .u64 i425, .int .i64 i426, .int .i64 i427, .int .i64 i428, .int .u64 i429, .int .u64 i430, .slice a431 n431 c431, .slice a432 n432 c432, .int .u64 i433, .int .i64 i434, .int .i64 i435, .slice a436 n436 c436, .slice a437 n437 c437, .slice a438 n438 c438, .slice a439 n439 c439, .int .u64 i440, .slice a441 n441 c441] <|
 .load ⟨p110, 0, none⟩ 17 fun v442 =>
 .exI fun i443 =>
 .exI fun i444 =>
 .exI fun i445 =>
 .exI fun i446 =>
 .exI fun i447 =>
 .exI fun i448 =>
 .exS fun a449 n449 c449 =>
 .exS fun a450 n450 c450 =>
 .exI fun i451 =>
 .exI fun i452 =>
 .exI fun i453 =>
 .exS fun a454 n454 c454 =>
 .exS fun a455 n455 c455 =>
 .exS fun a456 n456 c456 =>
 .exS fun a457 n457 c457 =>
 .exI fun i458 =>
 .exS fun a459 n459 c459 =>
 .isL v442 [.int .u64 i443, .int .i64 i444, .int .i64 i445, .int .i64 i446, .int .u64 i447, .int .u64 i448, .slice a449 n449 c449, .slice a450 n450 c450, .int .u64 i451, .int .i64 i452, .int .i64 i453, .slice a454 n454 c454, .slice a455 n455 c455, .slice a456 n456 c456, .slice a457 n457 c457, .int .u64 i458, .slice a459 n459 c459] <|
 .load ⟨p111, 0, none⟩ 3 fun v460 =>
 .exS fun a461 n461 c461 =>
 .exS fun a462 n462 c462 =>
 .exS fun a463 n463 c463 =>
 .isL v460 [.slice a461 n461 c461, .slice a462 n462 c462, .slice a463 n463 c463] <|
 .call 45 ([.agg #[.int .u64 i425, .int .i64 i426, .int .i64 i427, .int .i64 i428, .int .u64 i429, .int .u64 i430, .slice a431 n431 c431, .slice a432 n432 c432, .int .u64 i433, .int .i64 i434, .int .i64 i435, .slice a436 n436 c436, .slice a437 n437 c437, .slice a438 n438 c438, .slice a439 n439 c439, .int .u64 i440, .slice a441 n441 c441], .agg #[.int .u64 i443, .int .i64 i444, .int .i64 i445, .int .i64 i446, .int .u64 i447, .int .u64 i448, .slice a449 n449 c449, .slice a450 n450 c450, .int .u64 i451, .int .i64 i452, .int .i64 i453, .slice a454 n454 c454, .slice a455 n455 c455, .slice a456 n456 c456, .slice a457 n457 c457, .int .u64 i458, .slice a459 n459 c459], .agg #[.slice a461 n461 c461, .slice a462 n462 c462, .slice a463 n463 c463]]) fun v464 =>
 .exB fun b465 =>
 .isL [v464] [.bool b465] <|
 bif b465 then
  (.load ⟨p1, 0, none⟩ 17 fun v466 =>
  .exI fun i467 =>
  .exI fun i468 =>
  .exI fun i469 =>
  .exI fun i470 =>
  .exI fun i471 =>
  .exI fun i472 =>
  .exS fun a473 n473 c473 =>
  .exS fun a474 n474 c474 =>
  .exI fun i475 =>
  .exI fun i476 =>
  .exI fun i477 =>
  .exS fun a478 n478 c478 =>
  .exS fun a479 n479 c479 =>
  .exS fun a480 n480 c480 =>
  .exS fun a481 n481 c481 =>
  .exI fun i482 =>
  .exS fun a483 n483 c483 =>
  .isL v466 [.int .u64 i467, .int .i64 i468, .int .i64 i469, .int .i64 i470, .int .u64 i471, .int .u64 i472, .slice a473 n473 c473, .slice a474 n474 c474, .int .u64 i475, .int .i64 i476, .int .i64 i477, .slice a478 n478 c478, .slice a479 n479 c479, .slice a480 n480 c480, .slice a481 n481 c481, .int .u64 i482, .slice a483 n483 c483] <|
  .load ⟨p151, 0, none⟩ 17 fun v484 =>
  .exI fun i485 =>
  .exI fun i486 =>
  .exI fun i487 =>
  .exI fun i488 =>
  .exI fun i489 =>
  .exI fun i490 =>
  .exS fun a491 n491 c491 =>
  .exS fun a492 n492 c492 =>
  .exI fun i493 =>
  .exI fun i494 =>
  .exI fun i495 =>
  .exS fun a496 n496 c496 =>
  .exS fun a497 n497 c497 =>
  .exS fun a498 n498 c498 =>
  .exS fun a499 n499 c499 =>
  .exI fun i500 =>
  .exS fun a501 n501 c501 =>
  .isL v484 [.int .u64 i485, .int .i64 i486, .int .i64 i487, .int .i64 i488, .int .u64 i489, .int .u64 i490, .slice a491 n491 c491, .slice a492 n492 c492, .int .u64 i493, .int .i64 i494, .int .i64 i495, .slice a496 n496 c496, .slice a497 n497 c497, .slice a498 n498 c498, .slice a499 n499 c499, .int .u64 i500, .slice a501 n501 c501] <|
  .load ⟨p152, 0, none⟩ 3 fun v502 =>
  .exS fun a503 n503 c503 =>
  .exS fun a504 n504 c504 =>
  .exS fun a505 n505 c505 =>
  .isL v502 [.slice a503 n503 c503, .slice a504 n504 c504, .slice a505 n505 c505] <|
  .call 45 ([.agg #[.int .u64 i467, .int .i64 i468, .int .i64 i469, .int .i64 i470, .int .u64 i471, .int .u64 i472, .slice a473 n473 c473, .slice a474 n474 c474, .int .u64 i475, .int .i64 i476, .int .i64 i477, .slice a478 n478 c478, .slice a479 n479 c479, .slice a480 n480 c480, .slice a481 n481 c481, .int .u64 i482, .slice a483 n483 c483], .agg #[.int .u64 i485, .int .i64 i486, .int .i64 i487, .int .i64 i488, .int .u64 i489, .int .u64 i490, .slice a491 n491 c491, .slice a492 n492 c492, .int .u64 i493, .int .i64 i494, .int .i64 i495, .slice a496 n496 c496, .slice a497 n497 c497, .slice a498 n498 c498, .slice a499 n499 c499, .int .u64 i500, .slice a501 n501 c501], .agg #[.slice a503 n503 c503, .slice a504 n504 c504, .slice a505 n505 c505]]) fun v506 =>
  .exB fun b507 =>
  .isL [v506] [.bool b507] <|
  bif b507 then
   (.load ⟨p1, 0, none⟩ 17 fun v508 =>
   .exI fun i509 =>
   .exI fun i510 =>
   .exI fun i511 =>
   .exI fun i512 =>
   .exI fun i513 =>
   .exI fun i514 =>
   .exS fun a515 n515 c515 =>
   .exS fun a516 n516 c516 =>
   .exI fun i517 =>
   .exI fun i518 =>
   .exI fun i519 =>
   .exS fun a520 n520 c520 =>
   .exS fun a521 n521 c521 =>
   .exS fun a522 n522 c522 =>
   .exS fun a523 n523 c523 =>
   .exI fun i524 =>
   .exS fun a525 n525 c525 =>
   .isL v508 [.int .u64 i509, .int .i64 i510, .int .i64 i511, .int .i64 i512, .int .u64 i513, .int .u64 i514, .slice a515 n515 c515, .slice a516 n516 c516, .int .u64 i517, .int .i64 i518, .int .i64 i519, .slice a520 n520 c520, .slice a521 n521 c521, .slice a522 n522 c522, .slice a523 n523 c523, .int .u64 i524, .slice a525 n525 c525] <|
   .load ⟨p193, 0, none⟩ 17 fun v526 =>
   .exI fun i527 =>
   .exI fun i528 =>
   .exI fun i529 =>
   .exI fun i530 =>
   .exI fun i531 =>
   .exI fun i532 =>
   .exS fun a533 n533 c533 =>
   .exS fun a534 n534 c534 =>
   .exI fun i535 =>
   .exI fun i536 =>
   .exI fun i537 =>
   .exS fun a538 n538 c538 =>
   .exS fun a539 n539 c539 =>
   .exS fun a540 n540 c540 =>
   .exS fun a541 n541 c541 =>
   .exI fun i542 =>
   .exS fun a543 n543 c543 =>
   .isL v526 [.int .u64 i527, .int .i64 i528, .int .i64 i529, .int .i64 i530, .int .u64 i531, .int .u64 i532, .slice a533 n533 c533, .slice a534 n534 c534, .int .u64 i535, .int .i64 i536, .int .i64 i537, .slice a538 n538 c538, .slice a539 n539 c539, .slice a540 n540 c540, .slice a541 n541 c541, .int .u64 i542, .slice a543 n543 c543] <|
   .load ⟨p194, 0, none⟩ 3 fun v544 =>
   .exS fun a545 n545 c545 =>
   .exS fun a546 n546 c546 =>
   .exS fun a547 n547 c547 =>
   .isL v544 [.slice a545 n545 c545, .slice a546 n546 c546, .slice a547 n547 c547] <|
   .call 45 ([.agg #[.int .u64 i509, .int .i64 i510, .int .i64 i511, .int .i64 i512, .int .u64 i513, .int .u64 i514, .slice a515 n515 c515, .slice a516 n516 c516, .int .u64 i517, .int .i64 i518, .int .i64 i519, .slice a520 n520 c520, .slice a521 n521 c521, .slice a522 n522 c522, .slice a523 n523 c523, .int .u64 i524, .slice a525 n525 c525], .agg #[.int .u64 i527, .int .i64 i528, .int .i64 i529, .int .i64 i530, .int .u64 i531, .int .u64 i532, .slice a533 n533 c533, .slice a534 n534 c534, .int .u64 i535, .int .i64 i536, .int .i64 i537, .slice a538 n538 c538, .slice a539 n539 c539, .slice a540 n540 c540, .slice a541 n541 c541, .int .u64 i542, .slice a543 n543 c543], .agg #[.slice a545 n545 c545, .slice a546 n546 c546, .slice a547 n547 c547]]) fun v548 =>
   .exB fun b549 =>
   .isL [v548] [.bool b549] <|
   bif b549 then
    (.load ⟨p1, 0, none⟩ 17 fun v550 =>
    .exI fun i551 =>
    .exI fun i552 =>
    .exI fun i553 =>
    .exI fun i554 =>
    .exI fun i555 =>
    .exI fun i556 =>
    .exS fun a557 n557 c557 =>
    .exS fun a558 n558 c558 =>
    .exI fun i559 =>
    .exI fun i560 =>
    .exI fun i561 =>
    .exS fun a562 n562 c562 =>
    .exS fun a563 n563 c563 =>
    .exS fun a564 n564 c564 =>
    .exS fun a565 n565 c565 =>
    .exI fun i566 =>
    .exS fun a567 n567 c567 =>
    .isL v550 [.int .u64 i551, .int .i64 i552, .int .i64 i553, .int .i64 i554, .int .u64 i555, .int .u64 i556, .slice a557 n557 c557, .slice a558 n558 c558, .int .u64 i559, .int .i64 i560, .int .i64 i561, .slice a562 n562 c562, .slice a563 n563 c563, .slice a564 n564 c564, .slice a565 n565 c565, .int .u64 i566, .slice a567 n567 c567] <|
    .load ⟨p234, 0, none⟩ 17 fun v568 =>
    .exI fun i569 =>
    .exI fun i570 =>
    .exI fun i571 =>
    .exI fun i572 =>
    .exI fun i573 =>
    .exI fun i574 =>
    .exS fun a575 n575 c575 =>
    .exS fun a576 n576 c576 =>
    .exI fun i577 =>
    .exI fun i578 =>
    .exI fun i579 =>
    .exS fun a580 n580 c580 =>
    .exS fun a581 n581 c581 =>
    .exS fun a582 n582 c582 =>
    .exS fun a583 n583 c583 =>
    .exI fun i584 =>
    .exS fun a585 n585 c585 =>
    .isL v568 [.int .u64 i569, .int .i64 i570, .int .i64 i571, .int .i64 i572, .int .u64 i573, .int .u64 i574, .slice a575 n575 c575, .slice a576 n576 c576, .int .u64 i577, .int .i64 i578, .int .i64 i579, .slice a580 n580 c580, .slice a581 n581 c581, .slice a582 n582 c582, .slice a583 n583 c583, .int .u64 i584, .slice a585 n585 c585] <|
    .load ⟨p235, 0, none⟩ 3 fun v586 =>
    .exS fun a587 n587 c587 =>
    .exS fun a588 n588 c588 =>
    .exS fun a589 n589 c589 =>
    .isL v586 [.slice a587 n587 c587, .slice a588 n588 c588, .slice a589 n589 c589] <|
    .call 45 ([.agg #[.int .u64 i551, .int .i64 i552, .int .i64 i553, .int .i64 i554, .int .u64 i555, .int .u64 i556, .slice a557 n557 c557, .slice a558 n558 c558, .int .u64 i559, .int .i64 i560, .int .i64 i561, .slice a562 n562 c562, .slice a563 n563 c563, .slice a564 n564 c564, .slice a565 n565 c565, .int .u64 i566, .slice a567 n567 c567], .agg #[.int .u64 i569, .int .i64 i570, .int .i64 i571, .int .i64 i572, .int .u64 i573, .int .u64 i574, .slice a575 n575 c575, .slice a576 n576 c576, .int .u64 i577, .int .i64 i578, .int .i64 i579, .slice a580 n580 c580, .slice a581 n581 c581, .slice a582 n582 c582, .slice a583 n583 c583, .int .u64 i584, .slice a585 n585 c585], .agg #[.slice a587 n587 c587, .slice a588 n588 c588, .slice a589 n589 c589]]) fun v590 =>
    .exB fun b591 =>
    .isL [v590] [.bool b591] <|
    .ret (.bool b591))
   else
   (.ret (.bool false)))
  else
  (.ret (.bool false)))
 else
 (.ret (.bool false)))))))
theorem e8 (r0 : Int) (r1 : Int) (r2 : Int) (r3 : Int) (r4 : Int) (r5 : Int) (r6a : Option Addr) (r6n : Nat) (r6c : Nat) (r7a : Option Addr) (r7n : Nat) (r7c : Nat) (r8 : Int) (r9 : Int) (r10 : Int) (r11a : Option Addr) (r11n : Nat) (r11c : Nat) (r12a : Option Addr) (r12n : Nat) (r12c : Nat) (r13a : Option Addr) (r13n : Nat) (r13c : Nat) (r14a : Option Addr) (r14n : Nat) (r14c : Nat) (r15 : Int) (r16a : Option Addr) (r16n : Nat) (r16c : Nat) (m0 : Int) (m1 : Int) (m2 : Int) (m3 : Int) (m4 : Int) (m5 : Int) (m6a : Option Addr) (m6n : Nat) (m6c : Nat) (m7 : Int) (m8 : Int) (m9 : Bool) (m10 : Int) (m11 : Int) (m12a : Option Addr) (m12n : Nat) (m12c : Nat) (m13 : Int) (m14 : Int) (m15 : Int) (m16 : ByteArray) (m17 : ByteArray) (m18 : Int) (m19 : Int) (m20 : ByteArray) (dataa : Option Addr) (datan : Nat) (datac : Nat) : genFn Try.prog noM noM Try.f8 [.agg #[.int .u64 r0, .int .i64 r1, .int .i64 r2, .int .i64 r3, .int .u64 r4, .int .u64 r5, .slice r6a r6n r6c, .slice r7a r7n r7c, .int .u64 r8, .int .i64 r9, .int .i64 r10, .slice r11a r11n r11c, .slice r12a r12n r12c, .slice r13a r13n r13c, .slice r14a r14n r14c, .int .u64 r15, .slice r16a r16n r16c], .agg #[.int .i64 m0, .int .i64 m1, .int .i64 m2, .int .u64 m3, .int .u64 m4, .int .u64 m5, .slice m6a m6n m6c, .int .u64 m7, .int .u64 m8, .bool m9, .int .u64 m10, .int .u64 m11, .slice m12a m12n m12c, .int .i64 m13, .int .i64 m14, .int .u64 m15, .string m16, .string m17, .int .u64 m18, .int .i64 m19, .string m20], .slice dataa datan datac] = t8 r0 r1 r2 r3 r4 r5 r6a r6n r6c r7a r7n r7c r8 r9 r10 r11a r11n r11c r12a r12n r12c r13a r13n r13c r14a r14n r14c r15 r16a r16n r16c m0 m1 m2 m3 m4 m5 m6a m6n m6c m7 m8 m9 m10 m11 m12a m12n m12c m13 m14 m15 m16 m17 m18 m19 m20 dataa datan datac := by kernel_rfl
theorem r8 (r0 : Int) (r1 : Int) (r2 : Int) (r3 : Int) (r4 : Int) (r5 : Int) (r6a : Option Addr) (r6n : Nat) (r6c : Nat) (r7a : Option Addr) (r7n : Nat) (r7c : Nat) (r8 : Int) (r9 : Int) (r10 : Int) (r11a : Option Addr) (r11n : Nat) (r11c : Nat) (r12a : Option Addr) (r12n : Nat) (r12c : Nat) (r13a : Option Addr) (r13n : Nat) (r13c : Nat) (r14a : Option Addr) (r14n : Nat) (r14c : Nat) (r15 : Int) (r16a : Option Addr) (r16n : Nat) (r16c : Nat) (m0 : Int) (m1 : Int) (m2 : Int) (m3 : Int) (m4 : Int) (m5 : Int) (m6a : Option Addr) (m6n : Nat) (m6c : Nat) (m7 : Int) (m8 : Int) (m9 : Bool) (m10 : Int) (m11 : Int) (m12a : Option Addr) (m12n : Nat) (m12c : Nat) (m13 : Int) (m14 : Int) (m15 : Int) (m16 : ByteArray) (m17 : ByteArray) (m18 : Int) (m19 : Int) (m20 : ByteArray) (dataa : Option Addr) (datan : Nat) (datac : Nat) {R : Value → World → Prop} {w : World} (h : (t8 r0 r1 r2 r3 r4 r5 r6a r6n r6c r7a r7n r7c r8 r9 r10 r11a r11n r11c r12a r12n r12c r13a r13n r13c r14a r14n r14c r15 r16a r16n r16c m0 m1 m2 m3 m4 m5 m6a m6n m6c m7 m8 m9 m10 m11 m12a m12n m12c m13 m14 m15 m16 m17 m18 m19 m20 dataa datan datac).wp Try.prog R (fun _ _ _ => False) w) : Runs Try.prog 8 [.agg #[.int .u64 r0, .int .i64 r1, .int .i64 r2, .int .i64 r3, .int .u64 r4, .int .u64 r5, .slice r6a r6n r6c, .slice r7a r7n r7c, .int .u64 r8, .int .i64 r9, .int .i64 r10, .slice r11a r11n r11c, .slice r12a r12n r12c, .slice r13a r13n r13c, .slice r14a r14n r14c, .int .u64 r15, .slice r16a r16n r16c], .agg #[.int .i64 m0, .int .i64 m1, .int .i64 m2, .int .u64 m3, .int .u64 m4, .int .u64 m5, .slice m6a m6n m6c, .int .u64 m7, .int .u64 m8, .bool m9, .int .u64 m10, .int .u64 m11, .slice m12a m12n m12c, .int .i64 m13, .int .i64 m14, .int .u64 m15, .string m16, .string m17, .int .u64 m18, .int .i64 m19, .string m20], .slice dataa datan datac] w R :=
 genFn_runs mixed noM noM Try.func8 (by kernel_rfl) (by rw [e8]; exact h)
end Go.Proofs.Ytnbfffmdplcajaa
