/- The trees of verification conditions of functions 6: printed by a program of mine, checked here. -/
import Derived.Test.YtnbfffmdplcajaaTree0
set_option linter.unusedVariables false
set_option maxRecDepth 100000
namespace Go.Proofs.Ytnbfffmdplcajaa
open Go.Vc
def lv6 : Marks := (fun | some 13 => some [(19, .int .i64 0)] | some 16 => some [(20, .int .i64 0)] | some 22 => some [(21, .int .i64 0)] | some 26 => some [(22, .int .i64 0)] | _ => none)
def t6 (r0 : Int) (r1 : Int) (r2 : Int) (r3 : Int) (r4 : Int) (r5 : Int) (r6a : Option Addr) (r6n : Nat) (r6c : Nat) (r7a : Option Addr) (r7n : Nat) (r7c : Nat) (r8 : Int) (r9 : Int) (r10 : Int) (r11a : Option Addr) (r11n : Nat) (r11c : Nat) (r12a : Option Addr) (r12n : Nat) (r12c : Nat) (r13a : Option Addr) (r13n : Nat) (r13c : Nat) (r14a : Option Addr) (r14n : Nat) (r14c : Nat) (r15 : Int) (r16a : Option Addr) (r16n : Nat) (r16c : Nat) (m0 : Int) (m1 : Int) (m2 : Int) (m3 : Int) (m4 : Int) (m5 : Int) (m6a : Option Addr) (m6n : Nat) (m6c : Nat) (m7 : Int) (m8 : Int) (m9 : Bool) (m10 : Int) (m11 : Int) (m12a : Option Addr) (m12n : Nat) (m12c : Nat) (m13 : Int) (m14 : Int) (m15 : Int) (m16 : ByteArray) (m17 : ByteArray) (m18 : Int) (m19 : Int) (m20 : ByteArray) (dataa : Option Addr) (datan : Nat) (datac : Nat) : VC :=
 .new 36 [.int .u64 r0, .int .i64 r1, .int .i64 r2, .int .i64 r3, .int .u64 r4, .int .u64 r5, .slice r6a r6n r6c, .slice r7a r7n r7c, .int .u64 r8, .int .i64 r9, .int .i64 r10, .slice r11a r11n r11c, .slice r12a r12n r12c, .slice r13a r13n r13c, .slice r14a r14n r14c, .int .u64 r15, .slice r16a r16n r16c] fun p1 =>
 .new 70 [.int .i64 m0, .int .i64 m1, .int .i64 m2, .int .u64 m3, .int .u64 m4, .int .u64 m5, .slice m6a m6n m6c, .int .u64 m7, .int .u64 m8, .bool m9, .int .u64 m10, .int .u64 m11, .slice m12a m12n m12c, .int .i64 m13, .int .i64 m14, .int .u64 m15, .string m16, .string m17, .int .u64 m18, .int .i64 m19, .string m20] fun p2 =>
 .call 22 ([]) fun v3 =>
 .exB fun b4 =>
 .isL [v3] [.bool b4] <|
 bif !b4 then
  (.ret (.bool false))
 else
 (.load ⟨p1, 0, none⟩ 17 fun v5 =>
 .exI fun i6 =>
 .exI fun i7 =>
 .exI fun i8 =>
 .exI fun i9 =>
 .exI fun i10 =>
 .exI fun i11 =>
 .exS fun a12 n12 c12 =>
 .exS fun a13 n13 c13 =>
 .exI fun i14 =>
 .exI fun i15 =>
 .exI fun i16 =>
 .exS fun a17 n17 c17 =>
 .exS fun a18 n18 c18 =>
 .exS fun a19 n19 c19 =>
 .exS fun a20 n20 c20 =>
 .exI fun i21 =>
 .exS fun a22 n22 c22 =>
 .isL v5 [.int .u64 i6, .int .i64 i7, .int .i64 i8, .int .i64 i9, .int .u64 i10, .int .u64 i11, .slice a12 n12 c12, .slice a13 n13 c13, .int .u64 i14, .int .i64 i15, .int .i64 i16, .slice a17 n17 c17, .slice a18 n18 c18, .slice a19 n19 c19, .slice a20 n20 c20, .int .u64 i21, .slice a22 n22 c22] <|
 .call 30 ([.agg #[.int .u64 i6, .int .i64 i7, .int .i64 i8, .int .i64 i9, .int .u64 i10, .int .u64 i11, .slice a12 n12 c12, .slice a13 n13 c13, .int .u64 i14, .int .i64 i15, .int .i64 i16, .slice a17 n17 c17, .slice a18 n18 c18, .slice a19 n19 c19, .slice a20 n20 c20, .int .u64 i21, .slice a22 n22 c22]]) fun v23 =>
 .exB fun b24 =>
 .isL [v23] [.bool b24] <|
 bif !b24 then
  (.ret (.bool true))
 else
 (.load ⟨p2, 0, none⟩ 21 fun v25 =>
 .exI fun i26 =>
 .exI fun i27 =>
 .exI fun i28 =>
 .exI fun i29 =>
 .exI fun i30 =>
 .exI fun i31 =>
 .exS fun a32 n32 c32 =>
 .exI fun i33 =>
 .exI fun i34 =>
 .exB fun b35 =>
 .exI fun i36 =>
 .exI fun i37 =>
 .exS fun a38 n38 c38 =>
 .exI fun i39 =>
 .exI fun i40 =>
 .exI fun i41 =>
 .exT fun s42 =>
 .exT fun s43 =>
 .exI fun i44 =>
 .exI fun i45 =>
 .exT fun s46 =>
 .isL v25 [.int .i64 i26, .int .i64 i27, .int .i64 i28, .int .u64 i29, .int .u64 i30, .int .u64 i31, .slice a32 n32 c32, .int .u64 i33, .int .u64 i34, .bool b35, .int .u64 i36, .int .u64 i37, .slice a38 n38 c38, .int .i64 i39, .int .i64 i40, .int .u64 i41, .string s42, .string s43, .int .u64 i44, .int .i64 i45, .string s46] <|
 .call 35 ([.agg #[.int .i64 i26, .int .i64 i27, .int .i64 i28, .int .u64 i29, .int .u64 i30, .int .u64 i31, .slice a32 n32 c32, .int .u64 i33, .int .u64 i34, .bool b35, .int .u64 i36, .int .u64 i37, .slice a38 n38 c38, .int .i64 i39, .int .i64 i40, .int .u64 i41, .string s42, .string s43, .int .u64 i44, .int .i64 i45, .string s46]]) fun v47 =>
 .exB fun b48 =>
 .isL [v47] [.bool b48] <|
 bif !b48 then
  (.ret (.bool true))
 else
 (bif (decide ((↑datan : Int) > 60)) then
  (.ret (.bool true))
 else
 (.load ⟨p1, 0, none⟩ 17 fun v49 =>
 .exI fun i50 =>
 .exI fun i51 =>
 .exI fun i52 =>
 .exI fun i53 =>
 .exI fun i54 =>
 .exI fun i55 =>
 .exS fun a56 n56 c56 =>
 .exS fun a57 n57 c57 =>
 .exI fun i58 =>
 .exI fun i59 =>
 .exI fun i60 =>
 .exS fun a61 n61 c61 =>
 .exS fun a62 n62 c62 =>
 .exS fun a63 n63 c63 =>
 .exS fun a64 n64 c64 =>
 .exI fun i65 =>
 .exS fun a66 n66 c66 =>
 .isL v49 [.int .u64 i50, .int .i64 i51, .int .i64 i52, .int .i64 i53, .int .u64 i54, .int .u64 i55, .slice a56 n56 c56, .slice a57 n57 c57, .int .u64 i58, .int .i64 i59, .int .i64 i60, .slice a61 n61 c61, .slice a62 n62 c62, .slice a63 n63 c63, .slice a64 n64 c64, .int .u64 i65, .slice a66 n66 c66] <|
 .call 37 ([.agg #[.int .u64 i50, .int .i64 i51, .int .i64 i52, .int .i64 i53, .int .u64 i54, .int .u64 i55, .slice a56 n56 c56, .slice a57 n57 c57, .int .u64 i58, .int .i64 i59, .int .i64 i60, .slice a61 n61 c61, .slice a62 n62 c62, .slice a63 n63 c63, .slice a64 n64 c64, .int .u64 i65, .slice a66 n66 c66]]) fun v67 =>
 .exI fun i68 =>
 .exI fun i69 =>
 .exI fun i70 =>
 .exI fun i71 =>
 .exI fun i72 =>
 .exI fun i73 =>
 .exS fun a74 n74 c74 =>
 .exS fun a75 n75 c75 =>
 .exI fun i76 =>
 .exI fun i77 =>
 .exI fun i78 =>
 .exS fun a79 n79 c79 =>
 .exS fun a80 n80 c80 =>
 .exS fun a81 n81 c81 =>
 .exS fun a82 n82 c82 =>
 .exI fun i83 =>
 .exS fun a84 n84 c84 =>
 .isL [v67] [.agg #[.int .u64 i68, .int .i64 i69, .int .i64 i70, .int .i64 i71, .int .u64 i72, .int .u64 i73, .slice a74 n74 c74, .slice a75 n75 c75, .int .u64 i76, .int .i64 i77, .int .i64 i78, .slice a79 n79 c79, .slice a80 n80 c80, .slice a81 n81 c81, .slice a82 n82 c82, .int .u64 i83, .slice a84 n84 c84]] <|
 .call 36 ([.agg #[.int .u64 i68, .int .i64 i69, .int .i64 i70, .int .i64 i71, .int .u64 i72, .int .u64 i73, .slice a74 n74 c74, .slice a75 n75 c75, .int .u64 i76, .int .i64 i77, .int .i64 i78, .slice a79 n79 c79, .slice a80 n80 c80, .slice a81 n81 c81, .slice a82 n82 c82, .int .u64 i83, .slice a84 n84 c84]]) fun v85 =>
 .exI fun i86 =>
 .exI fun i87 =>
 .exI fun i88 =>
 .exI fun i89 =>
 .exI fun i90 =>
 .exI fun i91 =>
 .exS fun a92 n92 c92 =>
 .exS fun a93 n93 c93 =>
 .exI fun i94 =>
 .exI fun i95 =>
 .exI fun i96 =>
 .exS fun a97 n97 c97 =>
 .exS fun a98 n98 c98 =>
 .exS fun a99 n99 c99 =>
 .exS fun a100 n100 c100 =>
 .exI fun i101 =>
 .exS fun a102 n102 c102 =>
 .exS fun a103 n103 c103 =>
 .exS fun a104 n104 c104 =>
 .exS fun a105 n105 c105 =>
 .isL [v85] [.tuple #[.agg #[.int .u64 i86, .int .i64 i87, .int .i64 i88, .int .i64 i89, .int .u64 i90, .int .u64 i91, .slice a92 n92 c92, .slice a93 n93 c93, .int .u64 i94, .int .i64 i95, .int .i64 i96, .slice a97 n97 c97, .slice a98 n98 c98, .slice a99 n99 c99, .slice a100 n100 c100, .int .u64 i101, .slice a102 n102 c102], .agg #[.slice a103 n103 c103, .slice a104 n104 c104, .slice a105 n105 c105]]] <|
 .new 36 [.int .u64 0, .int .i64 0, .int .i64 0, .int .i64 0, .int .u64 0, .int .u64 0, .slice none 0 0, .slice none 0 0, .int .u64 0, .int .i64 0, .int .i64 0, .slice none 0 0, .slice none 0 0, .slice none 0 0, .slice none 0 0, .int .u64 0, .slice none 0 0] fun p106 =>
 .new 48 [.slice none 0 0, .slice none 0 0, .slice none 0 0] fun p107 =>
 .store ⟨p106, 0, none⟩ [.int .u64 i86, .int .i64 i87, .int .i64 i88, .int .i64 i89, .int .u64 i90, .int .u64 i91, .slice a92 n92 c92, .slice a93 n93 c93, .int .u64 i94, .int .i64 i95, .int .i64 i96, .slice a97 n97 c97, .slice a98 n98 c98, .slice a99 n99 c99, .slice a100 n100 c100, .int .u64 i101, .slice a102 n102 c102] <|
 .store ⟨p107, 0, none⟩ [.slice a103 n103 c103, .slice a104 n104 c104, .slice a105 n105 c105] <|
 .load ⟨p1, 9, none⟩ 1 fun v108 =>
 .exI fun i109 =>
 .isL v108 [.int .i64 i109] <|
 .store ⟨p106, 9, none⟩ [.int .i64 i109] <|
 .load ⟨p1, 0, none⟩ 17 fun v110 =>
 .exI fun i111 =>
 .exI fun i112 =>
 .exI fun i113 =>
 .exI fun i114 =>
 .exI fun i115 =>
 .exI fun i116 =>
 .exS fun a117 n117 c117 =>
 .exS fun a118 n118 c118 =>
 .exI fun i119 =>
 .exI fun i120 =>
 .exI fun i121 =>
 .exS fun a122 n122 c122 =>
 .exS fun a123 n123 c123 =>
 .exS fun a124 n124 c124 =>
 .exS fun a125 n125 c125 =>
 .exI fun i126 =>
 .exS fun a127 n127 c127 =>
 .isL v110 [.int .u64 i111, .int .i64 i112, .int .i64 i113, .int .i64 i114, .int .u64 i115, .int .u64 i116, .slice a117 n117 c117, .slice a118 n118 c118, .int .u64 i119, .int .i64 i120, .int .i64 i121, .slice a122 n122 c122, .slice a123 n123 c123, .slice a124 n124 c124, .slice a125 n125 c125, .int .u64 i126, .slice a127 n127 c127] <|
 .load ⟨p2, 0, none⟩ 21 fun v128 =>
 .exI fun i129 =>
 .exI fun i130 =>
 .exI fun i131 =>
 .exI fun i132 =>
 .exI fun i133 =>
 .exI fun i134 =>
 .exS fun a135 n135 c135 =>
 .exI fun i136 =>
 .exI fun i137 =>
 .exB fun b138 =>
 .exI fun i139 =>
 .exI fun i140 =>
 .exS fun a141 n141 c141 =>
 .exI fun i142 =>
 .exI fun i143 =>
 .exI fun i144 =>
 .exT fun s145 =>
 .exT fun s146 =>
 .exI fun i147 =>
 .exI fun i148 =>
 .exT fun s149 =>
 .isL v128 [.int .i64 i129, .int .i64 i130, .int .i64 i131, .int .u64 i132, .int .u64 i133, .int .u64 i134, .slice a135 n135 c135, .int .u64 i136, .int .u64 i137, .bool b138, .int .u64 i139, .int .u64 i140, .slice a141 n141 c141, .int .i64 i142, .int .i64 i143, .int .u64 i144, .string s145, .string s146, .int .u64 i147, .int .i64 i148, .string s149] <|
 .call 38 ([.agg #[.int .u64 i111, .int .i64 i112, .int .i64 i113, .int .i64 i114, .int .u64 i115, .int .u64 i116, .slice a117 n117 c117, .slice a118 n118 c118, .int .u64 i119, .int .i64 i120, .int .i64 i121, .slice a122 n122 c122, .slice a123 n123 c123, .slice a124 n124 c124, .slice a125 n125 c125, .int .u64 i126, .slice a127 n127 c127], .agg #[.int .i64 i129, .int .i64 i130, .int .i64 i131, .int .u64 i132, .int .u64 i133, .int .u64 i134, .slice a135 n135 c135, .int .u64 i136, .int .u64 i137, .bool b138, .int .u64 i139, .int .u64 i140, .slice a141 n141 c141, .int .i64 i142, .int .i64 i143, .int .u64 i144, .string s145, .string s146, .int .u64 i147, .int .i64 i148, .string s149]]) fun v150 =>
 .exI fun i151 =>
 .exI fun i152 =>
 .exI fun i153 =>
 .exI fun i154 =>
 .exI fun i155 =>
 .exI fun i156 =>
 .exS fun a157 n157 c157 =>
 .exS fun a158 n158 c158 =>
 .exI fun i159 =>
 .exI fun i160 =>
 .exI fun i161 =>
 .exS fun a162 n162 c162 =>
 .exS fun a163 n163 c163 =>
 .exS fun a164 n164 c164 =>
 .exS fun a165 n165 c165 =>
 .exI fun i166 =>
 .exS fun a167 n167 c167 =>
 .exS fun a168 n168 c168 =>
 .exS fun a169 n169 c169 =>
 .exS fun a170 n170 c170 =>
 .isL [v150] [.tuple #[.agg #[.int .u64 i151, .int .i64 i152, .int .i64 i153, .int .i64 i154, .int .u64 i155, .int .u64 i156, .slice a157 n157 c157, .slice a158 n158 c158, .int .u64 i159, .int .i64 i160, .int .i64 i161, .slice a162 n162 c162, .slice a163 n163 c163, .slice a164 n164 c164, .slice a165 n165 c165, .int .u64 i166, .slice a167 n167 c167], .agg #[.slice a168 n168 c168, .slice a169 n169 c169, .slice a170 n170 c170]]] <|
 .new 36 [.int .u64 0, .int .i64 0, .int .i64 0, .int .i64 0, .int .u64 0, .int .u64 0, .slice none 0 0, .slice none 0 0, .int .u64 0, .int .i64 0, .int .i64 0, .slice none 0 0, .slice none 0 0, .slice none 0 0, .slice none 0 0, .int .u64 0, .slice none 0 0] fun p171 =>
 .new 48 [.slice none 0 0, .slice none 0 0, .slice none 0 0] fun p172 =>
 .store ⟨p171, 0, none⟩ [.int .u64 i151, .int .i64 i152, .int .i64 i153, .int .i64 i154, .int .u64 i155, .int .u64 i156, .slice a157 n157 c157, .slice a158 n158 c158, .int .u64 i159, .int .i64 i160, .int .i64 i161, .slice a162 n162 c162, .slice a163 n163 c163, .slice a164 n164 c164, .slice a165 n165 c165, .int .u64 i166, .slice a167 n167 c167] <|
 .store ⟨p172, 0, none⟩ [.slice a168 n168 c168, .slice a169 n169 c169, .slice a170 n170 c170] <|
 .load ⟨p1, 0, none⟩ 17 fun v173 =>
 .exI fun i174 =>
 .exI fun i175 =>
 .exI fun i176 =>
 .exI fun i177 =>
 .exI fun i178 =>
 .exI fun i179 =>
 .exS fun a180 n180 c180 =>
 .exS fun a181 n181 c181 =>
 .exI fun i182 =>
 .exI fun i183 =>
 .exI fun i184 =>
 .exS fun a185 n185 c185 =>
 .exS fun a186 n186 c186 =>
 .exS fun a187 n187 c187 =>
 .exS fun a188 n188 c188 =>
 .exI fun i189 =>
 .exS fun a190 n190 c190 =>
 .isL v173 [.int .u64 i174, .int .i64 i175, .int .i64 i176, .int .i64 i177, .int .u64 i178, .int .u64 i179, .slice a180 n180 c180, .slice a181 n181 c181, .int .u64 i182, .int .i64 i183, .int .i64 i184, .slice a185 n185 c185, .slice a186 n186 c186, .slice a187 n187 c187, .slice a188 n188 c188, .int .u64 i189, .slice a190 n190 c190] <|
 .call 33 ([.agg #[.int .u64 i174, .int .i64 i175, .int .i64 i176, .int .i64 i177, .int .u64 i178, .int .u64 i179, .slice a180 n180 c180, .slice a181 n181 c181, .int .u64 i182, .int .i64 i183, .int .i64 i184, .slice a185 n185 c185, .slice a186 n186 c186, .slice a187 n187 c187, .slice a188 n188 c188, .int .u64 i189, .slice a190 n190 c190], .slice dataa datan datac]) fun v191 =>
 .exI fun i192 =>
 .exI fun i193 =>
 .exI fun i194 =>
 .exI fun i195 =>
 .exI fun i196 =>
 .exI fun i197 =>
 .exS fun a198 n198 c198 =>
 .exS fun a199 n199 c199 =>
 .exI fun i200 =>
 .exI fun i201 =>
 .exI fun i202 =>
 .exS fun a203 n203 c203 =>
 .exS fun a204 n204 c204 =>
 .exS fun a205 n205 c205 =>
 .exS fun a206 n206 c206 =>
 .exI fun i207 =>
 .exS fun a208 n208 c208 =>
 .exS fun a209 n209 c209 =>
 .exS fun a210 n210 c210 =>
 .exS fun a211 n211 c211 =>
 .exB fun b212 =>
 .isL [v191] [.tuple #[.agg #[.int .u64 i192, .int .i64 i193, .int .i64 i194, .int .i64 i195, .int .u64 i196, .int .u64 i197, .slice a198 n198 c198, .slice a199 n199 c199, .int .u64 i200, .int .i64 i201, .int .i64 i202, .slice a203 n203 c203, .slice a204 n204 c204, .slice a205 n205 c205, .slice a206 n206 c206, .int .u64 i207, .slice a208 n208 c208], .agg #[.slice a209 n209 c209, .slice a210 n210 c210, .slice a211 n211 c211], .bool b212]] <|
 .new 36 [.int .u64 0, .int .i64 0, .int .i64 0, .int .i64 0, .int .u64 0, .int .u64 0, .slice none 0 0, .slice none 0 0, .int .u64 0, .int .i64 0, .int .i64 0, .slice none 0 0, .slice none 0 0, .slice none 0 0, .slice none 0 0, .int .u64 0, .slice none 0 0] fun p213 =>
 .new 48 [.slice none 0 0, .slice none 0 0, .slice none 0 0] fun p214 =>
 .store ⟨p213, 0, none⟩ [.int .u64 i192, .int .i64 i193, .int .i64 i194, .int .i64 i195, .int .u64 i196, .int .u64 i197, .slice a198 n198 c198, .slice a199 n199 c199, .int .u64 i200, .int .i64 i201, .int .i64 i202, .slice a203 n203 c203, .slice a204 n204 c204, .slice a205 n205 c205, .slice a206 n206 c206, .int .u64 i207, .slice a208 n208 c208] <|
 .store ⟨p214, 0, none⟩ [.slice a209 n209 c209, .slice a210 n210 c210, .slice a211 n211 c211] <|
 .load ⟨p1, 0, none⟩ 17 fun v215 =>
 .exI fun i216 =>
 .exI fun i217 =>
 .exI fun i218 =>
 .exI fun i219 =>
 .exI fun i220 =>
 .exI fun i221 =>
 .exS fun a222 n222 c222 =>
 .exS fun a223 n223 c223 =>
 .exI fun i224 =>
 .exI fun i225 =>
 .exI fun i226 =>
 .exS fun a227 n227 c227 =>
 .exS fun a228 n228 c228 =>
 .exS fun a229 n229 c229 =>
 .exS fun a230 n230 c230 =>
 .exI fun i231 =>
 .exS fun a232 n232 c232 =>
 .isL v215 [.int .u64 i216, .int .i64 i217, .int .i64 i218, .int .i64 i219, .int .u64 i220, .int .u64 i221, .slice a222 n222 c222, .slice a223 n223 c223, .int .u64 i224, .int .i64 i225, .int .i64 i226, .slice a227 n227 c227, .slice a228 n228 c228, .slice a229 n229 c229, .slice a230 n230 c230, .int .u64 i231, .slice a232 n232 c232] <|
 .call 32 ([.agg #[.int .u64 i216, .int .i64 i217, .int .i64 i218, .int .i64 i219, .int .u64 i220, .int .u64 i221, .slice a222 n222 c222, .slice a223 n223 c223, .int .u64 i224, .int .i64 i225, .int .i64 i226, .slice a227 n227 c227, .slice a228 n228 c228, .slice a229 n229 c229, .slice a230 n230 c230, .int .u64 i231, .slice a232 n232 c232]]) fun v233 =>
 .exI fun i234 =>
 .exI fun i235 =>
 .exI fun i236 =>
 .exI fun i237 =>
 .exI fun i238 =>
 .exI fun i239 =>
 .exS fun a240 n240 c240 =>
 .exS fun a241 n241 c241 =>
 .exI fun i242 =>
 .exI fun i243 =>
 .exI fun i244 =>
 .exS fun a245 n245 c245 =>
 .exS fun a246 n246 c246 =>
 .exS fun a247 n247 c247 =>
 .exS fun a248 n248 c248 =>
 .exI fun i249 =>
 .exS fun a250 n250 c250 =>
 .exS fun a251 n251 c251 =>
 .exS fun a252 n252 c252 =>
 .exS fun a253 n253 c253 =>
 .isL [v233] [.tuple #[.agg #[.int .u64 i234, .int .i64 i235, .int .i64 i236, .int .i64 i237, .int .u64 i238, .int .u64 i239, .slice a240 n240 c240, .slice a241 n241 c241, .int .u64 i242, .int .i64 i243, .int .i64 i244, .slice a245 n245 c245, .slice a246 n246 c246, .slice a247 n247 c247, .slice a248 n248 c248, .int .u64 i249, .slice a250 n250 c250], .agg #[.slice a251 n251 c251, .slice a252 n252 c252, .slice a253 n253 c253]]] <|
 .new 36 [.int .u64 0, .int .i64 0, .int .i64 0, .int .i64 0, .int .u64 0, .int .u64 0, .slice none 0 0, .slice none 0 0, .int .u64 0, .int .i64 0, .int .i64 0, .slice none 0 0, .slice none 0 0, .slice none 0 0, .slice none 0 0, .int .u64 0, .slice none 0 0] fun p254 =>
 .new 48 [.slice none 0 0, .slice none 0 0, .slice none 0 0] fun p255 =>
 .store ⟨p254, 0, none⟩ [.int .u64 i234, .int .i64 i235, .int .i64 i236, .int .i64 i237, .int .u64 i238, .int .u64 i239, .slice a240 n240 c240, .slice a241 n241 c241, .int .u64 i242, .int .i64 i243, .int .i64 i244, .slice a245 n245 c245, .slice a246 n246 c246, .slice a247 n247 c247, .slice a248 n248 c248, .int .u64 i249, .slice a250 n250 c250] <|
 .store ⟨p255, 0, none⟩ [.slice a251 n251 c251, .slice a252 n252 c252, .slice a253 n253 c253] <|
 .load ⟨p1, 0, none⟩ 17 fun v256 =>
 .exI fun i257 =>
 .exI fun i258 =>
 .exI fun i259 =>
 .exI fun i260 =>
 .exI fun i261 =>
 .exI fun i262 =>
 .exS fun a263 n263 c263 =>
 .exS fun a264 n264 c264 =>
 .exI fun i265 =>
 .exI fun i266 =>
 .exI fun i267 =>
 .exS fun a268 n268 c268 =>
 .exS fun a269 n269 c269 =>
 .exS fun a270 n270 c270 =>
 .exS fun a271 n271 c271 =>
 .exI fun i272 =>
 .exS fun a273 n273 c273 =>
 .isL v256 [.int .u64 i257, .int .i64 i258, .int .i64 i259, .int .i64 i260, .int .u64 i261, .int .u64 i262, .slice a263 n263 c263, .slice a264 n264 c264, .int .u64 i265, .int .i64 i266, .int .i64 i267, .slice a268 n268 c268, .slice a269 n269 c269, .slice a270 n270 c270, .slice a271 n271 c271, .int .u64 i272, .slice a273 n273 c273] <|
 .call 31 ([.agg #[.int .u64 i257, .int .i64 i258, .int .i64 i259, .int .i64 i260, .int .u64 i261, .int .u64 i262, .slice a263 n263 c263, .slice a264 n264 c264, .int .u64 i265, .int .i64 i266, .int .i64 i267, .slice a268 n268 c268, .slice a269 n269 c269, .slice a270 n270 c270, .slice a271 n271 c271, .int .u64 i272, .slice a273 n273 c273], .slice dataa datan datac]) fun v274 =>
 .exI fun i275 =>
 .exI fun i276 =>
 .exI fun i277 =>
 .exI fun i278 =>
 .exI fun i279 =>
 .exI fun i280 =>
 .exS fun a281 n281 c281 =>
 .exS fun a282 n282 c282 =>
 .exI fun i283 =>
 .exI fun i284 =>
 .exI fun i285 =>
 .exS fun a286 n286 c286 =>
 .exS fun a287 n287 c287 =>
 .exS fun a288 n288 c288 =>
 .exS fun a289 n289 c289 =>
 .exI fun i290 =>
 .exS fun a291 n291 c291 =>
 .exS fun a292 n292 c292 =>
 .exS fun a293 n293 c293 =>
 .exS fun a294 n294 c294 =>
 .isL [v274] [.tuple #[.agg #[.int .u64 i275, .int .i64 i276, .int .i64 i277, .int .i64 i278, .int .u64 i279, .int .u64 i280, .slice a281 n281 c281, .slice a282 n282 c282, .int .u64 i283, .int .i64 i284, .int .i64 i285, .slice a286 n286 c286, .slice a287 n287 c287, .slice a288 n288 c288, .slice a289 n289 c289, .int .u64 i290, .slice a291 n291 c291], .agg #[.slice a292 n292 c292, .slice a293 n293 c293, .slice a294 n294 c294]]] <|
 .new 36 [.int .u64 0, .int .i64 0, .int .i64 0, .int .i64 0, .int .u64 0, .int .u64 0, .slice none 0 0, .slice none 0 0, .int .u64 0, .int .i64 0, .int .i64 0, .slice none 0 0, .slice none 0 0, .slice none 0 0, .slice none 0 0, .int .u64 0, .slice none 0 0] fun p295 =>
 .new 48 [.slice none 0 0, .slice none 0 0, .slice none 0 0] fun p296 =>
 .store ⟨p295, 0, none⟩ [.int .u64 i275, .int .i64 i276, .int .i64 i277, .int .i64 i278, .int .u64 i279, .int .u64 i280, .slice a281 n281 c281, .slice a282 n282 c282, .int .u64 i283, .int .i64 i284, .int .i64 i285, .slice a286 n286 c286, .slice a287 n287 c287, .slice a288 n288 c288, .slice a289 n289 c289, .int .u64 i290, .slice a291 n291 c291] <|
 .store ⟨p296, 0, none⟩ [.slice a292 n292 c292, .slice a293 n293 c293, .slice a294 n294 c294] <|
 .load ⟨p171, 0, none⟩ 17 fun v297 =>
 .exI fun i298 =>
 .exI fun i299 =>
 .exI fun i300 =>
 .exI fun i301 =>
 .exI fun i302 =>
 .exI fun i303 =>
 .exS fun a304 n304 c304 =>
 .exS fun a305 n305 c305 =>
 .exI fun i306 =>
 .exI fun i307 =>
 .exI fun i308 =>
 .exS fun a309 n309 c309 =>
 .exS fun a310 n310 c310 =>
 .exS fun a311 n311 c311 =>
 .exS fun a312 n312 c312 =>
 .exI fun i313 =>
 .exS fun a314 n314 c314 =>
 .isL v297 [.int .u64 i298, .int .i64 i299, .int .i64 i300, .int .i64 i301, .int .u64 i302, .int .u64 i303, .slice a304 n304 c304, .slice a305 n305 c305, .int .u64 i306, .int .i64 i307, .int .i64 i308, .slice a309 n309 c309, .slice a310 n310 c310, .slice a311 n311 c311, .slice a312 n312 c312, .int .u64 i313, .slice a314 n314 c314] <|
 .load ⟨p213, 0, none⟩ 17 fun v315 =>
 .exI fun i316 =>
 .exI fun i317 =>
 .exI fun i318 =>
 .exI fun i319 =>
 .exI fun i320 =>
 .exI fun i321 =>
 .exS fun a322 n322 c322 =>
 .exS fun a323 n323 c323 =>
 .exI fun i324 =>
 .exI fun i325 =>
 .exI fun i326 =>
 .exS fun a327 n327 c327 =>
 .exS fun a328 n328 c328 =>
 .exS fun a329 n329 c329 =>
 .exS fun a330 n330 c330 =>
 .exI fun i331 =>
 .exS fun a332 n332 c332 =>
 .isL v315 [.int .u64 i316, .int .i64 i317, .int .i64 i318, .int .i64 i319, .int .u64 i320, .int .u64 i321, .slice a322 n322 c322, .slice a323 n323 c323, .int .u64 i324, .int .i64 i325, .int .i64 i326, .slice a327 n327 c327, .slice a328 n328 c328, .slice a329 n329 c329, .slice a330 n330 c330, .int .u64 i331, .slice a332 n332 c332] <|
 .load ⟨p254, 0, none⟩ 17 fun v333 =>
 .exI fun i334 =>
 .exI fun i335 =>
 .exI fun i336 =>
 .exI fun i337 =>
 .exI fun i338 =>
 .exI fun i339 =>
 .exS fun a340 n340 c340 =>
 .exS fun a341 n341 c341 =>
 .exI fun i342 =>
 .exI fun i343 =>
 .exI fun i344 =>
 .exS fun a345 n345 c345 =>
 .exS fun a346 n346 c346 =>
 .exS fun a347 n347 c347 =>
 .exS fun a348 n348 c348 =>
 .exI fun i349 =>
 .exS fun a350 n350 c350 =>
 .isL v333 [.int .u64 i334, .int .i64 i335, .int .i64 i336, .int .i64 i337, .int .u64 i338, .int .u64 i339, .slice a340 n340 c340, .slice a341 n341 c341, .int .u64 i342, .int .i64 i343, .int .i64 i344, .slice a345 n345 c345, .slice a346 n346 c346, .slice a347 n347 c347, .slice a348 n348 c348, .int .u64 i349, .slice a350 n350 c350] <|
 .load ⟨p295, 0, none⟩ 17 fun v351 =>
 .exI fun i352 =>
 .exI fun i353 =>
 .exI fun i354 =>
 .exI fun i355 =>
 .exI fun i356 =>
 .exI fun i357 =>
 .exS fun a358 n358 c358 =>
 .exS fun a359 n359 c359 =>
 .exI fun i360 =>
 .exI fun i361 =>
 .exI fun i362 =>
 .exS fun a363 n363 c363 =>
 .exS fun a364 n364 c364 =>
 .exS fun a365 n365 c365 =>
 .exS fun a366 n366 c366 =>
 .exI fun i367 =>
 .exS fun a368 n368 c368 =>
 .isL v351 [.int .u64 i352, .int .i64 i353, .int .i64 i354, .int .i64 i355, .int .u64 i356, .int .u64 i357, .slice a358 n358 c358, .slice a359 n359 c359, .int .u64 i360, .int .i64 i361, .int .i64 i362, .slice a363 n363 c363, .slice a364 n364 c364, .slice a365 n365 c365, .slice a366 n366 c366, .int .u64 i367, .slice a368 n368 c368] <|
 .new 36 [.int .u64 i298, .int .i64 i299, .int .i64 i300, .int .i64 i301, .int .u64 i302, .int .u64 i303, .slice a304 n304 c304, .slice a305 n305 c305, .int .u64 i306, .int .i64 i307, .int .i64 i308, .slice a309 n309 c309, .slice a310 n310 c310, .slice a311 n311 c311, .slice a312 n312 c312, .int .u64 i313, .slice a314 n314 c314, .int .u64 i316, .int .i64 i317, .int .i64 i318, .int .i64 i319, .int .u64 i320, .int .u64 i321, .slice a322 n322 c322, .slice a323 n323 c323, .int .u64 i324, .int .i64 i325, .int .i64 i326, .slice a327 n327 c327, .slice a328 n328 c328, .slice a329 n329 c329, .slice a330 n330 c330, .int .u64 i331, .slice a332 n332 c332, .int .u64 i334, .int .i64 i335, .int .i64 i336, .int .i64 i337, .int .u64 i338, .int .u64 i339, .slice a340 n340 c340, .slice a341 n341 c341, .int .u64 i342, .int .i64 i343, .int .i64 i344, .slice a345 n345 c345, .slice a346 n346 c346, .slice a347 n347 c347, .slice a348 n348 c348, .int .u64 i349, .slice a350 n350 c350, .int .u64 i352, .int .i64 i353, .int .i64 i354, .int .i64 i355, .int .u64 i356, .int .u64 i357, .slice a358 n358 c358, .slice a359 n359 c359, .int .u64 i360, .int .i64 i361, .int .i64 i362, .slice a363 n363 c363, .slice a364 n364 c364, .slice a365 n365 c365, .slice a366 n366 c366, .int .u64 i367, .slice a368 n368 c368] fun p369 =>
 .loop 0 [.int .i64 0] (fun v370 =>
  .exI fun i371 =>
  .isL v370 [.int .i64 i371] <|
  bif (decide (i371 < (↑4 : Int))) then
   (.loop 1 [.int .i64 0] (fun v372 =>
    .exI fun i373 =>
    .isL v372 [.int .i64 i373] <|
    .some (some ⟨p369, 0, none⟩) fun x374 =>
    .need ((0 : Int) ≤ i371 ∧ i371 < (↑4 : Int)) <|
    .load ((x374.add (i371.toNat * 17)).add 7) 1 fun v375 =>
    .exS fun a376 n376 c376 =>
    .isL v375 [.slice a376 n376 c376] <|
    bif (decide (i373 < (↑n376 : Int))) then
     (.some (some ⟨p369, 0, none⟩) fun x377 =>
     .need ((0 : Int) ≤ i371 ∧ i371 < (↑4 : Int)) <|
     .load ((x377.add (i371.toNat * 17)).add 7) 1 fun v378 =>
     .exS fun a379 n379 c379 =>
     .isL v378 [.slice a379 n379 c379] <|
     .some a379 fun x380 =>
     .need ((0 : Int) ≤ i373 ∧ i373 < (↑n379 : Int)) <|
     .store (x380.add (i373.toNat * 2)) [.int .u64 77] <|
     .again 1 [.int .i64 (IntKind.i64.wrap (i373 + 1))])
    else
    (.draw <|
    .some (some ⟨p369, 0, none⟩) fun x381 =>
    .need ((0 : Int) ≤ i371 ∧ i371 < (↑4 : Int)) <|
    .load ((x381.add (i371.toNat * 17)).add 13) 1 fun v382 =>
    .exS fun a383 n383 c383 =>
    .isL v382 [.slice a383 n383 c383] <|
    .some (some ⟨p369, 0, none⟩) fun x384 =>
    .need ((0 : Int) ≤ i371 ∧ i371 < (↑4 : Int)) <|
    .load ((x384.add (i371.toNat * 17)).add 12) 1 fun v385 =>
    .exS fun a386 n386 c386 =>
    .isL v385 [.slice a386 n386 c386] <|
    bif ((↑n383 : Int) != (↑n386 : Int)) then
     (.ret (.bool false))
    else
    (.some (some ⟨p369, 0, none⟩) fun x387 =>
    .need ((0 : Int) ≤ i371 ∧ i371 < (↑4 : Int)) <|
    .load ((x387.add (i371.toNat * 17)).add 14) 1 fun v388 =>
    .exS fun a389 n389 c389 =>
    .isL v388 [.slice a389 n389 c389] <|
    .some (some ⟨p369, 0, none⟩) fun x390 =>
    .need ((0 : Int) ≤ i371 ∧ i371 < (↑4 : Int)) <|
    .load ((x390.add (i371.toNat * 17)).add 12) 1 fun v391 =>
    .exS fun a392 n392 c392 =>
    .isL v391 [.slice a392 n392 c392] <|
    bif ((↑n389 : Int) != (↑n392 : Int)) then
     (.ret (.bool false))
    else
    (.loop 1 [.int .i64 0] (fun v393 =>
     .exI fun i394 =>
     .isL v393 [.int .i64 i394] <|
     .some (some ⟨p369, 0, none⟩) fun x395 =>
     .need ((0 : Int) ≤ i371 ∧ i371 < (↑4 : Int)) <|
     .load ((x395.add (i371.toNat * 17)).add 12) 1 fun v396 =>
     .exS fun a397 n397 c397 =>
     .isL v396 [.slice a397 n397 c397] <|
     bif (decide (i394 < (↑n397 : Int))) then
      (.draw <|
      .some (some ⟨p369, 0, none⟩) fun x398 =>
      .need ((0 : Int) ≤ i371 ∧ i371 < (↑4 : Int)) <|
      .load ((x398.add (i371.toNat * 17)).add 12) 1 fun v399 =>
      .exS fun a400 n400 c400 =>
      .isL v399 [.slice a400 n400 c400] <|
      .some (some ⟨p369, 0, none⟩) fun x401 =>
      .need ((0 : Int) ≤ i371 ∧ i371 < (↑4 : Int)) <|
      .load ((x401.add (i371.toNat * 17)).add 13) 1 fun v402 =>
      .exS fun a403 n403 c403 =>
      .isL v402 [.slice a403 n403 c403] <|
      .some (some ⟨p369, 0, none⟩) fun x404 =>
      .need ((0 : Int) ≤ i371 ∧ i371 < (↑4 : Int)) <|
      .load ((x404.add (i371.toNat * 17)).add 14) 1 fun v405 =>
      .exS fun a406 n406 c406 =>
      .isL v405 [.slice a406 n406 c406] <|
      .some a400 fun x407 =>
      .need ((0 : Int) ≤ i394 ∧ i394 < (↑n400 : Int)) <|
      .store (x407.add (i394.toNat * 1)) [.int .u64 77] <|
      .some a403 fun x408 =>
      .need ((0 : Int) ≤ i394 ∧ i394 < (↑n403 : Int)) <|
      .store (x408.add (i394.toNat * 1)) [.int .u64 77] <|
      .some a406 fun x409 =>
      .need ((0 : Int) ≤ i394 ∧ i394 < (↑n406 : Int)) <|
      .store (x409.add (i394.toNat * 1)) [.int .u64 77] <|
      .again 1 [.int .i64 (IntKind.i64.wrap (i394 + 1))])
     else
     (.loop 1 [.int .i64 0] (fun v410 =>
      .exI fun i411 =>
      .isL v410 [.int .i64 i411] <|
      .some (some ⟨p369, 0, none⟩) fun x412 =>
      .need ((0 : Int) ≤ i371 ∧ i371 < (↑4 : Int)) <|
      .load ((x412.add (i371.toNat * 17)).add 11) 1 fun v413 =>
      .exS fun a414 n414 c414 =>
      .isL v413 [.slice a414 n414 c414] <|
      bif (decide (i411 < (↑n414 : Int))) then
       (.draw <|
       .some (some ⟨p369, 0, none⟩) fun x415 =>
       .need ((0 : Int) ≤ i371 ∧ i371 < (↑4 : Int)) <|
       .load ((x415.add (i371.toNat * 17)).add 11) 1 fun v416 =>
       .exS fun a417 n417 c417 =>
       .isL v416 [.slice a417 n417 c417] <|
       .some (some ⟨p369, 0, none⟩) fun x418 =>
       .need ((0 : Int) ≤ i371 ∧ i371 < (↑4 : Int)) <|
       .load ((x418.add (i371.toNat * 17)).add 11) 1 fun v419 =>
       .exS fun a420 n420 c420 =>
       .isL v419 [.slice a420 n420 c420] <|
       .some a420 fun x421 =>
       .need ((0 : Int) ≤ i411 ∧ i411 < (↑n420 : Int)) <|
       .load (x421.add (i411.toNat * 1)) 1 fun v422 =>
       .exB fun b423 =>
       .isL v422 [.bool b423] <|
       .some a417 fun x424 =>
       .need ((0 : Int) ≤ i411 ∧ i411 < (↑n417 : Int)) <|
       .store (x424.add (i411.toNat * 1)) [.bool !b423] <|
       .again 1 [.int .i64 (IntKind.i64.wrap (i411 + 1))])
      else
      (.again 0 [.int .i64 (IntKind.i64.wrap (i371 + 1))])))))))))
  else
  (.load ⟨p106, 0, none⟩ 17 fun v425 =>
  .exI fun i426 =>
  .exI fun i427 =>
  .exI fun i428 =>
  .exI fun i429 =>
  .exI fun i430 =>
  .exI fun i431 =>
  .exS fun a432 n432 c432 =>
  .exS fun a433 n433 c433 =>
  .exI fun i434 =>
  .exI fun i435 =>
  .exI fun i436 =>
  .exS fun a437 n437 c437 =>
  .exS fun a438 n438 c438 =>
  .exS fun a439 n439 c439 =>
  .exS fun a440 n440 c440 =>
  .exI fun i441 =>
  .exS fun a442 n442 c442 =>
  .isL v425 [.int .u64 i426, .int .i64 i427, .int .i64 i428, .int .i64 i429, .int .u64 i430, .int .u64 i431, .slice a432 n432 c432, .slice a433 n433 c433, .int .u64 i434, .int .i64 i435, .int .i64 i436, .slice a437 n437 c437, .slice a438 n438 c438, .slice a439 n439 c439, .slice a440 n440 c440, .int .u64 i441, .slice a442 n442 c442] <|
  .load ⟨p1, 0, none⟩ 17 fun v443 =>
  .exI fun i444 =>
  .exI fun i445 =>
  .exI fun i446 =>
  .exI fun i447 =>
  .exI fun i448 =>
  .exI fun i449 =>
  .exS fun a450 n450 c450 =>
  .exS fun a451 n451 c451 =>
  .exI fun i452 =>
  .exI fun i453 =>
  .exI fun i454 =>
  .exS fun a455 n455 c455 =>
  .exS fun a456 n456 c456 =>
  .exS fun a457 n457 c457 =>
  .exS fun a458 n458 c458 =>
  .exI fun i459 =>
  .exS fun a460 n460 c460 =>
  .isL v443 [.int .u64 i444, .int .i64 i445, .int .i64 i446, .int .i64 i447, .int .u64 i448, .int .u64 i449, .slice a450 n450 c450, .slice a451 n451 c451, .int .u64 i452, .int .i64 i453, .int .i64 i454, .slice a455 n455 c455, .slice a456 n456 c456, .slice a457 n457 c457, .slice a458 n458 c458, .int .u64 i459, .slice a460 n460 c460] <|
  .call 29 ([.agg #[.int .u64 i426, .int .i64 i427, .int .i64 i428, .int .i64 i429, .int .u64 i430, .int .u64 i431, .slice a432 n432 c432, .slice a433 n433 c433, .int .u64 i434, .int .i64 i435, .int .i64 i436, .slice a437 n437 c437, .slice a438 n438 c438, .slice a439 n439 c439, .slice a440 n440 c440, .int .u64 i441, .slice a442 n442 c442], .agg #[.int .u64 i444, .int .i64 i445, .int .i64 i446, .int .i64 i447, .int .u64 i448, .int .u64 i449, .slice a450 n450 c450, .slice a451 n451 c451, .int .u64 i452, .int .i64 i453, .int .i64 i454, .slice a455 n455 c455, .slice a456 n456 c456, .slice a457 n457 c457, .slice a458 n458 c458, .int .u64 i459, .slice a460 n460 c460]]) fun v461 =>
  .exB fun b462 =>
  .isL [v461] [.bool b462] <|
  .ret (.bool b462)))))))
theorem e6 (r0 : Int) (r1 : Int) (r2 : Int) (r3 : Int) (r4 : Int) (r5 : Int) (r6a : Option Addr) (r6n : Nat) (r6c : Nat) (r7a : Option Addr) (r7n : Nat) (r7c : Nat) (r8 : Int) (r9 : Int) (r10 : Int) (r11a : Option Addr) (r11n : Nat) (r11c : Nat) (r12a : Option Addr) (r12n : Nat) (r12c : Nat) (r13a : Option Addr) (r13n : Nat) (r13c : Nat) (r14a : Option Addr) (r14n : Nat) (r14c : Nat) (r15 : Int) (r16a : Option Addr) (r16n : Nat) (r16c : Nat) (m0 : Int) (m1 : Int) (m2 : Int) (m3 : Int) (m4 : Int) (m5 : Int) (m6a : Option Addr) (m6n : Nat) (m6c : Nat) (m7 : Int) (m8 : Int) (m9 : Bool) (m10 : Int) (m11 : Int) (m12a : Option Addr) (m12n : Nat) (m12c : Nat) (m13 : Int) (m14 : Int) (m15 : Int) (m16 : ByteArray) (m17 : ByteArray) (m18 : Int) (m19 : Int) (m20 : ByteArray) (dataa : Option Addr) (datan : Nat) (datac : Nat) : genFn Try.prog lv6 noM Try.f6 [.agg #[.int .u64 r0, .int .i64 r1, .int .i64 r2, .int .i64 r3, .int .u64 r4, .int .u64 r5, .slice r6a r6n r6c, .slice r7a r7n r7c, .int .u64 r8, .int .i64 r9, .int .i64 r10, .slice r11a r11n r11c, .slice r12a r12n r12c, .slice r13a r13n r13c, .slice r14a r14n r14c, .int .u64 r15, .slice r16a r16n r16c], .agg #[.int .i64 m0, .int .i64 m1, .int .i64 m2, .int .u64 m3, .int .u64 m4, .int .u64 m5, .slice m6a m6n m6c, .int .u64 m7, .int .u64 m8, .bool m9, .int .u64 m10, .int .u64 m11, .slice m12a m12n m12c, .int .i64 m13, .int .i64 m14, .int .u64 m15, .string m16, .string m17, .int .u64 m18, .int .i64 m19, .string m20], .slice dataa datan datac] = t6 r0 r1 r2 r3 r4 r5 r6a r6n r6c r7a r7n r7c r8 r9 r10 r11a r11n r11c r12a r12n r12c r13a r13n r13c r14a r14n r14c r15 r16a r16n r16c m0 m1 m2 m3 m4 m5 m6a m6n m6c m7 m8 m9 m10 m11 m12a m12n m12c m13 m14 m15 m16 m17 m18 m19 m20 dataa datan datac := by kernel_rfl
theorem r6 (r0 : Int) (r1 : Int) (r2 : Int) (r3 : Int) (r4 : Int) (r5 : Int) (r6a : Option Addr) (r6n : Nat) (r6c : Nat) (r7a : Option Addr) (r7n : Nat) (r7c : Nat) (r8 : Int) (r9 : Int) (r10 : Int) (r11a : Option Addr) (r11n : Nat) (r11c : Nat) (r12a : Option Addr) (r12n : Nat) (r12c : Nat) (r13a : Option Addr) (r13n : Nat) (r13c : Nat) (r14a : Option Addr) (r14n : Nat) (r14c : Nat) (r15 : Int) (r16a : Option Addr) (r16n : Nat) (r16c : Nat) (m0 : Int) (m1 : Int) (m2 : Int) (m3 : Int) (m4 : Int) (m5 : Int) (m6a : Option Addr) (m6n : Nat) (m6c : Nat) (m7 : Int) (m8 : Int) (m9 : Bool) (m10 : Int) (m11 : Int) (m12a : Option Addr) (m12n : Nat) (m12c : Nat) (m13 : Int) (m14 : Int) (m15 : Int) (m16 : ByteArray) (m17 : ByteArray) (m18 : Int) (m19 : Int) (m20 : ByteArray) (dataa : Option Addr) (datan : Nat) (datac : Nat) {R : Value → World → Prop} {w : World} (h : (t6 r0 r1 r2 r3 r4 r5 r6a r6n r6c r7a r7n r7c r8 r9 r10 r11a r11n r11c r12a r12n r12c r13a r13n r13c r14a r14n r14c r15 r16a r16n r16c m0 m1 m2 m3 m4 m5 m6a m6n m6c m7 m8 m9 m10 m11 m12a m12n m12c m13 m14 m15 m16 m17 m18 m19 m20 dataa datan datac).wp Try.prog R (fun _ _ _ => False) w) : Runs Try.prog 6 [.agg #[.int .u64 r0, .int .i64 r1, .int .i64 r2, .int .i64 r3, .int .u64 r4, .int .u64 r5, .slice r6a r6n r6c, .slice r7a r7n r7c, .int .u64 r8, .int .i64 r9, .int .i64 r10, .slice r11a r11n r11c, .slice r12a r12n r12c, .slice r13a r13n r13c, .slice r14a r14n r14c, .int .u64 r15, .slice r16a r16n r16c], .agg #[.int .i64 m0, .int .i64 m1, .int .i64 m2, .int .u64 m3, .int .u64 m4, .int .u64 m5, .slice m6a m6n m6c, .int .u64 m7, .int .u64 m8, .bool m9, .int .u64 m10, .int .u64 m11, .slice m12a m12n m12c, .int .i64 m13, .int .i64 m14, .int .u64 m15, .string m16, .string m17, .int .u64 m18, .int .i64 m19, .string m20], .slice dataa datan datac] w R :=
 genFn_runs mixed lv6 noM Try.func6 (by kernel_rfl) (by rw [e6]; exact h)
end Go.Proofs.Ytnbfffmdplcajaa
