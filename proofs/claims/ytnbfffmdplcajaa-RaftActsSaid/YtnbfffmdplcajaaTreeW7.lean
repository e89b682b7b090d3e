/- The trees of verification conditions of functions 7: printed by a program of mine, checked here. -/
import Derived.Test.YtnbfffmdplcajaaTree0
set_option linter.unusedVariables false
set_option maxRecDepth 100000
namespace Go.Proofs.Ytnbfffmdplcajaa
open Go.Vc
def t7 (r0 : Int) (r1 : Int) (r2 : Int) (r3 : Int) (r4 : Int) (r5 : Int) (r6a : Option Addr) (r6n : Nat) (r6c : Nat) (r7a : Option Addr) (r7n : Nat) (r7c : Nat) (r8 : Int) (r9 : Int) (r10 : Int) (r11a : Option Addr) (r11n : Nat) (r11c : Nat) (r12a : Option Addr) (r12n : Nat) (r12c : Nat) (r13a : Option Addr) (r13n : Nat) (r13c : Nat) (r14a : Option Addr) (r14n : Nat) (r14c : Nat) (r15 : Int) (r16a : Option Addr) (r16n : Nat) (r16c : Nat) (dataa : Option Addr) (datan : Nat) (datac : Nat) (id : Int) : VC :=
 .new 36 [.int .u64 r0, .int .i64 r1, .int .i64 r2, .int .i64 r3, .int .u64 r4, .int .u64 r5, .slice r6a r6n r6c, .slice r7a r7n r7c, .int .u64 r8, .int .i64 r9, .int .i64 r10, .slice r11a r11n r11c, .slice r12a r12n r12c, .slice r13a r13n r13c, .slice r14a r14n r14c, .int .u64 r15, .slice r16a r16n r16c] fun p1 =>
 .call 22 ([]) fun v2 =>
 .exB fun b3 =>
 .isL [v2] [.bool b3] <|
 bif !b3 then
  (.ret (.bool false))
 else
 (.load ⟨p1, 0, none⟩ 17 fun v4 =>
 .exI fun i5 =>
 .exI fun i6 =>
 .exI fun i7 =>
 .exI fun i8 =>
 .exI fun i9 =>
 .exI fun i10 =>
 .exS fun a11 n11 c11 =>
 .exS fun a12 n12 c12 =>
 .exI fun i13 =>
 .exI fun i14 =>
 .exI fun i15 =>
 .exS fun a16 n16 c16 =>
 .exS fun a17 n17 c17 =>
 .exS fun a18 n18 c18 =>
 .exS fun a19 n19 c19 =>
 .exI fun i20 =>
 .exS fun a21 n21 c21 =>
 .isL v4 [.int .u64 i5, .int .i64 i6, .int .i64 i7, .int .i64 i8, .int .u64 i9, .int .u64 i10, .slice a11 n11 c11, .slice a12 n12 c12, .int .u64 i13, .int .i64 i14, .int .i64 i15, .slice a16 n16 c16, .slice a17 n17 c17, .slice a18 n18 c18, .slice a19 n19 c19, .int .u64 i20, .slice a21 n21 c21] <|
 .call 30 ([.agg #[.int .u64 i5, .int .i64 i6, .int .i64 i7, .int .i64 i8, .int .u64 i9, .int .u64 i10, .slice a11 n11 c11, .slice a12 n12 c12, .int .u64 i13, .int .i64 i14, .int .i64 i15, .slice a16 n16 c16, .slice a17 n17 c17, .slice a18 n18 c18, .slice a19 n19 c19, .int .u64 i20, .slice a21 n21 c21]]) fun v22 =>
 .exB fun b23 =>
 .isL [v22] [.bool b23] <|
 bif !b23 then
  (.ret (.bool true))
 else
 (bif (decide ((↑datan : Int) > 60)) then
  (.ret (.bool true))
 else
 (.load ⟨p1, 0, none⟩ 17 fun v24 =>
 .exI fun i25 =>
 .exI fun i26 =>
 .exI fun i27 =>
 .exI fun i28 =>
 .exI fun i29 =>
 .exI fun i30 =>
 .exS fun a31 n31 c31 =>
 .exS fun a32 n32 c32 =>
 .exI fun i33 =>
 .exI fun i34 =>
 .exI fun i35 =>
 .exS fun a36 n36 c36 =>
 .exS fun a37 n37 c37 =>
 .exS fun a38 n38 c38 =>
 .exS fun a39 n39 c39 =>
 .exI fun i40 =>
 .exS fun a41 n41 c41 =>
 .isL v24 [.int .u64 i25, .int .i64 i26, .int .i64 i27, .int .i64 i28, .int .u64 i29, .int .u64 i30, .slice a31 n31 c31, .slice a32 n32 c32, .int .u64 i33, .int .i64 i34, .int .i64 i35, .slice a36 n36 c36, .slice a37 n37 c37, .slice a38 n38 c38, .slice a39 n39 c39, .int .u64 i40, .slice a41 n41 c41] <|
 .call 32 ([.agg #[.int .u64 i25, .int .i64 i26, .int .i64 i27, .int .i64 i28, .int .u64 i29, .int .u64 i30, .slice a31 n31 c31, .slice a32 n32 c32, .int .u64 i33, .int .i64 i34, .int .i64 i35, .slice a36 n36 c36, .slice a37 n37 c37, .slice a38 n38 c38, .slice a39 n39 c39, .int .u64 i40, .slice a41 n41 c41]]) fun v42 =>
 .exI fun i43 =>
 .exI fun i44 =>
 .exI fun i45 =>
 .exI fun i46 =>
 .exI fun i47 =>
 .exI fun i48 =>
 .exS fun a49 n49 c49 =>
 .exS fun a50 n50 c50 =>
 .exI fun i51 =>
 .exI fun i52 =>
 .exI fun i53 =>
 .exS fun a54 n54 c54 =>
 .exS fun a55 n55 c55 =>
 .exS fun a56 n56 c56 =>
 .exS fun a57 n57 c57 =>
 .exI fun i58 =>
 .exS fun a59 n59 c59 =>
 .exS fun a60 n60 c60 =>
 .exS fun a61 n61 c61 =>
 .exS fun a62 n62 c62 =>
 .isL [v42] [.tuple #[.agg #[.int .u64 i43, .int .i64 i44, .int .i64 i45, .int .i64 i46, .int .u64 i47, .int .u64 i48, .slice a49 n49 c49, .slice a50 n50 c50, .int .u64 i51, .int .i64 i52, .int .i64 i53, .slice a54 n54 c54, .slice a55 n55 c55, .slice a56 n56 c56, .slice a57 n57 c57, .int .u64 i58, .slice a59 n59 c59], .agg #[.slice a60 n60 c60, .slice a61 n61 c61, .slice a62 n62 c62]]] <|
 .new 36 [.int .u64 0, .int .i64 0, .int .i64 0, .int .i64 0, .int .u64 0, .int .u64 0, .slice none 0 0, .slice none 0 0, .int .u64 0, .int .i64 0, .int .i64 0, .slice none 0 0, .slice none 0 0, .slice none 0 0, .slice none 0 0, .int .u64 0, .slice none 0 0] fun p63 =>
 .new 48 [.slice none 0 0, .slice none 0 0, .slice none 0 0] fun p64 =>
 .store ⟨p63, 0, none⟩ [.int .u64 i43, .int .i64 i44, .int .i64 i45, .int .i64 i46, .int .u64 i47, .int .u64 i48, .slice a49 n49 c49, .slice a50 n50 c50, .int .u64 i51, .int .i64 i52, .int .i64 i53, .slice a54 n54 c54, .slice a55 n55 c55, .slice a56 n56 c56, .slice a57 n57 c57, .int .u64 i58, .slice a59 n59 c59] <|
 .store ⟨p64, 0, none⟩ [.slice a60 n60 c60, .slice a61 n61 c61, .slice a62 n62 c62] <|
 .load ⟨p1, 0, none⟩ 17 fun v65 =>
 .exI fun i66 =>
 .exI fun i67 =>
 .exI fun i68 =>
 .exI fun i69 =>
 .exI fun i70 =>
 .exI fun i71 =>
 .exS fun a72 n72 c72 =>
 .exS fun a73 n73 c73 =>
 .exI fun i74 =>
 .exI fun i75 =>
 .exI fun i76 =>
 .exS fun a77 n77 c77 =>
 .exS fun a78 n78 c78 =>
 .exS fun a79 n79 c79 =>
 .exS fun a80 n80 c80 =>
 .exI fun i81 =>
 .exS fun a82 n82 c82 =>
 .isL v65 [.int .u64 i66, .int .i64 i67, .int .i64 i68, .int .i64 i69, .int .u64 i70, .int .u64 i71, .slice a72 n72 c72, .slice a73 n73 c73, .int .u64 i74, .int .i64 i75, .int .i64 i76, .slice a77 n77 c77, .slice a78 n78 c78, .slice a79 n79 c79, .slice a80 n80 c80, .int .u64 i81, .slice a82 n82 c82] <|
 .call 39 ([.agg #[.int .u64 i66, .int .i64 i67, .int .i64 i68, .int .i64 i69, .int .u64 i70, .int .u64 i71, .slice a72 n72 c72, .slice a73 n73 c73, .int .u64 i74, .int .i64 i75, .int .i64 i76, .slice a77 n77 c77, .slice a78 n78 c78, .slice a79 n79 c79, .slice a80 n80 c80, .int .u64 i81, .slice a82 n82 c82]]) fun v83 =>
 .exI fun i84 =>
 .exI fun i85 =>
 .exI fun i86 =>
 .exI fun i87 =>
 .exI fun i88 =>
 .exI fun i89 =>
 .exS fun a90 n90 c90 =>
 .exS fun a91 n91 c91 =>
 .exI fun i92 =>
 .exI fun i93 =>
 .exI fun i94 =>
 .exS fun a95 n95 c95 =>
 .exS fun a96 n96 c96 =>
 .exS fun a97 n97 c97 =>
 .exS fun a98 n98 c98 =>
 .exI fun i99 =>
 .exS fun a100 n100 c100 =>
 .exS fun a101 n101 c101 =>
 .exS fun a102 n102 c102 =>
 .exS fun a103 n103 c103 =>
 .isL [v83] [.tuple #[.agg #[.int .u64 i84, .int .i64 i85, .int .i64 i86, .int .i64 i87, .int .u64 i88, .int .u64 i89, .slice a90 n90 c90, .slice a91 n91 c91, .int .u64 i92, .int .i64 i93, .int .i64 i94, .slice a95 n95 c95, .slice a96 n96 c96, .slice a97 n97 c97, .slice a98 n98 c98, .int .u64 i99, .slice a100 n100 c100], .agg #[.slice a101 n101 c101, .slice a102 n102 c102, .slice a103 n103 c103]]] <|
 .new 36 [.int .u64 0, .int .i64 0, .int .i64 0, .int .i64 0, .int .u64 0, .int .u64 0, .slice none 0 0, .slice none 0 0, .int .u64 0, .int .i64 0, .int .i64 0, .slice none 0 0, .slice none 0 0, .slice none 0 0, .slice none 0 0, .int .u64 0, .slice none 0 0] fun p104 =>
 .new 48 [.slice none 0 0, .slice none 0 0, .slice none 0 0] fun p105 =>
 .store ⟨p104, 0, none⟩ [.int .u64 i84, .int .i64 i85, .int .i64 i86, .int .i64 i87, .int .u64 i88, .int .u64 i89, .slice a90 n90 c90, .slice a91 n91 c91, .int .u64 i92, .int .i64 i93, .int .i64 i94, .slice a95 n95 c95, .slice a96 n96 c96, .slice a97 n97 c97, .slice a98 n98 c98, .int .u64 i99, .slice a100 n100 c100] <|
 .store ⟨p105, 0, none⟩ [.slice a101 n101 c101, .slice a102 n102 c102, .slice a103 n103 c103] <|
 .load ⟨p63, 0, none⟩ 17 fun v106 =>
 .exI fun i107 =>
 .exI fun i108 =>
 .exI fun i109 =>
 .exI fun i110 =>
 .exI fun i111 =>
 .exI fun i112 =>
 .exS fun a113 n113 c113 =>
 .exS fun a114 n114 c114 =>
 .exI fun i115 =>
 .exI fun i116 =>
 .exI fun i117 =>
 .exS fun a118 n118 c118 =>
 .exS fun a119 n119 c119 =>
 .exS fun a120 n120 c120 =>
 .exS fun a121 n121 c121 =>
 .exI fun i122 =>
 .exS fun a123 n123 c123 =>
 .isL v106 [.int .u64 i107, .int .i64 i108, .int .i64 i109, .int .i64 i110, .int .u64 i111, .int .u64 i112, .slice a113 n113 c113, .slice a114 n114 c114, .int .u64 i115, .int .i64 i116, .int .i64 i117, .slice a118 n118 c118, .slice a119 n119 c119, .slice a120 n120 c120, .slice a121 n121 c121, .int .u64 i122, .slice a123 n123 c123] <|
 .load ⟨p104, 0, none⟩ 17 fun v124 =>
 .exI fun i125 =>
 .exI fun i126 =>
 .exI fun i127 =>
 .exI fun i128 =>
 .exI fun i129 =>
 .exI fun i130 =>
 .exS fun a131 n131 c131 =>
 .exS fun a132 n132 c132 =>
 .exI fun i133 =>
 .exI fun i134 =>
 .exI fun i135 =>
 .exS fun a136 n136 c136 =>
 .exS fun a137 n137 c137 =>
 .exS fun a138 n138 c138 =>
 .exS fun a139 n139 c139 =>
 .exI fun i140 =>
 .exS fun a141 n141 c141 =>
 .isL v124 [.int .u64 i125, .int .i64 i126, .int .i64 i127, .int .i64 i128, .int .u64 i129, .int .u64 i130, .slice a131 n131 c131, .slice a132 n132 c132, .int .u64 i133, .int .i64 i134, .int .i64 i135, .slice a136 n136 c136, .slice a137 n137 c137, .slice a138 n138 c138, .slice a139 n139 c139, .int .u64 i140, .slice a141 n141 c141] <|
 .call 29 ([.agg #[.int .u64 i107, .int .i64 i108, .int .i64 i109, .int .i64 i110, .int .u64 i111, .int .u64 i112, .slice a113 n113 c113, .slice a114 n114 c114, .int .u64 i115, .int .i64 i116, .int .i64 i117, .slice a118 n118 c118, .slice a119 n119 c119, .slice a120 n120 c120, .slice a121 n121 c121, .int .u64 i122, .slice a123 n123 c123], .agg #[.int .u64 i125, .int .i64 i126, .int .i64 i127, .int .i64 i128, .int .u64 i129, .int .u64 i130, .slice a131 n131 c131, .slice a132 n132 c132, .int .u64 i133, .int .i64 i134, .int .i64 i135, .slice a136 n136 c136, .slice a137 n137 c137, .slice a138 n138 c138, .slice a139 n139 c139, .int .u64 i140, .slice a141 n141 c141]]) fun v142 =>
 .exB fun b143 =>
 .isL [v142] [.bool b143] <|
 bif !b143 then
  (.ret (.bool false))
 else
 (.load ⟨p64, 0, none⟩ 3 fun v144 =>
 .exS fun a145 n145 c145 =>
 .exS fun a146 n146 c146 =>
 .exS fun a147 n147 c147 =>
 .isL v144 [.slice a145 n145 c145, .slice a146 n146 c146, .slice a147 n147 c147] <|
 .load ⟨p105, 0, none⟩ 3 fun v148 =>
 .exS fun a149 n149 c149 =>
 .exS fun a150 n150 c150 =>
 .exS fun a151 n151 c151 =>
 .isL v148 [.slice a149 n149 c149, .slice a150 n150 c150, .slice a151 n151 c151] <|
 .call 40 ([.agg #[.slice a145 n145 c145, .slice a146 n146 c146, .slice a147 n147 c147], .agg #[.slice a149 n149 c149, .slice a150 n150 c150, .slice a151 n151 c151]]) fun v152 =>
 .exB fun b153 =>
 .isL [v152] [.bool b153] <|
 bif !b153 then
  (.ret (.bool false))
 else
 (.load ⟨p1, 0, none⟩ 17 fun v154 =>
 .exI fun i155 =>
 .exI fun i156 =>
 .exI fun i157 =>
 .exI fun i158 =>
 .exI fun i159 =>
 .exI fun i160 =>
 .exS fun a161 n161 c161 =>
 .exS fun a162 n162 c162 =>
 .exI fun i163 =>
 .exI fun i164 =>
 .exI fun i165 =>
 .exS fun a166 n166 c166 =>
 .exS fun a167 n167 c167 =>
 .exS fun a168 n168 c168 =>
 .exS fun a169 n169 c169 =>
 .exI fun i170 =>
 .exS fun a171 n171 c171 =>
 .isL v154 [.int .u64 i155, .int .i64 i156, .int .i64 i157, .int .i64 i158, .int .u64 i159, .int .u64 i160, .slice a161 n161 c161, .slice a162 n162 c162, .int .u64 i163, .int .i64 i164, .int .i64 i165, .slice a166 n166 c166, .slice a167 n167 c167, .slice a168 n168 c168, .slice a169 n169 c169, .int .u64 i170, .slice a171 n171 c171] <|
 .call 41 ([.agg #[.int .u64 i155, .int .i64 i156, .int .i64 i157, .int .i64 i158, .int .u64 i159, .int .u64 i160, .slice a161 n161 c161, .slice a162 n162 c162, .int .u64 i163, .int .i64 i164, .int .i64 i165, .slice a166 n166 c166, .slice a167 n167 c167, .slice a168 n168 c168, .slice a169 n169 c169, .int .u64 i170, .slice a171 n171 c171]]) fun v172 =>
 .exI fun i173 =>
 .exI fun i174 =>
 .exI fun i175 =>
 .exI fun i176 =>
 .exI fun i177 =>
 .exI fun i178 =>
 .exS fun a179 n179 c179 =>
 .exS fun a180 n180 c180 =>
 .exI fun i181 =>
 .exI fun i182 =>
 .exI fun i183 =>
 .exS fun a184 n184 c184 =>
 .exS fun a185 n185 c185 =>
 .exS fun a186 n186 c186 =>
 .exS fun a187 n187 c187 =>
 .exI fun i188 =>
 .exS fun a189 n189 c189 =>
 .exS fun a190 n190 c190 =>
 .exS fun a191 n191 c191 =>
 .exS fun a192 n192 c192 =>
 .isL [v172] [.tuple #[.agg #[.int .u64 i173, .int .i64 i174, .int .i64 i175, .int .i64 i176, .int .u64 i177, .int .u64 i178, .slice a179 n179 c179, .slice a180 n180 c180, .int .u64 i181, .int .i64 i182, .int .i64 i183, .slice a184 n184 c184, .slice a185 n185 c185, .slice a186 n186 c186, .slice a187 n187 c187, .int .u64 i188, .slice a189 n189 c189], .agg #[.slice a190 n190 c190, .slice a191 n191 c191, .slice a192 n192 c192]]] <|
 .store ⟨p63, 0, none⟩ [.int .u64 i173, .int .i64 i174, .int .i64 i175, .int .i64 i176, .int .u64 i177, .int .u64 i178, .slice a179 n179 c179, .slice a180 n180 c180, .int .u64 i181, .int .i64 i182, .int .i64 i183, .slice a184 n184 c184, .slice a185 n185 c185, .slice a186 n186 c186, .slice a187 n187 c187, .int .u64 i188, .slice a189 n189 c189] <|
 .store ⟨p64, 0, none⟩ [.slice a190 n190 c190, .slice a191 n191 c191, .slice a192 n192 c192] <|
 .load ⟨p1, 0, none⟩ 17 fun v193 =>
 .exI fun i194 =>
 .exI fun i195 =>
 .exI fun i196 =>
 .exI fun i197 =>
 .exI fun i198 =>
 .exI fun i199 =>
 .exS fun a200 n200 c200 =>
 .exS fun a201 n201 c201 =>
 .exI fun i202 =>
 .exI fun i203 =>
 .exI fun i204 =>
 .exS fun a205 n205 c205 =>
 .exS fun a206 n206 c206 =>
 .exS fun a207 n207 c207 =>
 .exS fun a208 n208 c208 =>
 .exI fun i209 =>
 .exS fun a210 n210 c210 =>
 .isL v193 [.int .u64 i194, .int .i64 i195, .int .i64 i196, .int .i64 i197, .int .u64 i198, .int .u64 i199, .slice a200 n200 c200, .slice a201 n201 c201, .int .u64 i202, .int .i64 i203, .int .i64 i204, .slice a205 n205 c205, .slice a206 n206 c206, .slice a207 n207 c207, .slice a208 n208 c208, .int .u64 i209, .slice a210 n210 c210] <|
 .call 36 ([.agg #[.int .u64 i194, .int .i64 i195, .int .i64 i196, .int .i64 i197, .int .u64 i198, .int .u64 i199, .slice a200 n200 c200, .slice a201 n201 c201, .int .u64 i202, .int .i64 i203, .int .i64 i204, .slice a205 n205 c205, .slice a206 n206 c206, .slice a207 n207 c207, .slice a208 n208 c208, .int .u64 i209, .slice a210 n210 c210]]) fun v211 =>
 .exI fun i212 =>
 .exI fun i213 =>
 .exI fun i214 =>
 .exI fun i215 =>
 .exI fun i216 =>
 .exI fun i217 =>
 .exS fun a218 n218 c218 =>
 .exS fun a219 n219 c219 =>
 .exI fun i220 =>
 .exI fun i221 =>
 .exI fun i222 =>
 .exS fun a223 n223 c223 =>
 .exS fun a224 n224 c224 =>
 .exS fun a225 n225 c225 =>
 .exS fun a226 n226 c226 =>
 .exI fun i227 =>
 .exS fun a228 n228 c228 =>
 .exS fun a229 n229 c229 =>
 .exS fun a230 n230 c230 =>
 .exS fun a231 n231 c231 =>
 .isL [v211] [.tuple #[.agg #[.int .u64 i212, .int .i64 i213, .int .i64 i214, .int .i64 i215, .int .u64 i216, .int .u64 i217, .slice a218 n218 c218, .slice a219 n219 c219, .int .u64 i220, .int .i64 i221, .int .i64 i222, .slice a223 n223 c223, .slice a224 n224 c224, .slice a225 n225 c225, .slice a226 n226 c226, .int .u64 i227, .slice a228 n228 c228], .agg #[.slice a229 n229 c229, .slice a230 n230 c230, .slice a231 n231 c231]]] <|
 .store ⟨p104, 0, none⟩ [.int .u64 i212, .int .i64 i213, .int .i64 i214, .int .i64 i215, .int .u64 i216, .int .u64 i217, .slice a218 n218 c218, .slice a219 n219 c219, .int .u64 i220, .int .i64 i221, .int .i64 i222, .slice a223 n223 c223, .slice a224 n224 c224, .slice a225 n225 c225, .slice a226 n226 c226, .int .u64 i227, .slice a228 n228 c228] <|
 .store ⟨p105, 0, none⟩ [.slice a229 n229 c229, .slice a230 n230 c230, .slice a231 n231 c231] <|
 .load ⟨p63, 0, none⟩ 17 fun v232 =>
 .exI fun i233 =>
 .exI fun i234 =>
 .exI fun i235 =>
 .exI fun i236 =>
 .exI fun i237 =>
 .exI fun i238 =>
 .exS fun a239 n239 c239 =>
 .exS fun a240 n240 c240 =>
 .exI fun i241 =>
 .exI fun i242 =>
 .exI fun i243 =>
 .exS fun a244 n244 c244 =>
 .exS fun a245 n245 c245 =>
 .exS fun a246 n246 c246 =>
 .exS fun a247 n247 c247 =>
 .exI fun i248 =>
 .exS fun a249 n249 c249 =>
 .isL v232 [.int .u64 i233, .int .i64 i234, .int .i64 i235, .int .i64 i236, .int .u64 i237, .int .u64 i238, .slice a239 n239 c239, .slice a240 n240 c240, .int .u64 i241, .int .i64 i242, .int .i64 i243, .slice a244 n244 c244, .slice a245 n245 c245, .slice a246 n246 c246, .slice a247 n247 c247, .int .u64 i248, .slice a249 n249 c249] <|
 .load ⟨p104, 0, none⟩ 17 fun v250 =>
 .exI fun i251 =>
 .exI fun i252 =>
 .exI fun i253 =>
 .exI fun i254 =>
 .exI fun i255 =>
 .exI fun i256 =>
 .exS fun a257 n257 c257 =>
 .exS fun a258 n258 c258 =>
 .exI fun i259 =>
 .exI fun i260 =>
 .exI fun i261 =>
 .exS fun a262 n262 c262 =>
 .exS fun a263 n263 c263 =>
 .exS fun a264 n264 c264 =>
 .exS fun a265 n265 c265 =>
 .exI fun i266 =>
 .exS fun a267 n267 c267 =>
 .isL v250 [.int .u64 i251, .int .i64 i252, .int .i64 i253, .int .i64 i254, .int .u64 i255, .int .u64 i256, .slice a257 n257 c257, .slice a258 n258 c258, .int .u64 i259, .int .i64 i260, .int .i64 i261, .slice a262 n262 c262, .slice a263 n263 c263, .slice a264 n264 c264, .slice a265 n265 c265, .int .u64 i266, .slice a267 n267 c267] <|
 .call 29 ([.agg #[.int .u64 i233, .int .i64 i234, .int .i64 i235, .int .i64 i236, .int .u64 i237, .int .u64 i238, .slice a239 n239 c239, .slice a240 n240 c240, .int .u64 i241, .int .i64 i242, .int .i64 i243, .slice a244 n244 c244, .slice a245 n245 c245, .slice a246 n246 c246, .slice a247 n247 c247, .int .u64 i248, .slice a249 n249 c249], .agg #[.int .u64 i251, .int .i64 i252, .int .i64 i253, .int .i64 i254, .int .u64 i255, .int .u64 i256, .slice a257 n257 c257, .slice a258 n258 c258, .int .u64 i259, .int .i64 i260, .int .i64 i261, .slice a262 n262 c262, .slice a263 n263 c263, .slice a264 n264 c264, .slice a265 n265 c265, .int .u64 i266, .slice a267 n267 c267]]) fun v268 =>
 .exB fun b269 =>
 .isL [v268] [.bool b269] <|
 bif !b269 then
  (.ret (.bool false))
 else
 (.load ⟨p64, 0, none⟩ 3 fun v270 =>
 .exS fun a271 n271 c271 =>
 .exS fun a272 n272 c272 =>
 .exS fun a273 n273 c273 =>
 .isL v270 [.slice a271 n271 c271, .slice a272 n272 c272, .slice a273 n273 c273] <|
 .load ⟨p105, 0, none⟩ 3 fun v274 =>
 .exS fun a275 n275 c275 =>
 .exS fun a276 n276 c276 =>
 .exS fun a277 n277 c277 =>
 .isL v274 [.slice a275 n275 c275, .slice a276 n276 c276, .slice a277 n277 c277] <|
 .call 40 ([.agg #[.slice a271 n271 c271, .slice a272 n272 c272, .slice a273 n273 c273], .agg #[.slice a275 n275 c275, .slice a276 n276 c276, .slice a277 n277 c277]]) fun v278 =>
 .exB fun b279 =>
 .isL [v278] [.bool b279] <|
 bif !b279 then
  (.ret (.bool false))
 else
 (.load ⟨p1, 0, none⟩ 17 fun v280 =>
 .exI fun i281 =>
 .exI fun i282 =>
 .exI fun i283 =>
 .exI fun i284 =>
 .exI fun i285 =>
 .exI fun i286 =>
 .exS fun a287 n287 c287 =>
 .exS fun a288 n288 c288 =>
 .exI fun i289 =>
 .exI fun i290 =>
 .exI fun i291 =>
 .exS fun a292 n292 c292 =>
 .exS fun a293 n293 c293 =>
 .exS fun a294 n294 c294 =>
 .exS fun a295 n295 c295 =>
 .exI fun i296 =>
 .exS fun a297 n297 c297 =>
 .isL v280 [.int .u64 i281, .int .i64 i282, .int .i64 i283, .int .i64 i284, .int .u64 i285, .int .u64 i286, .slice a287 n287 c287, .slice a288 n288 c288, .int .u64 i289, .int .i64 i290, .int .i64 i291, .slice a292 n292 c292, .slice a293 n293 c293, .slice a294 n294 c294, .slice a295 n295 c295, .int .u64 i296, .slice a297 n297 c297] <|
 .call 33 ([.agg #[.int .u64 i281, .int .i64 i282, .int .i64 i283, .int .i64 i284, .int .u64 i285, .int .u64 i286, .slice a287 n287 c287, .slice a288 n288 c288, .int .u64 i289, .int .i64 i290, .int .i64 i291, .slice a292 n292 c292, .slice a293 n293 c293, .slice a294 n294 c294, .slice a295 n295 c295, .int .u64 i296, .slice a297 n297 c297], .slice dataa datan datac]) fun v298 =>
 .exI fun i299 =>
 .exI fun i300 =>
 .exI fun i301 =>
 .exI fun i302 =>
 .exI fun i303 =>
 .exI fun i304 =>
 .exS fun a305 n305 c305 =>
 .exS fun a306 n306 c306 =>
 .exI fun i307 =>
 .exI fun i308 =>
 .exI fun i309 =>
 .exS fun a310 n310 c310 =>
 .exS fun a311 n311 c311 =>
 .exS fun a312 n312 c312 =>
 .exS fun a313 n313 c313 =>
 .exI fun i314 =>
 .exS fun a315 n315 c315 =>
 .exS fun a316 n316 c316 =>
 .exS fun a317 n317 c317 =>
 .exS fun a318 n318 c318 =>
 .exB fun b319 =>
 .isL [v298] [.tuple #[.agg #[.int .u64 i299, .int .i64 i300, .int .i64 i301, .int .i64 i302, .int .u64 i303, .int .u64 i304, .slice a305 n305 c305, .slice a306 n306 c306, .int .u64 i307, .int .i64 i308, .int .i64 i309, .slice a310 n310 c310, .slice a311 n311 c311, .slice a312 n312 c312, .slice a313 n313 c313, .int .u64 i314, .slice a315 n315 c315], .agg #[.slice a316 n316 c316, .slice a317 n317 c317, .slice a318 n318 c318], .bool b319]] <|
 .store ⟨p63, 0, none⟩ [.int .u64 i299, .int .i64 i300, .int .i64 i301, .int .i64 i302, .int .u64 i303, .int .u64 i304, .slice a305 n305 c305, .slice a306 n306 c306, .int .u64 i307, .int .i64 i308, .int .i64 i309, .slice a310 n310 c310, .slice a311 n311 c311, .slice a312 n312 c312, .slice a313 n313 c313, .int .u64 i314, .slice a315 n315 c315] <|
 .store ⟨p64, 0, none⟩ [.slice a316 n316 c316, .slice a317 n317 c317, .slice a318 n318 c318] <|
 .load ⟨p1, 0, none⟩ 17 fun v320 =>
 .exI fun i321 =>
 .exI fun i322 =>
 .exI fun i323 =>
 .exI fun i324 =>
 .exI fun i325 =>
 .exI fun i326 =>
 .exS fun a327 n327 c327 =>
 .exS fun a328 n328 c328 =>
 .exI fun i329 =>
 .exI fun i330 =>
 .exI fun i331 =>
 .exS fun a332 n332 c332 =>
 .exS fun a333 n333 c333 =>
 .exS fun a334 n334 c334 =>
 .exS fun a335 n335 c335 =>
 .exI fun i336 =>
 .exS fun a337 n337 c337 =>
 .isL v320 [.int .u64 i321, .int .i64 i322, .int .i64 i323, .int .i64 i324, .int .u64 i325, .int .u64 i326, .slice a327 n327 c327, .slice a328 n328 c328, .int .u64 i329, .int .i64 i330, .int .i64 i331, .slice a332 n332 c332, .slice a333 n333 c333, .slice a334 n334 c334, .slice a335 n335 c335, .int .u64 i336, .slice a337 n337 c337] <|
 .call 42 ([.agg #[.int .u64 i321, .int .i64 i322, .int .i64 i323, .int .i64 i324, .int .u64 i325, .int .u64 i326, .slice a327 n327 c327, .slice a328 n328 c328, .int .u64 i329, .int .i64 i330, .int .i64 i331, .slice a332 n332 c332, .slice a333 n333 c333, .slice a334 n334 c334, .slice a335 n335 c335, .int .u64 i336, .slice a337 n337 c337], .slice dataa datan datac]) fun v338 =>
 .exI fun i339 =>
 .exI fun i340 =>
 .exI fun i341 =>
 .exI fun i342 =>
 .exI fun i343 =>
 .exI fun i344 =>
 .exS fun a345 n345 c345 =>
 .exS fun a346 n346 c346 =>
 .exI fun i347 =>
 .exI fun i348 =>
 .exI fun i349 =>
 .exS fun a350 n350 c350 =>
 .exS fun a351 n351 c351 =>
 .exS fun a352 n352 c352 =>
 .exS fun a353 n353 c353 =>
 .exI fun i354 =>
 .exS fun a355 n355 c355 =>
 .exS fun a356 n356 c356 =>
 .exS fun a357 n357 c357 =>
 .exS fun a358 n358 c358 =>
 .exB fun b359 =>
 .isL [v338] [.tuple #[.agg #[.int .u64 i339, .int .i64 i340, .int .i64 i341, .int .i64 i342, .int .u64 i343, .int .u64 i344, .slice a345 n345 c345, .slice a346 n346 c346, .int .u64 i347, .int .i64 i348, .int .i64 i349, .slice a350 n350 c350, .slice a351 n351 c351, .slice a352 n352 c352, .slice a353 n353 c353, .int .u64 i354, .slice a355 n355 c355], .agg #[.slice a356 n356 c356, .slice a357 n357 c357, .slice a358 n358 c358], .bool b359]] <|
 .store ⟨p104, 0, none⟩ [.int .u64 i339, .int .i64 i340, .int .i64 i341, .int .i64 i342, .int .u64 i343, .int .u64 i344, .slice a345 n345 c345, .slice a346 n346 c346, .int .u64 i347, .int .i64 i348, .int .i64 i349, .slice a350 n350 c350, .slice a351 n351 c351, .slice a352 n352 c352, .slice a353 n353 c353, .int .u64 i354, .slice a355 n355 c355] <|
 .store ⟨p105, 0, none⟩ [.slice a356 n356 c356, .slice a357 n357 c357, .slice a358 n358 c358] <|
 bif (!b319 == b359) then
  (.ret (.bool false))
 else
 (.load ⟨p63, 0, none⟩ 17 fun v360 =>
 .exI fun i361 =>
 .exI fun i362 =>
 .exI fun i363 =>
 .exI fun i364 =>
 .exI fun i365 =>
 .exI fun i366 =>
 .exS fun a367 n367 c367 =>
 .exS fun a368 n368 c368 =>
 .exI fun i369 =>
 .exI fun i370 =>
 .exI fun i371 =>
 .exS fun a372 n372 c372 =>
 .exS fun a373 n373 c373 =>
 .exS fun a374 n374 c374 =>
 .exS fun a375 n375 c375 =>
 .exI fun i376 =>
 .exS fun a377 n377 c377 =>
 .isL v360 [.int .u64 i361, .int .i64 i362, .int .i64 i363, .int .i64 i364, .int .u64 i365, .int .u64 i366, .slice a367 n367 c367, .slice a368 n368 c368, .int .u64 i369, .int .i64 i370, .int .i64 i371, .slice a372 n372 c372, .slice a373 n373 c373, .slice a374 n374 c374, .slice a375 n375 c375, .int .u64 i376, .slice a377 n377 c377] <|
 .load ⟨p104, 0, none⟩ 17 fun v378 =>
 .exI fun i379 =>
 .exI fun i380 =>
 .exI fun i381 =>
 .exI fun i382 =>
 .exI fun i383 =>
 .exI fun i384 =>
 .exS fun a385 n385 c385 =>
 .exS fun a386 n386 c386 =>
 .exI fun i387 =>
 .exI fun i388 =>
 .exI fun i389 =>
 .exS fun a390 n390 c390 =>
 .exS fun a391 n391 c391 =>
 .exS fun a392 n392 c392 =>
 .exS fun a393 n393 c393 =>
 .exI fun i394 =>
 .exS fun a395 n395 c395 =>
 .isL v378 [.int .u64 i379, .int .i64 i380, .int .i64 i381, .int .i64 i382, .int .u64 i383, .int .u64 i384, .slice a385 n385 c385, .slice a386 n386 c386, .int .u64 i387, .int .i64 i388, .int .i64 i389, .slice a390 n390 c390, .slice a391 n391 c391, .slice a392 n392 c392, .slice a393 n393 c393, .int .u64 i394, .slice a395 n395 c395] <|
 .call 29 ([.agg #[.int .u64 i361, .int .i64 i362, .int .i64 i363, .int .i64 i364, .int .u64 i365, .int .u64 i366, .slice a367 n367 c367, .slice a368 n368 c368, .int .u64 i369, .int .i64 i370, .int .i64 i371, .slice a372 n372 c372, .slice a373 n373 c373, .slice a374 n374 c374, .slice a375 n375 c375, .int .u64 i376, .slice a377 n377 c377], .agg #[.int .u64 i379, .int .i64 i380, .int .i64 i381, .int .i64 i382, .int .u64 i383, .int .u64 i384, .slice a385 n385 c385, .slice a386 n386 c386, .int .u64 i387, .int .i64 i388, .int .i64 i389, .slice a390 n390 c390, .slice a391 n391 c391, .slice a392 n392 c392, .slice a393 n393 c393, .int .u64 i394, .slice a395 n395 c395]]) fun v396 =>
 .exB fun b397 =>
 .isL [v396] [.bool b397] <|
 bif !b397 then
  (.ret (.bool false))
 else
 (.load ⟨p64, 0, none⟩ 3 fun v398 =>
 .exS fun a399 n399 c399 =>
 .exS fun a400 n400 c400 =>
 .exS fun a401 n401 c401 =>
 .isL v398 [.slice a399 n399 c399, .slice a400 n400 c400, .slice a401 n401 c401] <|
 .load ⟨p105, 0, none⟩ 3 fun v402 =>
 .exS fun a403 n403 c403 =>
 .exS fun a404 n404 c404 =>
 .exS fun a405 n405 c405 =>
 .isL v402 [.slice a403 n403 c403, .slice a404 n404 c404, .slice a405 n405 c405] <|
 .call 40 ([.agg #[.slice a399 n399 c399, .slice a400 n400 c400, .slice a401 n401 c401], .agg #[.slice a403 n403 c403, .slice a404 n404 c404, .slice a405 n405 c405]]) fun v406 =>
 .exB fun b407 =>
 .isL [v406] [.bool b407] <|
 bif !b407 then
  (.ret (.bool false))
 else
 (.load ⟨p1, 0, none⟩ 17 fun v408 =>
 .exI fun i409 =>
 .exI fun i410 =>
 .exI fun i411 =>
 .exI fun i412 =>
 .exI fun i413 =>
 .exI fun i414 =>
 .exS fun a415 n415 c415 =>
 .exS fun a416 n416 c416 =>
 .exI fun i417 =>
 .exI fun i418 =>
 .exI fun i419 =>
 .exS fun a420 n420 c420 =>
 .exS fun a421 n421 c421 =>
 .exS fun a422 n422 c422 =>
 .exS fun a423 n423 c423 =>
 .exI fun i424 =>
 .exS fun a425 n425 c425 =>
 .isL v408 [.int .u64 i409, .int .i64 i410, .int .i64 i411, .int .i64 i412, .int .u64 i413, .int .u64 i414, .slice a415 n415 c415, .slice a416 n416 c416, .int .u64 i417, .int .i64 i418, .int .i64 i419, .slice a420 n420 c420, .slice a421 n421 c421, .slice a422 n422 c422, .slice a423 n423 c423, .int .u64 i424, .slice a425 n425 c425] <|
 .call 34 ([.agg #[.int .u64 i409, .int .i64 i410, .int .i64 i411, .int .i64 i412, .int .u64 i413, .int .u64 i414, .slice a415 n415 c415, .slice a416 n416 c416, .int .u64 i417, .int .i64 i418, .int .i64 i419, .slice a420 n420 c420, .slice a421 n421 c421, .slice a422 n422 c422, .slice a423 n423 c423, .int .u64 i424, .slice a425 n425 c425], .int .u64 id]) fun v426 =>
 .exI fun i427 =>
 .exI fun i428 =>
 .exI fun i429 =>
 .exI fun i430 =>
 .exI fun i431 =>
 .exI fun i432 =>
 .exS fun a433 n433 c433 =>
 .exS fun a434 n434 c434 =>
 .exI fun i435 =>
 .exI fun i436 =>
 .exI fun i437 =>
 .exS fun a438 n438 c438 =>
 .exS fun a439 n439 c439 =>
 .exS fun a440 n440 c440 =>
 .exS fun a441 n441 c441 =>
 .exI fun i442 =>
 .exS fun a443 n443 c443 =>
 .exS fun a444 n444 c444 =>
 .exS fun a445 n445 c445 =>
 .exS fun a446 n446 c446 =>
 .exB fun b447 =>
 .isL [v426] [.tuple #[.agg #[.int .u64 i427, .int .i64 i428, .int .i64 i429, .int .i64 i430, .int .u64 i431, .int .u64 i432, .slice a433 n433 c433, .slice a434 n434 c434, .int .u64 i435, .int .i64 i436, .int .i64 i437, .slice a438 n438 c438, .slice a439 n439 c439, .slice a440 n440 c440, .slice a441 n441 c441, .int .u64 i442, .slice a443 n443 c443], .agg #[.slice a444 n444 c444, .slice a445 n445 c445, .slice a446 n446 c446], .bool b447]] <|
 .store ⟨p63, 0, none⟩ [.int .u64 i427, .int .i64 i428, .int .i64 i429, .int .i64 i430, .int .u64 i431, .int .u64 i432, .slice a433 n433 c433, .slice a434 n434 c434, .int .u64 i435, .int .i64 i436, .int .i64 i437, .slice a438 n438 c438, .slice a439 n439 c439, .slice a440 n440 c440, .slice a441 n441 c441, .int .u64 i442, .slice a443 n443 c443] <|
 .store ⟨p64, 0, none⟩ [.slice a444 n444 c444, .slice a445 n445 c445, .slice a446 n446 c446] <|
 .load ⟨p1, 0, none⟩ 17 fun v448 =>
 .exI fun i449 =>
 .exI fun i450 =>
 .exI fun i451 =>
 .exI fun i452 =>
 .exI fun i453 =>
 .exI fun i454 =>
 .exS fun a455 n455 c455 =>
 .exS fun a456 n456 c456 =>
 .exI fun i457 =>
 .exI fun i458 =>
 .exI fun i459 =>
 .exS fun a460 n460 c460 =>
 .exS fun a461 n461 c461 =>
 .exS fun a462 n462 c462 =>
 .exS fun a463 n463 c463 =>
 .exI fun i464 =>
 .exS fun a465 n465 c465 =>
 .isL v448 [.int .u64 i449, .int .i64 i450, .int .i64 i451, .int .i64 i452, .int .u64 i453, .int .u64 i454, .slice a455 n455 c455, .slice a456 n456 c456, .int .u64 i457, .int .i64 i458, .int .i64 i459, .slice a460 n460 c460, .slice a461 n461 c461, .slice a462 n462 c462, .slice a463 n463 c463, .int .u64 i464, .slice a465 n465 c465] <|
 .call 43 ([.agg #[.int .u64 i449, .int .i64 i450, .int .i64 i451, .int .i64 i452, .int .u64 i453, .int .u64 i454, .slice a455 n455 c455, .slice a456 n456 c456, .int .u64 i457, .int .i64 i458, .int .i64 i459, .slice a460 n460 c460, .slice a461 n461 c461, .slice a462 n462 c462, .slice a463 n463 c463, .int .u64 i464, .slice a465 n465 c465], .int .u64 id]) fun v466 =>
 .exI fun i467 =>
 .exI fun i468 =>
 .exI fun i469 =>
 .exI fun i470 =>
 .exI fun i471 =>
 .exI fun i472 =>
 .exS fun a473 n473 c473 =>
 .exS fun a474 n474 c474 =>
 .exI fun i475 =>
 .exI fun i476 =>
 .exI fun i477 =>
 .exS fun a478 n478 c478 =>
 .exS fun a479 n479 c479 =>
 .exS fun a480 n480 c480 =>
 .exS fun a481 n481 c481 =>
 .exI fun i482 =>
 .exS fun a483 n483 c483 =>
 .exS fun a484 n484 c484 =>
 .exS fun a485 n485 c485 =>
 .exS fun a486 n486 c486 =>
 .exB fun b487 =>
 .isL [v466] [.tuple #[.agg #[.int .u64 i467, .int .i64 i468, .int .i64 i469, .int .i64 i470, .int .u64 i471, .int .u64 i472, .slice a473 n473 c473, .slice a474 n474 c474, .int .u64 i475, .int .i64 i476, .int .i64 i477, .slice a478 n478 c478, .slice a479 n479 c479, .slice a480 n480 c480, .slice a481 n481 c481, .int .u64 i482, .slice a483 n483 c483], .agg #[.slice a484 n484 c484, .slice a485 n485 c485, .slice a486 n486 c486], .bool b487]] <|
 .store ⟨p104, 0, none⟩ [.int .u64 i467, .int .i64 i468, .int .i64 i469, .int .i64 i470, .int .u64 i471, .int .u64 i472, .slice a473 n473 c473, .slice a474 n474 c474, .int .u64 i475, .int .i64 i476, .int .i64 i477, .slice a478 n478 c478, .slice a479 n479 c479, .slice a480 n480 c480, .slice a481 n481 c481, .int .u64 i482, .slice a483 n483 c483] <|
 .store ⟨p105, 0, none⟩ [.slice a484 n484 c484, .slice a485 n485 c485, .slice a486 n486 c486] <|
 bif (!b447 == b487) then
  (.ret (.bool false))
 else
 (.load ⟨p63, 0, none⟩ 17 fun v488 =>
 .exI fun i489 =>
 .exI fun i490 =>
 .exI fun i491 =>
 .exI fun i492 =>
 .exI fun i493 =>
 .exI fun i494 =>
 .exS fun a495 n495 c495 =>
 .exS fun a496 n496 c496 =>
 .exI fun i497 =>
 .exI fun i498 =>
 .exI fun i499 =>
 .exS fun a500 n500 c500 =>
 .exS fun a501 n501 c501 =>
 .exS fun a502 n502 c502 =>
 .exS fun a503 n503 c503 =>
 .exI fun i504 =>
 .exS fun a505 n505 c505 =>
 .isL v488 [.int .u64 i489, .int .i64 i490, .int .i64 i491, .int .i64 i492, .int .u64 i493, .int .u64 i494, .slice a495 n495 c495, .slice a496 n496 c496, .int .u64 i497, .int .i64 i498, .int .i64 i499, .slice a500 n500 c500, .slice a501 n501 c501, .slice a502 n502 c502, .slice a503 n503 c503, .int .u64 i504, .slice a505 n505 c505] <|
 .load ⟨p104, 0, none⟩ 17 fun v506 =>
 .exI fun i507 =>
 .exI fun i508 =>
 .exI fun i509 =>
 .exI fun i510 =>
 .exI fun i511 =>
 .exI fun i512 =>
 .exS fun a513 n513 c513 =>
 .exS fun a514 n514 c514 =>
 .exI fun i515 =>
 .exI fun i516 =>
 .exI fun i517 =>
 .exS fun a518 n518 c518 =>
 .exS fun a519 n519 c519 =>
 .exS fun a520 n520 c520 =>
 .exS fun a521 n521 c521 =>
 .exI fun i522 =>
 .exS fun a523 n523 c523 =>
 .isL v506 [.int .u64 i507, .int .i64 i508, .int .i64 i509, .int .i64 i510, .int .u64 i511, .int .u64 i512, .slice a513 n513 c513, .slice a514 n514 c514, .int .u64 i515, .int .i64 i516, .int .i64 i517, .slice a518 n518 c518, .slice a519 n519 c519, .slice a520 n520 c520, .slice a521 n521 c521, .int .u64 i522, .slice a523 n523 c523] <|
 .call 29 ([.agg #[.int .u64 i489, .int .i64 i490, .int .i64 i491, .int .i64 i492, .int .u64 i493, .int .u64 i494, .slice a495 n495 c495, .slice a496 n496 c496, .int .u64 i497, .int .i64 i498, .int .i64 i499, .slice a500 n500 c500, .slice a501 n501 c501, .slice a502 n502 c502, .slice a503 n503 c503, .int .u64 i504, .slice a505 n505 c505], .agg #[.int .u64 i507, .int .i64 i508, .int .i64 i509, .int .i64 i510, .int .u64 i511, .int .u64 i512, .slice a513 n513 c513, .slice a514 n514 c514, .int .u64 i515, .int .i64 i516, .int .i64 i517, .slice a518 n518 c518, .slice a519 n519 c519, .slice a520 n520 c520, .slice a521 n521 c521, .int .u64 i522, .slice a523 n523 c523]]) fun v524 =>
 .exB fun b525 =>
 .isL [v524] [.bool b525] <|
 bif !b525 then
  (.ret (.bool false))
 else
 (.load ⟨p64, 0, none⟩ 3 fun v526 =>
 .exS fun a527 n527 c527 =>
 .exS fun a528 n528 c528 =>
 .exS fun a529 n529 c529 =>
 .isL v526 [.slice a527 n527 c527, .slice a528 n528 c528, .slice a529 n529 c529] <|
 .load ⟨p105, 0, none⟩ 3 fun v530 =>
 .exS fun a531 n531 c531 =>
 .exS fun a532 n532 c532 =>
 .exS fun a533 n533 c533 =>
 .isL v530 [.slice a531 n531 c531, .slice a532 n532 c532, .slice a533 n533 c533] <|
 .call 40 ([.agg #[.slice a527 n527 c527, .slice a528 n528 c528, .slice a529 n529 c529], .agg #[.slice a531 n531 c531, .slice a532 n532 c532, .slice a533 n533 c533]]) fun v534 =>
 .exB fun b535 =>
 .isL [v534] [.bool b535] <|
 bif !b535 then
  (.ret (.bool false))
 else
 (.load ⟨p1, 0, none⟩ 17 fun v536 =>
 .exI fun i537 =>
 .exI fun i538 =>
 .exI fun i539 =>
 .exI fun i540 =>
 .exI fun i541 =>
 .exI fun i542 =>
 .exS fun a543 n543 c543 =>
 .exS fun a544 n544 c544 =>
 .exI fun i545 =>
 .exI fun i546 =>
 .exI fun i547 =>
 .exS fun a548 n548 c548 =>
 .exS fun a549 n549 c549 =>
 .exS fun a550 n550 c550 =>
 .exS fun a551 n551 c551 =>
 .exI fun i552 =>
 .exS fun a553 n553 c553 =>
 .isL v536 [.int .u64 i537, .int .i64 i538, .int .i64 i539, .int .i64 i540, .int .u64 i541, .int .u64 i542, .slice a543 n543 c543, .slice a544 n544 c544, .int .u64 i545, .int .i64 i546, .int .i64 i547, .slice a548 n548 c548, .slice a549 n549 c549, .slice a550 n550 c550, .slice a551 n551 c551, .int .u64 i552, .slice a553 n553 c553] <|
 .call 31 ([.agg #[.int .u64 i537, .int .i64 i538, .int .i64 i539, .int .i64 i540, .int .u64 i541, .int .u64 i542, .slice a543 n543 c543, .slice a544 n544 c544, .int .u64 i545, .int .i64 i546, .int .i64 i547, .slice a548 n548 c548, .slice a549 n549 c549, .slice a550 n550 c550, .slice a551 n551 c551, .int .u64 i552, .slice a553 n553 c553], .slice dataa datan datac]) fun v554 =>
 .exI fun i555 =>
 .exI fun i556 =>
 .exI fun i557 =>
 .exI fun i558 =>
 .exI fun i559 =>
 .exI fun i560 =>
 .exS fun a561 n561 c561 =>
 .exS fun a562 n562 c562 =>
 .exI fun i563 =>
 .exI fun i564 =>
 .exI fun i565 =>
 .exS fun a566 n566 c566 =>
 .exS fun a567 n567 c567 =>
 .exS fun a568 n568 c568 =>
 .exS fun a569 n569 c569 =>
 .exI fun i570 =>
 .exS fun a571 n571 c571 =>
 .exS fun a572 n572 c572 =>
 .exS fun a573 n573 c573 =>
 .exS fun a574 n574 c574 =>
 .isL [v554] [.tuple #[.agg #[.int .u64 i555, .int .i64 i556, .int .i64 i557, .int .i64 i558, .int .u64 i559, .int .u64 i560, .slice a561 n561 c561, .slice a562 n562 c562, .int .u64 i563, .int .i64 i564, .int .i64 i565, .slice a566 n566 c566, .slice a567 n567 c567, .slice a568 n568 c568, .slice a569 n569 c569, .int .u64 i570, .slice a571 n571 c571], .agg #[.slice a572 n572 c572, .slice a573 n573 c573, .slice a574 n574 c574]]] <|
 .store ⟨p63, 0, none⟩ [.int .u64 i555, .int .i64 i556, .int .i64 i557, .int .i64 i558, .int .u64 i559, .int .u64 i560, .slice a561 n561 c561, .slice a562 n562 c562, .int .u64 i563, .int .i64 i564, .int .i64 i565, .slice a566 n566 c566, .slice a567 n567 c567, .slice a568 n568 c568, .slice a569 n569 c569, .int .u64 i570, .slice a571 n571 c571] <|
 .store ⟨p64, 0, none⟩ [.slice a572 n572 c572, .slice a573 n573 c573, .slice a574 n574 c574] <|
 .load ⟨p1, 0, none⟩ 17 fun v575 =>
 .exI fun i576 =>
 .exI fun i577 =>
 .exI fun i578 =>
 .exI fun i579 =>
 .exI fun i580 =>
 .exI fun i581 =>
 .exS fun a582 n582 c582 =>
 .exS fun a583 n583 c583 =>
 .exI fun i584 =>
 .exI fun i585 =>
 .exI fun i586 =>
 .exS fun a587 n587 c587 =>
 .exS fun a588 n588 c588 =>
 .exS fun a589 n589 c589 =>
 .exS fun a590 n590 c590 =>
 .exI fun i591 =>
 .exS fun a592 n592 c592 =>
 .isL v575 [.int .u64 i576, .int .i64 i577, .int .i64 i578, .int .i64 i579, .int .u64 i580, .int .u64 i581, .slice a582 n582 c582, .slice a583 n583 c583, .int .u64 i584, .int .i64 i585, .int .i64 i586, .slice a587 n587 c587, .slice a588 n588 c588, .slice a589 n589 c589, .slice a590 n590 c590, .int .u64 i591, .slice a592 n592 c592] <|
 .call 44 ([.agg #[.int .u64 i576, .int .i64 i577, .int .i64 i578, .int .i64 i579, .int .u64 i580, .int .u64 i581, .slice a582 n582 c582, .slice a583 n583 c583, .int .u64 i584, .int .i64 i585, .int .i64 i586, .slice a587 n587 c587, .slice a588 n588 c588, .slice a589 n589 c589, .slice a590 n590 c590, .int .u64 i591, .slice a592 n592 c592], .slice dataa datan datac]) fun v593 =>
 .exI fun i594 =>
 .exI fun i595 =>
 .exI fun i596 =>
 .exI fun i597 =>
 .exI fun i598 =>
 .exI fun i599 =>
 .exS fun a600 n600 c600 =>
 .exS fun a601 n601 c601 =>
 .exI fun i602 =>
 .exI fun i603 =>
 .exI fun i604 =>
 .exS fun a605 n605 c605 =>
 .exS fun a606 n606 c606 =>
 .exS fun a607 n607 c607 =>
 .exS fun a608 n608 c608 =>
 .exI fun i609 =>
 .exS fun a610 n610 c610 =>
 .exS fun a611 n611 c611 =>
 .exS fun a612 n612 c612 =>
 .exS fun a613 n613 c613 =>
 .isL [v593] [.tuple #[.agg #[.int .u64 i594, .int .i64 i595, .int .i64 i596, .int .i64 i597, .int .u64 i598, .int .u64 i599, .slice a600 n600 c600, .slice a601 n601 c601, .int .u64 i602, .int .i64 i603, .int .i64 i604, .slice a605 n605 c605, .slice a606 n606 c606, .slice a607 n607 c607, .slice a608 n608 c608, .int .u64 i609, .slice a610 n610 c610], .agg #[.slice a611 n611 c611, .slice a612 n612 c612, .slice a613 n613 c613]]] <|
 .store ⟨p104, 0, none⟩ [.int .u64 i594, .int .i64 i595, .int .i64 i596, .int .i64 i597, .int .u64 i598, .int .u64 i599, .slice a600 n600 c600, .slice a601 n601 c601, .int .u64 i602, .int .i64 i603, .int .i64 i604, .slice a605 n605 c605, .slice a606 n606 c606, .slice a607 n607 c607, .slice a608 n608 c608, .int .u64 i609, .slice a610 n610 c610] <|
 .store ⟨p105, 0, none⟩ [.slice a611 n611 c611, .slice a612 n612 c612, .slice a613 n613 c613] <|
 .load ⟨p63, 0, none⟩ 17 fun v614 =>
 .exI fun i615 =>
 .exI fun i616 =>
 .exI fun i617 =>
 .exI fun i618 =>
 .exI fun i619 =>
 .exI fun i620 =>
 .exS fun a621 n621 c621 =>
 .exS fun a622 n622 c622 =>
 .exI fun i623 =>
 .exI fun i624 =>
 .exI fun i625 =>
 .exS fun a626 n626 c626 =>
 .exS fun a627 n627 c627 =>
 .exS fun a628 n628 c628 =>
 .exS fun a629 n629 c629 =>
 .exI fun i630 =>
 .exS fun a631 n631 c631 =>
 .isL v614 [.int .u64 i615, .int .i64 i616, .int .i64 i617, .int .i64 i618, .int .u64 i619, .int .u64 i620, .slice a621 n621 c621, .slice a622 n622 c622, .int .u64 i623, .int .i64 i624, .int .i64 i625, .slice a626 n626 c626, .slice a627 n627 c627, .slice a628 n628 c628, .slice a629 n629 c629, .int .u64 i630, .slice a631 n631 c631] <|
 .load ⟨p104, 0, none⟩ 17 fun v632 =>
 .exI fun i633 =>
 .exI fun i634 =>
 .exI fun i635 =>
 .exI fun i636 =>
 .exI fun i637 =>
 .exI fun i638 =>
 .exS fun a639 n639 c639 =>
 .exS fun a640 n640 c640 =>
 .exI fun i641 =>
 .exI fun i642 =>
 .exI fun i643 =>
 .exS fun a644 n644 c644 =>
 .exS fun a645 n645 c645 =>
 .exS fun a646 n646 c646 =>
 .exS fun a647 n647 c647 =>
 .exI fun i648 =>
 .exS fun a649 n649 c649 =>
 .isL v632 [.int .u64 i633, .int .i64 i634, .int .i64 i635, .int .i64 i636, .int .u64 i637, .int .u64 i638, .slice a639 n639 c639, .slice a640 n640 c640, .int .u64 i641, .int .i64 i642, .int .i64 i643, .slice a644 n644 c644, .slice a645 n645 c645, .slice a646 n646 c646, .slice a647 n647 c647, .int .u64 i648, .slice a649 n649 c649] <|
 .call 29 ([.agg #[.int .u64 i615, .int .i64 i616, .int .i64 i617, .int .i64 i618, .int .u64 i619, .int .u64 i620, .slice a621 n621 c621, .slice a622 n622 c622, .int .u64 i623, .int .i64 i624, .int .i64 i625, .slice a626 n626 c626, .slice a627 n627 c627, .slice a628 n628 c628, .slice a629 n629 c629, .int .u64 i630, .slice a631 n631 c631], .agg #[.int .u64 i633, .int .i64 i634, .int .i64 i635, .int .i64 i636, .int .u64 i637, .int .u64 i638, .slice a639 n639 c639, .slice a640 n640 c640, .int .u64 i641, .int .i64 i642, .int .i64 i643, .slice a644 n644 c644, .slice a645 n645 c645, .slice a646 n646 c646, .slice a647 n647 c647, .int .u64 i648, .slice a649 n649 c649]]) fun v650 =>
 .exB fun b651 =>
 .isL [v650] [.bool b651] <|
 bif b651 then
  (.load ⟨p64, 0, none⟩ 3 fun v652 =>
  .exS fun a653 n653 c653 =>
  .exS fun a654 n654 c654 =>
  .exS fun a655 n655 c655 =>
  .isL v652 [.slice a653 n653 c653, .slice a654 n654 c654, .slice a655 n655 c655] <|
  .load ⟨p105, 0, none⟩ 3 fun v656 =>
  .exS fun a657 n657 c657 =>
  .exS fun a658 n658 c658 =>
  .exS fun a659 n659 c659 =>
  .isL v656 [.slice a657 n657 c657, .slice a658 n658 c658, .slice a659 n659 c659] <|
  .call 40 ([.agg #[.slice a653 n653 c653, .slice a654 n654 c654, .slice a655 n655 c655], .agg #[.slice a657 n657 c657, .slice a658 n658 c658, .slice a659 n659 c659]]) fun v660 =>
  .exB fun b661 =>
  .isL [v660] [.bool b661] <|
  .ret (.bool b661))
 else
 (.ret (.bool false)))))))))))))))
theorem e7 (r0 : Int) (r1 : Int) (r2 : Int) (r3 : Int) (r4 : Int) (r5 : Int) (r6a : Option Addr) (r6n : Nat) (r6c : Nat) (r7a : Option Addr) (r7n : Nat) (r7c : Nat) (r8 : Int) (r9 : Int) (r10 : Int) (r11a : Option Addr) (r11n : Nat) (r11c : Nat) (r12a : Option Addr) (r12n : Nat) (r12c : Nat) (r13a : Option Addr) (r13n : Nat) (r13c : Nat) (r14a : Option Addr) (r14n : Nat) (r14c : Nat) (r15 : Int) (r16a : Option Addr) (r16n : Nat) (r16c : Nat) (dataa : Option Addr) (datan : Nat) (datac : Nat) (id : Int) : genFn Try.prog noM noM Try.f7 [.agg #[.int .u64 r0, .int .i64 r1, .int .i64 r2, .int .i64 r3, .int .u64 r4, .int .u64 r5, .slice r6a r6n r6c, .slice r7a r7n r7c, .int .u64 r8, .int .i64 r9, .int .i64 r10, .slice r11a r11n r11c, .slice r12a r12n r12c, .slice r13a r13n r13c, .slice r14a r14n r14c, .int .u64 r15, .slice r16a r16n r16c], .slice dataa datan datac, .int .u64 id] = t7 r0 r1 r2 r3 r4 r5 r6a r6n r6c r7a r7n r7c r8 r9 r10 r11a r11n r11c r12a r12n r12c r13a r13n r13c r14a r14n r14c r15 r16a r16n r16c dataa datan datac id := by kernel_rfl
theorem r7 (r0 : Int) (r1 : Int) (r2 : Int) (r3 : Int) (r4 : Int) (r5 : Int) (r6a : Option Addr) (r6n : Nat) (r6c : Nat) (r7a : Option Addr) (r7n : Nat) (r7c : Nat) (r8 : Int) (r9 : Int) (r10 : Int) (r11a : Option Addr) (r11n : Nat) (r11c : Nat) (r12a : Option Addr) (r12n : Nat) (r12c : Nat) (r13a : Option Addr) (r13n : Nat) (r13c : Nat) (r14a : Option Addr) (r14n : Nat) (r14c : Nat) (r15 : Int) (r16a : Option Addr) (r16n : Nat) (r16c : Nat) (dataa : Option Addr) (datan : Nat) (datac : Nat) (id : Int) {R : Value → World → Prop} {w : World} (h : (t7 r0 r1 r2 r3 r4 r5 r6a r6n r6c r7a r7n r7c r8 r9 r10 r11a r11n r11c r12a r12n r12c r13a r13n r13c r14a r14n r14c r15 r16a r16n r16c dataa datan datac id).wp Try.prog R (fun _ _ _ => False) w) : Runs Try.prog 7 [.agg #[.int .u64 r0, .int .i64 r1, .int .i64 r2, .int .i64 r3, .int .u64 r4, .int .u64 r5, .slice r6a r6n r6c, .slice r7a r7n r7c, .int .u64 r8, .int .i64 r9, .int .i64 r10, .slice r11a r11n r11c, .slice r12a r12n r12c, .slice r13a r13n r13c, .slice r14a r14n r14c, .int .u64 r15, .slice r16a r16n r16c], .slice dataa datan datac, .int .u64 id] w R :=
 genFn_runs mixed noM noM Try.func7 (by kernel_rfl) (by rw [e7]; exact h)
end Go.Proofs.Ytnbfffmdplcajaa
