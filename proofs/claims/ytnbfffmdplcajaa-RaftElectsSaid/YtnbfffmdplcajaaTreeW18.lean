/- The trees of verification conditions of functions 18: printed by a program of mine, checked here. -/
import Derived.Test.YtnbfffmdplcajaaTree0
set_option linter.unusedVariables false
set_option maxRecDepth 100000
namespace Go.Proofs.Ytnbfffmdplcajaa
open Go.Vc
def lv18 : Marks := (fun | some 7 => some [(6, .int .i64 0)] | _ => none)
def ct18 : Marks := (fun | some 19 => some [(11, .pointer none)] | _ => none)
def t18 (la : Option Addr) (ln : Nat) (lc : Nat) (second : Bool) : VC :=
 .call 22 ([]) fun v1 =>
 .exB fun b2 =>
 .isL [v1] [.bool b2] <|
 bif !b2 then
  (.ret (.bool false))
 else
 (bif (decide ((↑ln : Int) > 10)) then
  (.ret (.bool true))
 else
 (.new 30 [.int .u64 0, .int .i64 0, .int .u64 0, .int .u64 0, .slice none 0 0, .slice none 0 0] fun p3 =>
 .store ⟨p3, 0, none⟩ [.int .u64 9, .int .i64 0, .int .u64 0, .int .u64 0, .slice none 0 0, .slice la ln lc] <|
 .loop 0 [.int .i64 0] (fun v4 =>
  .exI fun i5 =>
  .isL v4 [.int .i64 i5] <|
  bif (decide (i5 < (↑ln : Int))) then
   (.some la fun x6 =>
   .need ((0 : Int) ≤ i5 ∧ i5 < (↑ln : Int)) <|
   .load (x6.add (i5.toNat * 2)) 1 fun v7 =>
   .exI fun i8 =>
   .isL v7 [.int .u64 i8] <|
   bif (decide (i8 > 9)) then
    (.ret (.bool true))
   else
   (.again 0 [.int .i64 (IntKind.i64.wrap (i5 + 1))]))
  else
  (bif second then
   (.load ⟨p3, 0, none⟩ 6 fun v9 =>
   .exI fun i10 =>
   .exI fun i11 =>
   .exI fun i12 =>
   .exI fun i13 =>
   .exS fun a14 n14 c14 =>
   .exS fun a15 n15 c15 =>
   .isL v9 [.int .u64 i10, .int .i64 i11, .int .u64 i12, .int .u64 i13, .slice a14 n14 c14, .slice a15 n15 c15] <|
   .call 23 ([.int .i64 1, .int .i64 3, .agg #[.int .u64 i10, .int .i64 i11, .int .u64 i12, .int .u64 i13, .slice a14 n14 c14, .slice a15 n15 c15]]) fun v16 =>
   .exI fun i17 =>
   .exI fun i18 =>
   .exI fun i19 =>
   .exI fun i20 =>
   .exI fun i21 =>
   .exI fun i22 =>
   .exS fun a23 n23 c23 =>
   .exS fun a24 n24 c24 =>
   .exI fun i25 =>
   .exI fun i26 =>
   .exI fun i27 =>
   .exS fun a28 n28 c28 =>
   .exS fun a29 n29 c29 =>
   .exS fun a30 n30 c30 =>
   .exS fun a31 n31 c31 =>
   .exI fun i32 =>
   .exS fun a33 n33 c33 =>
   .isL [v16] [.agg #[.int .u64 i17, .int .i64 i18, .int .i64 i19, .int .i64 i20, .int .u64 i21, .int .u64 i22, .slice a23 n23 c23, .slice a24 n24 c24, .int .u64 i25, .int .i64 i26, .int .i64 i27, .slice a28 n28 c28, .slice a29 n29 c29, .slice a30 n30 c30, .slice a31 n31 c31, .int .u64 i32, .slice a33 n33 c33]] <|
   .call 32 ([.agg #[.int .u64 i17, .int .i64 i18, .int .i64 i19, .int .i64 i20, .int .u64 i21, .int .u64 i22, .slice a23 n23 c23, .slice a24 n24 c24, .int .u64 i25, .int .i64 i26, .int .i64 i27, .slice a28 n28 c28, .slice a29 n29 c29, .slice a30 n30 c30, .slice a31 n31 c31, .int .u64 i32, .slice a33 n33 c33]]) fun v34 =>
   .exI fun i35 =>
   .exI fun i36 =>
   .exI fun i37 =>
   .exI fun i38 =>
   .exI fun i39 =>
   .exI fun i40 =>
   .exS fun a41 n41 c41 =>
   .exS fun a42 n42 c42 =>
   .exI fun i43 =>
   .exI fun i44 =>
   .exI fun i45 =>
   .exS fun a46 n46 c46 =>
   .exS fun a47 n47 c47 =>
   .exS fun a48 n48 c48 =>
   .exS fun a49 n49 c49 =>
   .exI fun i50 =>
   .exS fun a51 n51 c51 =>
   .exS fun a52 n52 c52 =>
   .exS fun a53 n53 c53 =>
   .exS fun a54 n54 c54 =>
   .isL [v34] [.tuple #[.agg #[.int .u64 i35, .int .i64 i36, .int .i64 i37, .int .i64 i38, .int .u64 i39, .int .u64 i40, .slice a41 n41 c41, .slice a42 n42 c42, .int .u64 i43, .int .i64 i44, .int .i64 i45, .slice a46 n46 c46, .slice a47 n47 c47, .slice a48 n48 c48, .slice a49 n49 c49, .int .u64 i50, .slice a51 n51 c51], .agg #[.slice a52 n52 c52, .slice a53 n53 c53, .slice a54 n54 c54]]] <|
   .new 36 [.int .u64 0, .int .i64 0, .int .i64 0, .int .i64 0, .int .u64 0, .int .u64 0, .slice none 0 0, .slice none 0 0, .int .u64 0, .int .i64 0, .int .i64 0, .slice none 0 0, .slice none 0 0, .slice none 0 0, .slice none 0 0, .int .u64 0, .slice none 0 0] fun p55 =>
   .new 48 [.slice none 0 0, .slice none 0 0, .slice none 0 0] fun p56 =>
   .store ⟨p55, 0, none⟩ [.int .u64 i35, .int .i64 i36, .int .i64 i37, .int .i64 i38, .int .u64 i39, .int .u64 i40, .slice a41 n41 c41, .slice a42 n42 c42, .int .u64 i43, .int .i64 i44, .int .i64 i45, .slice a46 n46 c46, .slice a47 n47 c47, .slice a48 n48 c48, .slice a49 n49 c49, .int .u64 i50, .slice a51 n51 c51] <|
   .store ⟨p56, 0, none⟩ [.slice a52 n52 c52, .slice a53 n53 c53, .slice a54 n54 c54] <|
   .load ⟨p3, 0, none⟩ 6 fun v57 =>
   .exI fun i58 =>
   .exI fun i59 =>
   .exI fun i60 =>
   .exI fun i61 =>
   .exS fun a62 n62 c62 =>
   .exS fun a63 n63 c63 =>
   .isL v57 [.int .u64 i58, .int .i64 i59, .int .u64 i60, .int .u64 i61, .slice a62 n62 c62, .slice a63 n63 c63] <|
   .call 23 ([.int .i64 3, .int .i64 3, .agg #[.int .u64 i58, .int .i64 i59, .int .u64 i60, .int .u64 i61, .slice a62 n62 c62, .slice a63 n63 c63]]) fun v64 =>
   .exI fun i65 =>
   .exI fun i66 =>
   .exI fun i67 =>
   .exI fun i68 =>
   .exI fun i69 =>
   .exI fun i70 =>
   .exS fun a71 n71 c71 =>
   .exS fun a72 n72 c72 =>
   .exI fun i73 =>
   .exI fun i74 =>
   .exI fun i75 =>
   .exS fun a76 n76 c76 =>
   .exS fun a77 n77 c77 =>
   .exS fun a78 n78 c78 =>
   .exS fun a79 n79 c79 =>
   .exI fun i80 =>
   .exS fun a81 n81 c81 =>
   .isL [v64] [.agg #[.int .u64 i65, .int .i64 i66, .int .i64 i67, .int .i64 i68, .int .u64 i69, .int .u64 i70, .slice a71 n71 c71, .slice a72 n72 c72, .int .u64 i73, .int .i64 i74, .int .i64 i75, .slice a76 n76 c76, .slice a77 n77 c77, .slice a78 n78 c78, .slice a79 n79 c79, .int .u64 i80, .slice a81 n81 c81]] <|
   .new 36 [.int .u64 0, .int .i64 0, .int .i64 0, .int .i64 0, .int .u64 0, .int .u64 0, .slice none 0 0, .slice none 0 0, .int .u64 0, .int .i64 0, .int .i64 0, .slice none 0 0, .slice none 0 0, .slice none 0 0, .slice none 0 0, .int .u64 0, .slice none 0 0] fun p82 =>
   .store ⟨p82, 0, none⟩ [.int .u64 i65, .int .i64 i66, .int .i64 i67, .int .i64 i68, .int .u64 i69, .int .u64 i70, .slice a71 n71 c71, .slice a72 n72 c72, .int .u64 i73, .int .i64 i74, .int .i64 i75, .slice a76 n76 c76, .slice a77 n77 c77, .slice a78 n78 c78, .slice a79 n79 c79, .int .u64 i80, .slice a81 n81 c81] <|
   .load ⟨p56, 1, none⟩ 1 fun v83 =>
   .exS fun a84 n84 c84 =>
   .isL v83 [.slice a84 n84 c84] <|
   bif ((↑n84 : Int) != 2) then
    (.ret (.bool false))
   else
   (.load ⟨p55, 0, none⟩ 1 fun v85 =>
   .exI fun i86 =>
   .isL v85 [.int .u64 i86] <|
   bif (i86 != 10) then
    (.ret (.bool false))
   else
   (.cut 0 (.draw <|
    .load ⟨p82, 0, none⟩ 17 fun v87 =>
    .exI fun i88 =>
    .exI fun i89 =>
    .exI fun i90 =>
    .exI fun i91 =>
    .exI fun i92 =>
    .exI fun i93 =>
    .exS fun a94 n94 c94 =>
    .exS fun a95 n95 c95 =>
    .exI fun i96 =>
    .exI fun i97 =>
    .exI fun i98 =>
    .exS fun a99 n99 c99 =>
    .exS fun a100 n100 c100 =>
    .exS fun a101 n101 c101 =>
    .exS fun a102 n102 c102 =>
    .exI fun i103 =>
    .exS fun a104 n104 c104 =>
    .isL v87 [.int .u64 i88, .int .i64 i89, .int .i64 i90, .int .i64 i91, .int .u64 i92, .int .u64 i93, .slice a94 n94 c94, .slice a95 n95 c95, .int .u64 i96, .int .i64 i97, .int .i64 i98, .slice a99 n99 c99, .slice a100 n100 c100, .slice a101 n101 c101, .slice a102 n102 c102, .int .u64 i103, .slice a104 n104 c104] <|
    .load ⟨p56, 1, none⟩ 1 fun v105 =>
    .exS fun a106 n106 c106 =>
    .isL v105 [.slice a106 n106 c106] <|
    .some a106 fun x107 =>
    .need ((0 : Int) ≤ IntKind.i64.wrap (3 - 2) ∧ IntKind.i64.wrap (3 - 2) < (↑n106 : Int)) <|
    .load (x107.add 21) 21 fun v108 =>
    .exI fun i109 =>
    .exI fun i110 =>
    .exI fun i111 =>
    .exI fun i112 =>
    .exI fun i113 =>
    .exI fun i114 =>
    .exS fun a115 n115 c115 =>
    .exI fun i116 =>
    .exI fun i117 =>
    .exB fun b118 =>
    .exI fun i119 =>
    .exI fun i120 =>
    .exS fun a121 n121 c121 =>
    .exI fun i122 =>
    .exI fun i123 =>
    .exI fun i124 =>
    .exT fun s125 =>
    .exT fun s126 =>
    .exI fun i127 =>
    .exI fun i128 =>
    .exT fun s129 =>
    .isL v108 [.int .i64 i109, .int .i64 i110, .int .i64 i111, .int .u64 i112, .int .u64 i113, .int .u64 i114, .slice a115 n115 c115, .int .u64 i116, .int .u64 i117, .bool b118, .int .u64 i119, .int .u64 i120, .slice a121 n121 c121, .int .i64 i122, .int .i64 i123, .int .u64 i124, .string s125, .string s126, .int .u64 i127, .int .i64 i128, .string s129] <|
    .both
     (.call 38 ([.agg #[.int .u64 i88, .int .i64 i89, .int .i64 i90, .int .i64 i91, .int .u64 i92, .int .u64 i93, .slice a94 n94 c94, .slice a95 n95 c95, .int .u64 i96, .int .i64 i97, .int .i64 i98, .slice a99 n99 c99, .slice a100 n100 c100, .slice a101 n101 c101, .slice a102 n102 c102, .int .u64 i103, .slice a104 n104 c104], .agg #[.int .i64 i109, .int .i64 i110, .int .i64 i111, .int .u64 i112, .int .u64 i113, .int .u64 i114, .slice a115 n115 c115, .int .u64 i116, .int .u64 i117, .bool b118, .int .u64 i119, .int .u64 i120, .slice a121 n121 c121, .int .i64 i122, .int .i64 i123, .int .u64 i124, .string s125, .string s126, .int .u64 i127, .int .i64 i128, .string s129]]) fun v130 =>
     .exI fun i131 =>
     .exI fun i132 =>
     .exI fun i133 =>
     .exI fun i134 =>
     .exI fun i135 =>
     .exI fun i136 =>
     .exS fun a137 n137 c137 =>
     .exS fun a138 n138 c138 =>
     .exI fun i139 =>
     .exI fun i140 =>
     .exI fun i141 =>
     .exS fun a142 n142 c142 =>
     .exS fun a143 n143 c143 =>
     .exS fun a144 n144 c144 =>
     .exS fun a145 n145 c145 =>
     .exI fun i146 =>
     .exS fun a147 n147 c147 =>
     .exS fun a148 n148 c148 =>
     .exS fun a149 n149 c149 =>
     .exS fun a150 n150 c150 =>
     .isL [v130] [.tuple #[.agg #[.int .u64 i131, .int .i64 i132, .int .i64 i133, .int .i64 i134, .int .u64 i135, .int .u64 i136, .slice a137 n137 c137, .slice a138 n138 c138, .int .u64 i139, .int .i64 i140, .int .i64 i141, .slice a142 n142 c142, .slice a143 n143 c143, .slice a144 n144 c144, .slice a145 n145 c145, .int .u64 i146, .slice a147 n147 c147], .agg #[.slice a148 n148 c148, .slice a149 n149 c149, .slice a150 n150 c150]]] <|
     .new 48 [.slice none 0 0, .slice none 0 0, .slice none 0 0] fun p151 =>
     .store ⟨p82, 0, none⟩ [.int .u64 i131, .int .i64 i132, .int .i64 i133, .int .i64 i134, .int .u64 i135, .int .u64 i136, .slice a137 n137 c137, .slice a138 n138 c138, .int .u64 i139, .int .i64 i140, .int .i64 i141, .slice a142 n142 c142, .slice a143 n143 c143, .slice a144 n144 c144, .slice a145 n145 c145, .int .u64 i146, .slice a147 n147 c147] <|
     .store ⟨p151, 0, none⟩ [.slice a148 n148 c148, .slice a149 n149 c149, .slice a150 n150 c150] <|
     .again 0 [.pointer (some ⟨p151, 0, none⟩)])
    (.new 48 [.slice none 0 0, .slice none 0 0, .slice none 0 0] fun p152 =>
    .call 38 ([.agg #[.int .u64 i88, .int .i64 i89, .int .i64 i90, .int .i64 i91, .int .u64 i92, .int .u64 i93, .slice a94 n94 c94, .slice a95 n95 c95, .int .u64 i96, .int .i64 i97, .int .i64 i98, .slice a99 n99 c99, .slice a100 n100 c100, .slice a101 n101 c101, .slice a102 n102 c102, .int .u64 i103, .slice a104 n104 c104], .agg #[.int .i64 i109, .int .i64 i110, .int .i64 i111, .int .u64 i112, .int .u64 i113, .int .u64 i114, .slice a115 n115 c115, .int .u64 i116, .int .u64 i117, .bool b118, .int .u64 i119, .int .u64 i120, .slice a121 n121 c121, .int .i64 i122, .int .i64 i123, .int .u64 i124, .string s125, .string s126, .int .u64 i127, .int .i64 i128, .string s129]]) fun v153 =>
    .exI fun i154 =>
    .exI fun i155 =>
    .exI fun i156 =>
    .exI fun i157 =>
    .exI fun i158 =>
    .exI fun i159 =>
    .exS fun a160 n160 c160 =>
    .exS fun a161 n161 c161 =>
    .exI fun i162 =>
    .exI fun i163 =>
    .exI fun i164 =>
    .exS fun a165 n165 c165 =>
    .exS fun a166 n166 c166 =>
    .exS fun a167 n167 c167 =>
    .exS fun a168 n168 c168 =>
    .exI fun i169 =>
    .exS fun a170 n170 c170 =>
    .exS fun a171 n171 c171 =>
    .exS fun a172 n172 c172 =>
    .exS fun a173 n173 c173 =>
    .isL [v153] [.tuple #[.agg #[.int .u64 i154, .int .i64 i155, .int .i64 i156, .int .i64 i157, .int .u64 i158, .int .u64 i159, .slice a160 n160 c160, .slice a161 n161 c161, .int .u64 i162, .int .i64 i163, .int .i64 i164, .slice a165 n165 c165, .slice a166 n166 c166, .slice a167 n167 c167, .slice a168 n168 c168, .int .u64 i169, .slice a170 n170 c170], .agg #[.slice a171 n171 c171, .slice a172 n172 c172, .slice a173 n173 c173]]] <|
    .store ⟨p82, 0, none⟩ [.int .u64 i154, .int .i64 i155, .int .i64 i156, .int .i64 i157, .int .u64 i158, .int .u64 i159, .slice a160 n160 c160, .slice a161 n161 c161, .int .u64 i162, .int .i64 i163, .int .i64 i164, .slice a165 n165 c165, .slice a166 n166 c166, .slice a167 n167 c167, .slice a168 n168 c168, .int .u64 i169, .slice a170 n170 c170] <|
    .store ⟨p152, 0, none⟩ [.slice a171 n171 c171, .slice a172 n172 c172, .slice a173 n173 c173] <|
    .again 0 [.pointer (some ⟨p152, 0, none⟩)])) (fun v1087 =>
   .exN fun p175 =>
   .isL v1087 [.pointer (some ⟨p175, 0, none⟩)] <|
   .load ⟨p175, 1, none⟩ 1 fun v176 =>
   .exS fun a177 n177 c177 =>
   .isL v176 [.slice a177 n177 c177] <|
   bif ((↑n177 : Int) != 1) then
    (.ret (.bool false))
   else
   (.load ⟨p175, 1, none⟩ 1 fun v178 =>
   .exS fun a179 n179 c179 =>
   .isL v178 [.slice a179 n179 c179] <|
   .some a179 fun x180 =>
   .need ((0 : Int) ≤ 0 ∧ 0 < (↑n179 : Int)) <|
   .load (x180.add 9) 1 fun v181 =>
   .exB fun b182 =>
   .isL v181 [.bool b182] <|
   bif !b182 then
    (.ret (.bool false))
   else
   (.load ⟨p82, 1, none⟩ 1 fun v183 =>
   .exI fun i184 =>
   .isL v183 [.int .i64 i184] <|
   bif (i184 != 1) then
    (.ret (.bool false))
   else
   (.draw <|
   .load ⟨p55, 0, none⟩ 17 fun v185 =>
   .exI fun i186 =>
   .exI fun i187 =>
   .exI fun i188 =>
   .exI fun i189 =>
   .exI fun i190 =>
   .exI fun i191 =>
   .exS fun a192 n192 c192 =>
   .exS fun a193 n193 c193 =>
   .exI fun i194 =>
   .exI fun i195 =>
   .exI fun i196 =>
   .exS fun a197 n197 c197 =>
   .exS fun a198 n198 c198 =>
   .exS fun a199 n199 c199 =>
   .exS fun a200 n200 c200 =>
   .exI fun i201 =>
   .exS fun a202 n202 c202 =>
   .isL v185 [.int .u64 i186, .int .i64 i187, .int .i64 i188, .int .i64 i189, .int .u64 i190, .int .u64 i191, .slice a192 n192 c192, .slice a193 n193 c193, .int .u64 i194, .int .i64 i195, .int .i64 i196, .slice a197 n197 c197, .slice a198 n198 c198, .slice a199 n199 c199, .slice a200 n200 c200, .int .u64 i201, .slice a202 n202 c202] <|
   .load ⟨p175, 1, none⟩ 1 fun v203 =>
   .exS fun a204 n204 c204 =>
   .isL v203 [.slice a204 n204 c204] <|
   .some a204 fun x205 =>
   .need ((0 : Int) ≤ 0 ∧ 0 < (↑n204 : Int)) <|
   .load x205 21 fun v206 =>
   .exI fun i207 =>
   .exI fun i208 =>
   .exI fun i209 =>
   .exI fun i210 =>
   .exI fun i211 =>
   .exI fun i212 =>
   .exS fun a213 n213 c213 =>
   .exI fun i214 =>
   .exI fun i215 =>
   .exB fun b216 =>
   .exI fun i217 =>
   .exI fun i218 =>
   .exS fun a219 n219 c219 =>
   .exI fun i220 =>
   .exI fun i221 =>
   .exI fun i222 =>
   .exT fun s223 =>
   .exT fun s224 =>
   .exI fun i225 =>
   .exI fun i226 =>
   .exT fun s227 =>
   .isL v206 [.int .i64 i207, .int .i64 i208, .int .i64 i209, .int .u64 i210, .int .u64 i211, .int .u64 i212, .slice a213 n213 c213, .int .u64 i214, .int .u64 i215, .bool b216, .int .u64 i217, .int .u64 i218, .slice a219 n219 c219, .int .i64 i220, .int .i64 i221, .int .u64 i222, .string s223, .string s224, .int .u64 i225, .int .i64 i226, .string s227] <|
   .call 38 ([.agg #[.int .u64 i186, .int .i64 i187, .int .i64 i188, .int .i64 i189, .int .u64 i190, .int .u64 i191, .slice a192 n192 c192, .slice a193 n193 c193, .int .u64 i194, .int .i64 i195, .int .i64 i196, .slice a197 n197 c197, .slice a198 n198 c198, .slice a199 n199 c199, .slice a200 n200 c200, .int .u64 i201, .slice a202 n202 c202], .agg #[.int .i64 i207, .int .i64 i208, .int .i64 i209, .int .u64 i210, .int .u64 i211, .int .u64 i212, .slice a213 n213 c213, .int .u64 i214, .int .u64 i215, .bool b216, .int .u64 i217, .int .u64 i218, .slice a219 n219 c219, .int .i64 i220, .int .i64 i221, .int .u64 i222, .string s223, .string s224, .int .u64 i225, .int .i64 i226, .string s227]]) fun v228 =>
   .exI fun i229 =>
   .exI fun i230 =>
   .exI fun i231 =>
   .exI fun i232 =>
   .exI fun i233 =>
   .exI fun i234 =>
   .exS fun a235 n235 c235 =>
   .exS fun a236 n236 c236 =>
   .exI fun i237 =>
   .exI fun i238 =>
   .exI fun i239 =>
   .exS fun a240 n240 c240 =>
   .exS fun a241 n241 c241 =>
   .exS fun a242 n242 c242 =>
   .exS fun a243 n243 c243 =>
   .exI fun i244 =>
   .exS fun a245 n245 c245 =>
   .exS fun a246 n246 c246 =>
   .exS fun a247 n247 c247 =>
   .exS fun a248 n248 c248 =>
   .isL [v228] [.tuple #[.agg #[.int .u64 i229, .int .i64 i230, .int .i64 i231, .int .i64 i232, .int .u64 i233, .int .u64 i234, .slice a235 n235 c235, .slice a236 n236 c236, .int .u64 i237, .int .i64 i238, .int .i64 i239, .slice a240 n240 c240, .slice a241 n241 c241, .slice a242 n242 c242, .slice a243 n243 c243, .int .u64 i244, .slice a245 n245 c245], .agg #[.slice a246 n246 c246, .slice a247 n247 c247, .slice a248 n248 c248]]] <|
   .store ⟨p55, 0, none⟩ [.int .u64 i229, .int .i64 i230, .int .i64 i231, .int .i64 i232, .int .u64 i233, .int .u64 i234, .slice a235 n235 c235, .slice a236 n236 c236, .int .u64 i237, .int .i64 i238, .int .i64 i239, .slice a240 n240 c240, .slice a241 n241 c241, .slice a242 n242 c242, .slice a243 n243 c243, .int .u64 i244, .slice a245 n245 c245] <|
   .store ⟨p56, 0, none⟩ [.slice a246 n246 c246, .slice a247 n247 c247, .slice a248 n248 c248] <|
   .load ⟨p55, 9, none⟩ 1 fun v249 =>
   .exI fun i250 =>
   .isL v249 [.int .i64 i250] <|
   bif (i250 != 2) then
    (.ret (.bool false))
   else
   (.load ⟨p56, 1, none⟩ 1 fun v251 =>
   .exS fun a252 n252 c252 =>
   .isL v251 [.slice a252 n252 c252] <|
   bif ((↑n252 : Int) != 2) then
    (.ret (.bool false))
   else
   (.load ⟨p55, 8, none⟩ 1 fun v253 =>
   .exI fun i254 =>
   .isL v253 [.int .u64 i254] <|
   bif (i254 != 0) then
    (.ret (.bool false))
   else
   (.draw <|
   .load ⟨p82, 0, none⟩ 17 fun v255 =>
   .exI fun i256 =>
   .exI fun i257 =>
   .exI fun i258 =>
   .exI fun i259 =>
   .exI fun i260 =>
   .exI fun i261 =>
   .exS fun a262 n262 c262 =>
   .exS fun a263 n263 c263 =>
   .exI fun i264 =>
   .exI fun i265 =>
   .exI fun i266 =>
   .exS fun a267 n267 c267 =>
   .exS fun a268 n268 c268 =>
   .exS fun a269 n269 c269 =>
   .exS fun a270 n270 c270 =>
   .exI fun i271 =>
   .exS fun a272 n272 c272 =>
   .isL v255 [.int .u64 i256, .int .i64 i257, .int .i64 i258, .int .i64 i259, .int .u64 i260, .int .u64 i261, .slice a262 n262 c262, .slice a263 n263 c263, .int .u64 i264, .int .i64 i265, .int .i64 i266, .slice a267 n267 c267, .slice a268 n268 c268, .slice a269 n269 c269, .slice a270 n270 c270, .int .u64 i271, .slice a272 n272 c272] <|
   .load ⟨p56, 1, none⟩ 1 fun v273 =>
   .exS fun a274 n274 c274 =>
   .isL v273 [.slice a274 n274 c274] <|
   .some a274 fun x275 =>
   .need ((0 : Int) ≤ IntKind.i64.wrap (3 - 2) ∧ IntKind.i64.wrap (3 - 2) < (↑n274 : Int)) <|
   .load (x275.add 21) 21 fun v276 =>
   .exI fun i277 =>
   .exI fun i278 =>
   .exI fun i279 =>
   .exI fun i280 =>
   .exI fun i281 =>
   .exI fun i282 =>
   .exS fun a283 n283 c283 =>
   .exI fun i284 =>
   .exI fun i285 =>
   .exB fun b286 =>
   .exI fun i287 =>
   .exI fun i288 =>
   .exS fun a289 n289 c289 =>
   .exI fun i290 =>
   .exI fun i291 =>
   .exI fun i292 =>
   .exT fun s293 =>
   .exT fun s294 =>
   .exI fun i295 =>
   .exI fun i296 =>
   .exT fun s297 =>
   .isL v276 [.int .i64 i277, .int .i64 i278, .int .i64 i279, .int .u64 i280, .int .u64 i281, .int .u64 i282, .slice a283 n283 c283, .int .u64 i284, .int .u64 i285, .bool b286, .int .u64 i287, .int .u64 i288, .slice a289 n289 c289, .int .i64 i290, .int .i64 i291, .int .u64 i292, .string s293, .string s294, .int .u64 i295, .int .i64 i296, .string s297] <|
   .call 38 ([.agg #[.int .u64 i256, .int .i64 i257, .int .i64 i258, .int .i64 i259, .int .u64 i260, .int .u64 i261, .slice a262 n262 c262, .slice a263 n263 c263, .int .u64 i264, .int .i64 i265, .int .i64 i266, .slice a267 n267 c267, .slice a268 n268 c268, .slice a269 n269 c269, .slice a270 n270 c270, .int .u64 i271, .slice a272 n272 c272], .agg #[.int .i64 i277, .int .i64 i278, .int .i64 i279, .int .u64 i280, .int .u64 i281, .int .u64 i282, .slice a283 n283 c283, .int .u64 i284, .int .u64 i285, .bool b286, .int .u64 i287, .int .u64 i288, .slice a289 n289 c289, .int .i64 i290, .int .i64 i291, .int .u64 i292, .string s293, .string s294, .int .u64 i295, .int .i64 i296, .string s297]]) fun v298 =>
   .exI fun i299 =>
   .exI fun i300 =>
   .exI fun i301 =>
   .exI fun i302 =>
   .exI fun i303 =>
   .exI fun i304 =>
   .exS fun a305 n305 c305 =>
   .exS fun a306 n306 c306 =>
   .exI fun i307 =>
   .exI fun i308 =>
   .exI fun i309 =>
   .exS fun a310 n310 c310 =>
   .exS fun a311 n311 c311 =>
   .exS fun a312 n312 c312 =>
   .exS fun a313 n313 c313 =>
   .exI fun i314 =>
   .exS fun a315 n315 c315 =>
   .exS fun a316 n316 c316 =>
   .exS fun a317 n317 c317 =>
   .exS fun a318 n318 c318 =>
   .isL [v298] [.tuple #[.agg #[.int .u64 i299, .int .i64 i300, .int .i64 i301, .int .i64 i302, .int .u64 i303, .int .u64 i304, .slice a305 n305 c305, .slice a306 n306 c306, .int .u64 i307, .int .i64 i308, .int .i64 i309, .slice a310 n310 c310, .slice a311 n311 c311, .slice a312 n312 c312, .slice a313 n313 c313, .int .u64 i314, .slice a315 n315 c315], .agg #[.slice a316 n316 c316, .slice a317 n317 c317, .slice a318 n318 c318]]] <|
   .store ⟨p82, 0, none⟩ [.int .u64 i299, .int .i64 i300, .int .i64 i301, .int .i64 i302, .int .u64 i303, .int .u64 i304, .slice a305 n305 c305, .slice a306 n306 c306, .int .u64 i307, .int .i64 i308, .int .i64 i309, .slice a310 n310 c310, .slice a311 n311 c311, .slice a312 n312 c312, .slice a313 n313 c313, .int .u64 i314, .slice a315 n315 c315] <|
   .store ⟨p175, 0, none⟩ [.slice a316 n316 c316, .slice a317 n317 c317, .slice a318 n318 c318] <|
   .load ⟨p175, 1, none⟩ 1 fun v319 =>
   .exS fun a320 n320 c320 =>
   .isL v319 [.slice a320 n320 c320] <|
   bif ((↑n320 : Int) != 1) then
    (.ret (.bool false))
   else
   (.load ⟨p175, 1, none⟩ 1 fun v321 =>
   .exS fun a322 n322 c322 =>
   .isL v321 [.slice a322 n322 c322] <|
   .some a322 fun x323 =>
   .need ((0 : Int) ≤ 0 ∧ 0 < (↑n322 : Int)) <|
   .load (x323.add 9) 1 fun v324 =>
   .exB fun b325 =>
   .isL v324 [.bool b325] <|
   bif !b325 then
    (.ret (.bool false))
   else
   (.load ⟨p82, 10, none⟩ 1 fun v326 =>
   .exI fun i327 =>
   .isL v326 [.int .i64 i327] <|
   bif (i327 != 1) then
    (.ret (.bool false))
   else
   (.draw <|
   .load ⟨p55, 0, none⟩ 17 fun v328 =>
   .exI fun i329 =>
   .exI fun i330 =>
   .exI fun i331 =>
   .exI fun i332 =>
   .exI fun i333 =>
   .exI fun i334 =>
   .exS fun a335 n335 c335 =>
   .exS fun a336 n336 c336 =>
   .exI fun i337 =>
   .exI fun i338 =>
   .exI fun i339 =>
   .exS fun a340 n340 c340 =>
   .exS fun a341 n341 c341 =>
   .exS fun a342 n342 c342 =>
   .exS fun a343 n343 c343 =>
   .exI fun i344 =>
   .exS fun a345 n345 c345 =>
   .isL v328 [.int .u64 i329, .int .i64 i330, .int .i64 i331, .int .i64 i332, .int .u64 i333, .int .u64 i334, .slice a335 n335 c335, .slice a336 n336 c336, .int .u64 i337, .int .i64 i338, .int .i64 i339, .slice a340 n340 c340, .slice a341 n341 c341, .slice a342 n342 c342, .slice a343 n343 c343, .int .u64 i344, .slice a345 n345 c345] <|
   .load ⟨p175, 1, none⟩ 1 fun v346 =>
   .exS fun a347 n347 c347 =>
   .isL v346 [.slice a347 n347 c347] <|
   .some a347 fun x348 =>
   .need ((0 : Int) ≤ 0 ∧ 0 < (↑n347 : Int)) <|
   .load x348 21 fun v349 =>
   .exI fun i350 =>
   .exI fun i351 =>
   .exI fun i352 =>
   .exI fun i353 =>
   .exI fun i354 =>
   .exI fun i355 =>
   .exS fun a356 n356 c356 =>
   .exI fun i357 =>
   .exI fun i358 =>
   .exB fun b359 =>
   .exI fun i360 =>
   .exI fun i361 =>
   .exS fun a362 n362 c362 =>
   .exI fun i363 =>
   .exI fun i364 =>
   .exI fun i365 =>
   .exT fun s366 =>
   .exT fun s367 =>
   .exI fun i368 =>
   .exI fun i369 =>
   .exT fun s370 =>
   .isL v349 [.int .i64 i350, .int .i64 i351, .int .i64 i352, .int .u64 i353, .int .u64 i354, .int .u64 i355, .slice a356 n356 c356, .int .u64 i357, .int .u64 i358, .bool b359, .int .u64 i360, .int .u64 i361, .slice a362 n362 c362, .int .i64 i363, .int .i64 i364, .int .u64 i365, .string s366, .string s367, .int .u64 i368, .int .i64 i369, .string s370] <|
   .call 38 ([.agg #[.int .u64 i329, .int .i64 i330, .int .i64 i331, .int .i64 i332, .int .u64 i333, .int .u64 i334, .slice a335 n335 c335, .slice a336 n336 c336, .int .u64 i337, .int .i64 i338, .int .i64 i339, .slice a340 n340 c340, .slice a341 n341 c341, .slice a342 n342 c342, .slice a343 n343 c343, .int .u64 i344, .slice a345 n345 c345], .agg #[.int .i64 i350, .int .i64 i351, .int .i64 i352, .int .u64 i353, .int .u64 i354, .int .u64 i355, .slice a356 n356 c356, .int .u64 i357, .int .u64 i358, .bool b359, .int .u64 i360, .int .u64 i361, .slice a362 n362 c362, .int .i64 i363, .int .i64 i364, .int .u64 i365, .string s366, .string s367, .int .u64 i368, .int .i64 i369, .string s370]]) fun v371 =>
   .exI fun i372 =>
   .exI fun i373 =>
   .exI fun i374 =>
   .exI fun i375 =>
   .exI fun i376 =>
   .exI fun i377 =>
   .exS fun a378 n378 c378 =>
   .exS fun a379 n379 c379 =>
   .exI fun i380 =>
   .exI fun i381 =>
   .exI fun i382 =>
   .exS fun a383 n383 c383 =>
   .exS fun a384 n384 c384 =>
   .exS fun a385 n385 c385 =>
   .exS fun a386 n386 c386 =>
   .exI fun i387 =>
   .exS fun a388 n388 c388 =>
   .exS fun a389 n389 c389 =>
   .exS fun a390 n390 c390 =>
   .exS fun a391 n391 c391 =>
   .isL [v371] [.tuple #[.agg #[.int .u64 i372, .int .i64 i373, .int .i64 i374, .int .i64 i375, .int .u64 i376, .int .u64 i377, .slice a378 n378 c378, .slice a379 n379 c379, .int .u64 i380, .int .i64 i381, .int .i64 i382, .slice a383 n383 c383, .slice a384 n384 c384, .slice a385 n385 c385, .slice a386 n386 c386, .int .u64 i387, .slice a388 n388 c388], .agg #[.slice a389 n389 c389, .slice a390 n390 c390, .slice a391 n391 c391]]] <|
   .store ⟨p55, 0, none⟩ [.int .u64 i372, .int .i64 i373, .int .i64 i374, .int .i64 i375, .int .u64 i376, .int .u64 i377, .slice a378 n378 c378, .slice a379 n379 c379, .int .u64 i380, .int .i64 i381, .int .i64 i382, .slice a383 n383 c383, .slice a384 n384 c384, .slice a385 n385 c385, .slice a386 n386 c386, .int .u64 i387, .slice a388 n388 c388] <|
   .load ⟨p55, 0, none⟩ 17 fun v392 =>
   .exI fun i393 =>
   .exI fun i394 =>
   .exI fun i395 =>
   .exI fun i396 =>
   .exI fun i397 =>
   .exI fun i398 =>
   .exS fun a399 n399 c399 =>
   .exS fun a400 n400 c400 =>
   .exI fun i401 =>
   .exI fun i402 =>
   .exI fun i403 =>
   .exS fun a404 n404 c404 =>
   .exS fun a405 n405 c405 =>
   .exS fun a406 n406 c406 =>
   .exS fun a407 n407 c407 =>
   .exI fun i408 =>
   .exS fun a409 n409 c409 =>
   .isL v392 [.int .u64 i393, .int .i64 i394, .int .i64 i395, .int .i64 i396, .int .u64 i397, .int .u64 i398, .slice a399 n399 c399, .slice a400 n400 c400, .int .u64 i401, .int .i64 i402, .int .i64 i403, .slice a404 n404 c404, .slice a405 n405 c405, .slice a406 n406 c406, .slice a407 n407 c407, .int .u64 i408, .slice a409 n409 c409] <|
   .call 41 ([.agg #[.int .u64 i393, .int .i64 i394, .int .i64 i395, .int .i64 i396, .int .u64 i397, .int .u64 i398, .slice a399 n399 c399, .slice a400 n400 c400, .int .u64 i401, .int .i64 i402, .int .i64 i403, .slice a404 n404 c404, .slice a405 n405 c405, .slice a406 n406 c406, .slice a407 n407 c407, .int .u64 i408, .slice a409 n409 c409]]) fun v410 =>
   .exI fun i411 =>
   .exI fun i412 =>
   .exI fun i413 =>
   .exI fun i414 =>
   .exI fun i415 =>
   .exI fun i416 =>
   .exS fun a417 n417 c417 =>
   .exS fun a418 n418 c418 =>
   .exI fun i419 =>
   .exI fun i420 =>
   .exI fun i421 =>
   .exS fun a422 n422 c422 =>
   .exS fun a423 n423 c423 =>
   .exS fun a424 n424 c424 =>
   .exS fun a425 n425 c425 =>
   .exI fun i426 =>
   .exS fun a427 n427 c427 =>
   .exS fun a428 n428 c428 =>
   .exS fun a429 n429 c429 =>
   .exS fun a430 n430 c430 =>
   .isL [v410] [.tuple #[.agg #[.int .u64 i411, .int .i64 i412, .int .i64 i413, .int .i64 i414, .int .u64 i415, .int .u64 i416, .slice a417 n417 c417, .slice a418 n418 c418, .int .u64 i419, .int .i64 i420, .int .i64 i421, .slice a422 n422 c422, .slice a423 n423 c423, .slice a424 n424 c424, .slice a425 n425 c425, .int .u64 i426, .slice a427 n427 c427], .agg #[.slice a428 n428 c428, .slice a429 n429 c429, .slice a430 n430 c430]]] <|
   .store ⟨p55, 0, none⟩ [.int .u64 i411, .int .i64 i412, .int .i64 i413, .int .i64 i414, .int .u64 i415, .int .u64 i416, .slice a417 n417 c417, .slice a418 n418 c418, .int .u64 i419, .int .i64 i420, .int .i64 i421, .slice a422 n422 c422, .slice a423 n423 c423, .slice a424 n424 c424, .slice a425 n425 c425, .int .u64 i426, .slice a427 n427 c427] <|
   .store ⟨p56, 0, none⟩ [.slice a428 n428 c428, .slice a429 n429 c429, .slice a430 n430 c430] <|
   .load ⟨p56, 1, none⟩ 1 fun v431 =>
   .exS fun a432 n432 c432 =>
   .isL v431 [.slice a432 n432 c432] <|
   bif ((↑n432 : Int) != 2) then
    (.ret (.bool false))
   else
   (.draw <|
   .load ⟨p82, 0, none⟩ 17 fun v433 =>
   .exI fun i434 =>
   .exI fun i435 =>
   .exI fun i436 =>
   .exI fun i437 =>
   .exI fun i438 =>
   .exI fun i439 =>
   .exS fun a440 n440 c440 =>
   .exS fun a441 n441 c441 =>
   .exI fun i442 =>
   .exI fun i443 =>
   .exI fun i444 =>
   .exS fun a445 n445 c445 =>
   .exS fun a446 n446 c446 =>
   .exS fun a447 n447 c447 =>
   .exS fun a448 n448 c448 =>
   .exI fun i449 =>
   .exS fun a450 n450 c450 =>
   .isL v433 [.int .u64 i434, .int .i64 i435, .int .i64 i436, .int .i64 i437, .int .u64 i438, .int .u64 i439, .slice a440 n440 c440, .slice a441 n441 c441, .int .u64 i442, .int .i64 i443, .int .i64 i444, .slice a445 n445 c445, .slice a446 n446 c446, .slice a447 n447 c447, .slice a448 n448 c448, .int .u64 i449, .slice a450 n450 c450] <|
   .load ⟨p56, 1, none⟩ 1 fun v451 =>
   .exS fun a452 n452 c452 =>
   .isL v451 [.slice a452 n452 c452] <|
   .some a452 fun x453 =>
   .need ((0 : Int) ≤ IntKind.i64.wrap (3 - 2) ∧ IntKind.i64.wrap (3 - 2) < (↑n452 : Int)) <|
   .load (x453.add 21) 21 fun v454 =>
   .exI fun i455 =>
   .exI fun i456 =>
   .exI fun i457 =>
   .exI fun i458 =>
   .exI fun i459 =>
   .exI fun i460 =>
   .exS fun a461 n461 c461 =>
   .exI fun i462 =>
   .exI fun i463 =>
   .exB fun b464 =>
   .exI fun i465 =>
   .exI fun i466 =>
   .exS fun a467 n467 c467 =>
   .exI fun i468 =>
   .exI fun i469 =>
   .exI fun i470 =>
   .exT fun s471 =>
   .exT fun s472 =>
   .exI fun i473 =>
   .exI fun i474 =>
   .exT fun s475 =>
   .isL v454 [.int .i64 i455, .int .i64 i456, .int .i64 i457, .int .u64 i458, .int .u64 i459, .int .u64 i460, .slice a461 n461 c461, .int .u64 i462, .int .u64 i463, .bool b464, .int .u64 i465, .int .u64 i466, .slice a467 n467 c467, .int .i64 i468, .int .i64 i469, .int .u64 i470, .string s471, .string s472, .int .u64 i473, .int .i64 i474, .string s475] <|
   .call 38 ([.agg #[.int .u64 i434, .int .i64 i435, .int .i64 i436, .int .i64 i437, .int .u64 i438, .int .u64 i439, .slice a440 n440 c440, .slice a441 n441 c441, .int .u64 i442, .int .i64 i443, .int .i64 i444, .slice a445 n445 c445, .slice a446 n446 c446, .slice a447 n447 c447, .slice a448 n448 c448, .int .u64 i449, .slice a450 n450 c450], .agg #[.int .i64 i455, .int .i64 i456, .int .i64 i457, .int .u64 i458, .int .u64 i459, .int .u64 i460, .slice a461 n461 c461, .int .u64 i462, .int .u64 i463, .bool b464, .int .u64 i465, .int .u64 i466, .slice a467 n467 c467, .int .i64 i468, .int .i64 i469, .int .u64 i470, .string s471, .string s472, .int .u64 i473, .int .i64 i474, .string s475]]) fun v476 =>
   .exI fun i477 =>
   .exI fun i478 =>
   .exI fun i479 =>
   .exI fun i480 =>
   .exI fun i481 =>
   .exI fun i482 =>
   .exS fun a483 n483 c483 =>
   .exS fun a484 n484 c484 =>
   .exI fun i485 =>
   .exI fun i486 =>
   .exI fun i487 =>
   .exS fun a488 n488 c488 =>
   .exS fun a489 n489 c489 =>
   .exS fun a490 n490 c490 =>
   .exS fun a491 n491 c491 =>
   .exI fun i492 =>
   .exS fun a493 n493 c493 =>
   .exS fun a494 n494 c494 =>
   .exS fun a495 n495 c495 =>
   .exS fun a496 n496 c496 =>
   .isL [v476] [.tuple #[.agg #[.int .u64 i477, .int .i64 i478, .int .i64 i479, .int .i64 i480, .int .u64 i481, .int .u64 i482, .slice a483 n483 c483, .slice a484 n484 c484, .int .u64 i485, .int .i64 i486, .int .i64 i487, .slice a488 n488 c488, .slice a489 n489 c489, .slice a490 n490 c490, .slice a491 n491 c491, .int .u64 i492, .slice a493 n493 c493], .agg #[.slice a494 n494 c494, .slice a495 n495 c495, .slice a496 n496 c496]]] <|
   .store ⟨p82, 0, none⟩ [.int .u64 i477, .int .i64 i478, .int .i64 i479, .int .i64 i480, .int .u64 i481, .int .u64 i482, .slice a483 n483 c483, .slice a484 n484 c484, .int .u64 i485, .int .i64 i486, .int .i64 i487, .slice a488 n488 c488, .slice a489 n489 c489, .slice a490 n490 c490, .slice a491 n491 c491, .int .u64 i492, .slice a493 n493 c493] <|
   .load ⟨p55, 8, none⟩ 1 fun v497 =>
   .exI fun i498 =>
   .isL v497 [.int .u64 i498] <|
   bif (i498 == IntKind.u64.wrap (IntKind.u64.wrap (↑ln : Int) + 1)) then
    (.load ⟨p82, 8, none⟩ 1 fun v499 =>
    .exI fun i500 =>
    .isL v499 [.int .u64 i500] <|
    bif (i500 == IntKind.u64.wrap (IntKind.u64.wrap (↑ln : Int) + 1)) then
     (.load ⟨p55, 7, none⟩ 1 fun v501 =>
     .exS fun a502 n502 c502 =>
     .isL v501 [.slice a502 n502 c502] <|
     .load ⟨p82, 7, none⟩ 1 fun v503 =>
     .exS fun a504 n504 c504 =>
     .isL v503 [.slice a504 n504 c504] <|
     .call 48 ([.slice a502 n502 c502, .slice a504 n504 c504]) fun v505 =>
     .exB fun b506 =>
     .isL [v505] [.bool b506] <|
     bif b506 then
      (.load ⟨p55, 7, none⟩ 1 fun v507 =>
      .exS fun a508 n508 c508 =>
      .isL v507 [.slice a508 n508 c508] <|
      .ret (.bool ((↑n508 : Int) == IntKind.i64.wrap ((↑ln : Int) + 1))))
     else
     (.ret (.bool false)))
    else
    (.ret (.bool false)))
   else
   (.ret (.bool false))))))))))))))))
  else
  (.load ⟨p3, 0, none⟩ 6 fun v509 =>
  .exI fun i510 =>
  .exI fun i511 =>
  .exI fun i512 =>
  .exI fun i513 =>
  .exS fun a514 n514 c514 =>
  .exS fun a515 n515 c515 =>
  .isL v509 [.int .u64 i510, .int .i64 i511, .int .u64 i512, .int .u64 i513, .slice a514 n514 c514, .slice a515 n515 c515] <|
  .call 23 ([.int .i64 1, .int .i64 3, .agg #[.int .u64 i510, .int .i64 i511, .int .u64 i512, .int .u64 i513, .slice a514 n514 c514, .slice a515 n515 c515]]) fun v516 =>
  .exI fun i517 =>
  .exI fun i518 =>
  .exI fun i519 =>
  .exI fun i520 =>
  .exI fun i521 =>
  .exI fun i522 =>
  .exS fun a523 n523 c523 =>
  .exS fun a524 n524 c524 =>
  .exI fun i525 =>
  .exI fun i526 =>
  .exI fun i527 =>
  .exS fun a528 n528 c528 =>
  .exS fun a529 n529 c529 =>
  .exS fun a530 n530 c530 =>
  .exS fun a531 n531 c531 =>
  .exI fun i532 =>
  .exS fun a533 n533 c533 =>
  .isL [v516] [.agg #[.int .u64 i517, .int .i64 i518, .int .i64 i519, .int .i64 i520, .int .u64 i521, .int .u64 i522, .slice a523 n523 c523, .slice a524 n524 c524, .int .u64 i525, .int .i64 i526, .int .i64 i527, .slice a528 n528 c528, .slice a529 n529 c529, .slice a530 n530 c530, .slice a531 n531 c531, .int .u64 i532, .slice a533 n533 c533]] <|
  .call 32 ([.agg #[.int .u64 i517, .int .i64 i518, .int .i64 i519, .int .i64 i520, .int .u64 i521, .int .u64 i522, .slice a523 n523 c523, .slice a524 n524 c524, .int .u64 i525, .int .i64 i526, .int .i64 i527, .slice a528 n528 c528, .slice a529 n529 c529, .slice a530 n530 c530, .slice a531 n531 c531, .int .u64 i532, .slice a533 n533 c533]]) fun v534 =>
  .exI fun i535 =>
  .exI fun i536 =>
  .exI fun i537 =>
  .exI fun i538 =>
  .exI fun i539 =>
  .exI fun i540 =>
  .exS fun a541 n541 c541 =>
  .exS fun a542 n542 c542 =>
  .exI fun i543 =>
  .exI fun i544 =>
  .exI fun i545 =>
  .exS fun a546 n546 c546 =>
  .exS fun a547 n547 c547 =>
  .exS fun a548 n548 c548 =>
  .exS fun a549 n549 c549 =>
  .exI fun i550 =>
  .exS fun a551 n551 c551 =>
  .exS fun a552 n552 c552 =>
  .exS fun a553 n553 c553 =>
  .exS fun a554 n554 c554 =>
  .isL [v534] [.tuple #[.agg #[.int .u64 i535, .int .i64 i536, .int .i64 i537, .int .i64 i538, .int .u64 i539, .int .u64 i540, .slice a541 n541 c541, .slice a542 n542 c542, .int .u64 i543, .int .i64 i544, .int .i64 i545, .slice a546 n546 c546, .slice a547 n547 c547, .slice a548 n548 c548, .slice a549 n549 c549, .int .u64 i550, .slice a551 n551 c551], .agg #[.slice a552 n552 c552, .slice a553 n553 c553, .slice a554 n554 c554]]] <|
  .new 36 [.int .u64 0, .int .i64 0, .int .i64 0, .int .i64 0, .int .u64 0, .int .u64 0, .slice none 0 0, .slice none 0 0, .int .u64 0, .int .i64 0, .int .i64 0, .slice none 0 0, .slice none 0 0, .slice none 0 0, .slice none 0 0, .int .u64 0, .slice none 0 0] fun p555 =>
  .new 48 [.slice none 0 0, .slice none 0 0, .slice none 0 0] fun p556 =>
  .store ⟨p555, 0, none⟩ [.int .u64 i535, .int .i64 i536, .int .i64 i537, .int .i64 i538, .int .u64 i539, .int .u64 i540, .slice a541 n541 c541, .slice a542 n542 c542, .int .u64 i543, .int .i64 i544, .int .i64 i545, .slice a546 n546 c546, .slice a547 n547 c547, .slice a548 n548 c548, .slice a549 n549 c549, .int .u64 i550, .slice a551 n551 c551] <|
  .store ⟨p556, 0, none⟩ [.slice a552 n552 c552, .slice a553 n553 c553, .slice a554 n554 c554] <|
  .load ⟨p3, 0, none⟩ 6 fun v557 =>
  .exI fun i558 =>
  .exI fun i559 =>
  .exI fun i560 =>
  .exI fun i561 =>
  .exS fun a562 n562 c562 =>
  .exS fun a563 n563 c563 =>
  .isL v557 [.int .u64 i558, .int .i64 i559, .int .u64 i560, .int .u64 i561, .slice a562 n562 c562, .slice a563 n563 c563] <|
  .call 23 ([.int .i64 2, .int .i64 3, .agg #[.int .u64 i558, .int .i64 i559, .int .u64 i560, .int .u64 i561, .slice a562 n562 c562, .slice a563 n563 c563]]) fun v564 =>
  .exI fun i565 =>
  .exI fun i566 =>
  .exI fun i567 =>
  .exI fun i568 =>
  .exI fun i569 =>
  .exI fun i570 =>
  .exS fun a571 n571 c571 =>
  .exS fun a572 n572 c572 =>
  .exI fun i573 =>
  .exI fun i574 =>
  .exI fun i575 =>
  .exS fun a576 n576 c576 =>
  .exS fun a577 n577 c577 =>
  .exS fun a578 n578 c578 =>
  .exS fun a579 n579 c579 =>
  .exI fun i580 =>
  .exS fun a581 n581 c581 =>
  .isL [v564] [.agg #[.int .u64 i565, .int .i64 i566, .int .i64 i567, .int .i64 i568, .int .u64 i569, .int .u64 i570, .slice a571 n571 c571, .slice a572 n572 c572, .int .u64 i573, .int .i64 i574, .int .i64 i575, .slice a576 n576 c576, .slice a577 n577 c577, .slice a578 n578 c578, .slice a579 n579 c579, .int .u64 i580, .slice a581 n581 c581]] <|
  .new 36 [.int .u64 0, .int .i64 0, .int .i64 0, .int .i64 0, .int .u64 0, .int .u64 0, .slice none 0 0, .slice none 0 0, .int .u64 0, .int .i64 0, .int .i64 0, .slice none 0 0, .slice none 0 0, .slice none 0 0, .slice none 0 0, .int .u64 0, .slice none 0 0] fun p582 =>
  .store ⟨p582, 0, none⟩ [.int .u64 i565, .int .i64 i566, .int .i64 i567, .int .i64 i568, .int .u64 i569, .int .u64 i570, .slice a571 n571 c571, .slice a572 n572 c572, .int .u64 i573, .int .i64 i574, .int .i64 i575, .slice a576 n576 c576, .slice a577 n577 c577, .slice a578 n578 c578, .slice a579 n579 c579, .int .u64 i580, .slice a581 n581 c581] <|
  .load ⟨p556, 1, none⟩ 1 fun v583 =>
  .exS fun a584 n584 c584 =>
  .isL v583 [.slice a584 n584 c584] <|
  bif ((↑n584 : Int) != 2) then
   (.ret (.bool false))
  else
  (.load ⟨p555, 0, none⟩ 1 fun v585 =>
  .exI fun i586 =>
  .isL v585 [.int .u64 i586] <|
  bif (i586 != 10) then
   (.ret (.bool false))
  else
  (.cut 0 (.draw <|
   .load ⟨p582, 0, none⟩ 17 fun v587 =>
   .exI fun i588 =>
   .exI fun i589 =>
   .exI fun i590 =>
   .exI fun i591 =>
   .exI fun i592 =>
   .exI fun i593 =>
   .exS fun a594 n594 c594 =>
   .exS fun a595 n595 c595 =>
   .exI fun i596 =>
   .exI fun i597 =>
   .exI fun i598 =>
   .exS fun a599 n599 c599 =>
   .exS fun a600 n600 c600 =>
   .exS fun a601 n601 c601 =>
   .exS fun a602 n602 c602 =>
   .exI fun i603 =>
   .exS fun a604 n604 c604 =>
   .isL v587 [.int .u64 i588, .int .i64 i589, .int .i64 i590, .int .i64 i591, .int .u64 i592, .int .u64 i593, .slice a594 n594 c594, .slice a595 n595 c595, .int .u64 i596, .int .i64 i597, .int .i64 i598, .slice a599 n599 c599, .slice a600 n600 c600, .slice a601 n601 c601, .slice a602 n602 c602, .int .u64 i603, .slice a604 n604 c604] <|
   .load ⟨p556, 1, none⟩ 1 fun v605 =>
   .exS fun a606 n606 c606 =>
   .isL v605 [.slice a606 n606 c606] <|
   .some a606 fun x607 =>
   .need ((0 : Int) ≤ IntKind.i64.wrap (2 - 2) ∧ IntKind.i64.wrap (2 - 2) < (↑n606 : Int)) <|
   .load x607 21 fun v608 =>
   .exI fun i609 =>
   .exI fun i610 =>
   .exI fun i611 =>
   .exI fun i612 =>
   .exI fun i613 =>
   .exI fun i614 =>
   .exS fun a615 n615 c615 =>
   .exI fun i616 =>
   .exI fun i617 =>
   .exB fun b618 =>
   .exI fun i619 =>
   .exI fun i620 =>
   .exS fun a621 n621 c621 =>
   .exI fun i622 =>
   .exI fun i623 =>
   .exI fun i624 =>
   .exT fun s625 =>
   .exT fun s626 =>
   .exI fun i627 =>
   .exI fun i628 =>
   .exT fun s629 =>
   .isL v608 [.int .i64 i609, .int .i64 i610, .int .i64 i611, .int .u64 i612, .int .u64 i613, .int .u64 i614, .slice a615 n615 c615, .int .u64 i616, .int .u64 i617, .bool b618, .int .u64 i619, .int .u64 i620, .slice a621 n621 c621, .int .i64 i622, .int .i64 i623, .int .u64 i624, .string s625, .string s626, .int .u64 i627, .int .i64 i628, .string s629] <|
   .both
    (.call 38 ([.agg #[.int .u64 i588, .int .i64 i589, .int .i64 i590, .int .i64 i591, .int .u64 i592, .int .u64 i593, .slice a594 n594 c594, .slice a595 n595 c595, .int .u64 i596, .int .i64 i597, .int .i64 i598, .slice a599 n599 c599, .slice a600 n600 c600, .slice a601 n601 c601, .slice a602 n602 c602, .int .u64 i603, .slice a604 n604 c604], .agg #[.int .i64 i609, .int .i64 i610, .int .i64 i611, .int .u64 i612, .int .u64 i613, .int .u64 i614, .slice a615 n615 c615, .int .u64 i616, .int .u64 i617, .bool b618, .int .u64 i619, .int .u64 i620, .slice a621 n621 c621, .int .i64 i622, .int .i64 i623, .int .u64 i624, .string s625, .string s626, .int .u64 i627, .int .i64 i628, .string s629]]) fun v630 =>
    .exI fun i631 =>
    .exI fun i632 =>
    .exI fun i633 =>
    .exI fun i634 =>
    .exI fun i635 =>
    .exI fun i636 =>
    .exS fun a637 n637 c637 =>
    .exS fun a638 n638 c638 =>
    .exI fun i639 =>
    .exI fun i640 =>
    .exI fun i641 =>
    .exS fun a642 n642 c642 =>
    .exS fun a643 n643 c643 =>
    .exS fun a644 n644 c644 =>
    .exS fun a645 n645 c645 =>
    .exI fun i646 =>
    .exS fun a647 n647 c647 =>
    .exS fun a648 n648 c648 =>
    .exS fun a649 n649 c649 =>
    .exS fun a650 n650 c650 =>
    .isL [v630] [.tuple #[.agg #[.int .u64 i631, .int .i64 i632, .int .i64 i633, .int .i64 i634, .int .u64 i635, .int .u64 i636, .slice a637 n637 c637, .slice a638 n638 c638, .int .u64 i639, .int .i64 i640, .int .i64 i641, .slice a642 n642 c642, .slice a643 n643 c643, .slice a644 n644 c644, .slice a645 n645 c645, .int .u64 i646, .slice a647 n647 c647], .agg #[.slice a648 n648 c648, .slice a649 n649 c649, .slice a650 n650 c650]]] <|
    .new 48 [.slice none 0 0, .slice none 0 0, .slice none 0 0] fun p651 =>
    .store ⟨p582, 0, none⟩ [.int .u64 i631, .int .i64 i632, .int .i64 i633, .int .i64 i634, .int .u64 i635, .int .u64 i636, .slice a637 n637 c637, .slice a638 n638 c638, .int .u64 i639, .int .i64 i640, .int .i64 i641, .slice a642 n642 c642, .slice a643 n643 c643, .slice a644 n644 c644, .slice a645 n645 c645, .int .u64 i646, .slice a647 n647 c647] <|
    .store ⟨p651, 0, none⟩ [.slice a648 n648 c648, .slice a649 n649 c649, .slice a650 n650 c650] <|
    .again 0 [.pointer (some ⟨p651, 0, none⟩)])
   (.new 48 [.slice none 0 0, .slice none 0 0, .slice none 0 0] fun p652 =>
   .call 38 ([.agg #[.int .u64 i588, .int .i64 i589, .int .i64 i590, .int .i64 i591, .int .u64 i592, .int .u64 i593, .slice a594 n594 c594, .slice a595 n595 c595, .int .u64 i596, .int .i64 i597, .int .i64 i598, .slice a599 n599 c599, .slice a600 n600 c600, .slice a601 n601 c601, .slice a602 n602 c602, .int .u64 i603, .slice a604 n604 c604], .agg #[.int .i64 i609, .int .i64 i610, .int .i64 i611, .int .u64 i612, .int .u64 i613, .int .u64 i614, .slice a615 n615 c615, .int .u64 i616, .int .u64 i617, .bool b618, .int .u64 i619, .int .u64 i620, .slice a621 n621 c621, .int .i64 i622, .int .i64 i623, .int .u64 i624, .string s625, .string s626, .int .u64 i627, .int .i64 i628, .string s629]]) fun v653 =>
   .exI fun i654 =>
   .exI fun i655 =>
   .exI fun i656 =>
   .exI fun i657 =>
   .exI fun i658 =>
   .exI fun i659 =>
   .exS fun a660 n660 c660 =>
   .exS fun a661 n661 c661 =>
   .exI fun i662 =>
   .exI fun i663 =>
   .exI fun i664 =>
   .exS fun a665 n665 c665 =>
   .exS fun a666 n666 c666 =>
   .exS fun a667 n667 c667 =>
   .exS fun a668 n668 c668 =>
   .exI fun i669 =>
   .exS fun a670 n670 c670 =>
   .exS fun a671 n671 c671 =>
   .exS fun a672 n672 c672 =>
   .exS fun a673 n673 c673 =>
   .isL [v653] [.tuple #[.agg #[.int .u64 i654, .int .i64 i655, .int .i64 i656, .int .i64 i657, .int .u64 i658, .int .u64 i659, .slice a660 n660 c660, .slice a661 n661 c661, .int .u64 i662, .int .i64 i663, .int .i64 i664, .slice a665 n665 c665, .slice a666 n666 c666, .slice a667 n667 c667, .slice a668 n668 c668, .int .u64 i669, .slice a670 n670 c670], .agg #[.slice a671 n671 c671, .slice a672 n672 c672, .slice a673 n673 c673]]] <|
   .store ⟨p582, 0, none⟩ [.int .u64 i654, .int .i64 i655, .int .i64 i656, .int .i64 i657, .int .u64 i658, .int .u64 i659, .slice a660 n660 c660, .slice a661 n661 c661, .int .u64 i662, .int .i64 i663, .int .i64 i664, .slice a665 n665 c665, .slice a666 n666 c666, .slice a667 n667 c667, .slice a668 n668 c668, .int .u64 i669, .slice a670 n670 c670] <|
   .store ⟨p652, 0, none⟩ [.slice a671 n671 c671, .slice a672 n672 c672, .slice a673 n673 c673] <|
   .again 0 [.pointer (some ⟨p652, 0, none⟩)])) (fun v1587 =>
  .exN fun p675 =>
  .isL v1587 [.pointer (some ⟨p675, 0, none⟩)] <|
  .load ⟨p675, 1, none⟩ 1 fun v676 =>
  .exS fun a677 n677 c677 =>
  .isL v676 [.slice a677 n677 c677] <|
  bif ((↑n677 : Int) != 1) then
   (.ret (.bool false))
  else
  (.load ⟨p675, 1, none⟩ 1 fun v678 =>
  .exS fun a679 n679 c679 =>
  .isL v678 [.slice a679 n679 c679] <|
  .some a679 fun x680 =>
  .need ((0 : Int) ≤ 0 ∧ 0 < (↑n679 : Int)) <|
  .load (x680.add 9) 1 fun v681 =>
  .exB fun b682 =>
  .isL v681 [.bool b682] <|
  bif !b682 then
   (.ret (.bool false))
  else
  (.load ⟨p582, 1, none⟩ 1 fun v683 =>
  .exI fun i684 =>
  .isL v683 [.int .i64 i684] <|
  bif (i684 != 1) then
   (.ret (.bool false))
  else
  (.draw <|
  .load ⟨p555, 0, none⟩ 17 fun v685 =>
  .exI fun i686 =>
  .exI fun i687 =>
  .exI fun i688 =>
  .exI fun i689 =>
  .exI fun i690 =>
  .exI fun i691 =>
  .exS fun a692 n692 c692 =>
  .exS fun a693 n693 c693 =>
  .exI fun i694 =>
  .exI fun i695 =>
  .exI fun i696 =>
  .exS fun a697 n697 c697 =>
  .exS fun a698 n698 c698 =>
  .exS fun a699 n699 c699 =>
  .exS fun a700 n700 c700 =>
  .exI fun i701 =>
  .exS fun a702 n702 c702 =>
  .isL v685 [.int .u64 i686, .int .i64 i687, .int .i64 i688, .int .i64 i689, .int .u64 i690, .int .u64 i691, .slice a692 n692 c692, .slice a693 n693 c693, .int .u64 i694, .int .i64 i695, .int .i64 i696, .slice a697 n697 c697, .slice a698 n698 c698, .slice a699 n699 c699, .slice a700 n700 c700, .int .u64 i701, .slice a702 n702 c702] <|
  .load ⟨p675, 1, none⟩ 1 fun v703 =>
  .exS fun a704 n704 c704 =>
  .isL v703 [.slice a704 n704 c704] <|
  .some a704 fun x705 =>
  .need ((0 : Int) ≤ 0 ∧ 0 < (↑n704 : Int)) <|
  .load x705 21 fun v706 =>
  .exI fun i707 =>
  .exI fun i708 =>
  .exI fun i709 =>
  .exI fun i710 =>
  .exI fun i711 =>
  .exI fun i712 =>
  .exS fun a713 n713 c713 =>
  .exI fun i714 =>
  .exI fun i715 =>
  .exB fun b716 =>
  .exI fun i717 =>
  .exI fun i718 =>
  .exS fun a719 n719 c719 =>
  .exI fun i720 =>
  .exI fun i721 =>
  .exI fun i722 =>
  .exT fun s723 =>
  .exT fun s724 =>
  .exI fun i725 =>
  .exI fun i726 =>
  .exT fun s727 =>
  .isL v706 [.int .i64 i707, .int .i64 i708, .int .i64 i709, .int .u64 i710, .int .u64 i711, .int .u64 i712, .slice a713 n713 c713, .int .u64 i714, .int .u64 i715, .bool b716, .int .u64 i717, .int .u64 i718, .slice a719 n719 c719, .int .i64 i720, .int .i64 i721, .int .u64 i722, .string s723, .string s724, .int .u64 i725, .int .i64 i726, .string s727] <|
  .call 38 ([.agg #[.int .u64 i686, .int .i64 i687, .int .i64 i688, .int .i64 i689, .int .u64 i690, .int .u64 i691, .slice a692 n692 c692, .slice a693 n693 c693, .int .u64 i694, .int .i64 i695, .int .i64 i696, .slice a697 n697 c697, .slice a698 n698 c698, .slice a699 n699 c699, .slice a700 n700 c700, .int .u64 i701, .slice a702 n702 c702], .agg #[.int .i64 i707, .int .i64 i708, .int .i64 i709, .int .u64 i710, .int .u64 i711, .int .u64 i712, .slice a713 n713 c713, .int .u64 i714, .int .u64 i715, .bool b716, .int .u64 i717, .int .u64 i718, .slice a719 n719 c719, .int .i64 i720, .int .i64 i721, .int .u64 i722, .string s723, .string s724, .int .u64 i725, .int .i64 i726, .string s727]]) fun v728 =>
  .exI fun i729 =>
  .exI fun i730 =>
  .exI fun i731 =>
  .exI fun i732 =>
  .exI fun i733 =>
  .exI fun i734 =>
  .exS fun a735 n735 c735 =>
  .exS fun a736 n736 c736 =>
  .exI fun i737 =>
  .exI fun i738 =>
  .exI fun i739 =>
  .exS fun a740 n740 c740 =>
  .exS fun a741 n741 c741 =>
  .exS fun a742 n742 c742 =>
  .exS fun a743 n743 c743 =>
  .exI fun i744 =>
  .exS fun a745 n745 c745 =>
  .exS fun a746 n746 c746 =>
  .exS fun a747 n747 c747 =>
  .exS fun a748 n748 c748 =>
  .isL [v728] [.tuple #[.agg #[.int .u64 i729, .int .i64 i730, .int .i64 i731, .int .i64 i732, .int .u64 i733, .int .u64 i734, .slice a735 n735 c735, .slice a736 n736 c736, .int .u64 i737, .int .i64 i738, .int .i64 i739, .slice a740 n740 c740, .slice a741 n741 c741, .slice a742 n742 c742, .slice a743 n743 c743, .int .u64 i744, .slice a745 n745 c745], .agg #[.slice a746 n746 c746, .slice a747 n747 c747, .slice a748 n748 c748]]] <|
  .store ⟨p555, 0, none⟩ [.int .u64 i729, .int .i64 i730, .int .i64 i731, .int .i64 i732, .int .u64 i733, .int .u64 i734, .slice a735 n735 c735, .slice a736 n736 c736, .int .u64 i737, .int .i64 i738, .int .i64 i739, .slice a740 n740 c740, .slice a741 n741 c741, .slice a742 n742 c742, .slice a743 n743 c743, .int .u64 i744, .slice a745 n745 c745] <|
  .store ⟨p556, 0, none⟩ [.slice a746 n746 c746, .slice a747 n747 c747, .slice a748 n748 c748] <|
  .load ⟨p555, 9, none⟩ 1 fun v749 =>
  .exI fun i750 =>
  .isL v749 [.int .i64 i750] <|
  bif (i750 != 2) then
   (.ret (.bool false))
  else
  (.load ⟨p556, 1, none⟩ 1 fun v751 =>
  .exS fun a752 n752 c752 =>
  .isL v751 [.slice a752 n752 c752] <|
  bif ((↑n752 : Int) != 2) then
   (.ret (.bool false))
  else
  (.load ⟨p555, 8, none⟩ 1 fun v753 =>
  .exI fun i754 =>
  .isL v753 [.int .u64 i754] <|
  bif (i754 != 0) then
   (.ret (.bool false))
  else
  (.draw <|
  .load ⟨p582, 0, none⟩ 17 fun v755 =>
  .exI fun i756 =>
  .exI fun i757 =>
  .exI fun i758 =>
  .exI fun i759 =>
  .exI fun i760 =>
  .exI fun i761 =>
  .exS fun a762 n762 c762 =>
  .exS fun a763 n763 c763 =>
  .exI fun i764 =>
  .exI fun i765 =>
  .exI fun i766 =>
  .exS fun a767 n767 c767 =>
  .exS fun a768 n768 c768 =>
  .exS fun a769 n769 c769 =>
  .exS fun a770 n770 c770 =>
  .exI fun i771 =>
  .exS fun a772 n772 c772 =>
  .isL v755 [.int .u64 i756, .int .i64 i757, .int .i64 i758, .int .i64 i759, .int .u64 i760, .int .u64 i761, .slice a762 n762 c762, .slice a763 n763 c763, .int .u64 i764, .int .i64 i765, .int .i64 i766, .slice a767 n767 c767, .slice a768 n768 c768, .slice a769 n769 c769, .slice a770 n770 c770, .int .u64 i771, .slice a772 n772 c772] <|
  .load ⟨p556, 1, none⟩ 1 fun v773 =>
  .exS fun a774 n774 c774 =>
  .isL v773 [.slice a774 n774 c774] <|
  .some a774 fun x775 =>
  .need ((0 : Int) ≤ IntKind.i64.wrap (2 - 2) ∧ IntKind.i64.wrap (2 - 2) < (↑n774 : Int)) <|
  .load x775 21 fun v776 =>
  .exI fun i777 =>
  .exI fun i778 =>
  .exI fun i779 =>
  .exI fun i780 =>
  .exI fun i781 =>
  .exI fun i782 =>
  .exS fun a783 n783 c783 =>
  .exI fun i784 =>
  .exI fun i785 =>
  .exB fun b786 =>
  .exI fun i787 =>
  .exI fun i788 =>
  .exS fun a789 n789 c789 =>
  .exI fun i790 =>
  .exI fun i791 =>
  .exI fun i792 =>
  .exT fun s793 =>
  .exT fun s794 =>
  .exI fun i795 =>
  .exI fun i796 =>
  .exT fun s797 =>
  .isL v776 [.int .i64 i777, .int .i64 i778, .int .i64 i779, .int .u64 i780, .int .u64 i781, .int .u64 i782, .slice a783 n783 c783, .int .u64 i784, .int .u64 i785, .bool b786, .int .u64 i787, .int .u64 i788, .slice a789 n789 c789, .int .i64 i790, .int .i64 i791, .int .u64 i792, .string s793, .string s794, .int .u64 i795, .int .i64 i796, .string s797] <|
  .call 38 ([.agg #[.int .u64 i756, .int .i64 i757, .int .i64 i758, .int .i64 i759, .int .u64 i760, .int .u64 i761, .slice a762 n762 c762, .slice a763 n763 c763, .int .u64 i764, .int .i64 i765, .int .i64 i766, .slice a767 n767 c767, .slice a768 n768 c768, .slice a769 n769 c769, .slice a770 n770 c770, .int .u64 i771, .slice a772 n772 c772], .agg #[.int .i64 i777, .int .i64 i778, .int .i64 i779, .int .u64 i780, .int .u64 i781, .int .u64 i782, .slice a783 n783 c783, .int .u64 i784, .int .u64 i785, .bool b786, .int .u64 i787, .int .u64 i788, .slice a789 n789 c789, .int .i64 i790, .int .i64 i791, .int .u64 i792, .string s793, .string s794, .int .u64 i795, .int .i64 i796, .string s797]]) fun v798 =>
  .exI fun i799 =>
  .exI fun i800 =>
  .exI fun i801 =>
  .exI fun i802 =>
  .exI fun i803 =>
  .exI fun i804 =>
  .exS fun a805 n805 c805 =>
  .exS fun a806 n806 c806 =>
  .exI fun i807 =>
  .exI fun i808 =>
  .exI fun i809 =>
  .exS fun a810 n810 c810 =>
  .exS fun a811 n811 c811 =>
  .exS fun a812 n812 c812 =>
  .exS fun a813 n813 c813 =>
  .exI fun i814 =>
  .exS fun a815 n815 c815 =>
  .exS fun a816 n816 c816 =>
  .exS fun a817 n817 c817 =>
  .exS fun a818 n818 c818 =>
  .isL [v798] [.tuple #[.agg #[.int .u64 i799, .int .i64 i800, .int .i64 i801, .int .i64 i802, .int .u64 i803, .int .u64 i804, .slice a805 n805 c805, .slice a806 n806 c806, .int .u64 i807, .int .i64 i808, .int .i64 i809, .slice a810 n810 c810, .slice a811 n811 c811, .slice a812 n812 c812, .slice a813 n813 c813, .int .u64 i814, .slice a815 n815 c815], .agg #[.slice a816 n816 c816, .slice a817 n817 c817, .slice a818 n818 c818]]] <|
  .store ⟨p582, 0, none⟩ [.int .u64 i799, .int .i64 i800, .int .i64 i801, .int .i64 i802, .int .u64 i803, .int .u64 i804, .slice a805 n805 c805, .slice a806 n806 c806, .int .u64 i807, .int .i64 i808, .int .i64 i809, .slice a810 n810 c810, .slice a811 n811 c811, .slice a812 n812 c812, .slice a813 n813 c813, .int .u64 i814, .slice a815 n815 c815] <|
  .store ⟨p675, 0, none⟩ [.slice a816 n816 c816, .slice a817 n817 c817, .slice a818 n818 c818] <|
  .load ⟨p675, 1, none⟩ 1 fun v819 =>
  .exS fun a820 n820 c820 =>
  .isL v819 [.slice a820 n820 c820] <|
  bif ((↑n820 : Int) != 1) then
   (.ret (.bool false))
  else
  (.load ⟨p675, 1, none⟩ 1 fun v821 =>
  .exS fun a822 n822 c822 =>
  .isL v821 [.slice a822 n822 c822] <|
  .some a822 fun x823 =>
  .need ((0 : Int) ≤ 0 ∧ 0 < (↑n822 : Int)) <|
  .load (x823.add 9) 1 fun v824 =>
  .exB fun b825 =>
  .isL v824 [.bool b825] <|
  bif !b825 then
   (.ret (.bool false))
  else
  (.load ⟨p582, 10, none⟩ 1 fun v826 =>
  .exI fun i827 =>
  .isL v826 [.int .i64 i827] <|
  bif (i827 != 1) then
   (.ret (.bool false))
  else
  (.draw <|
  .load ⟨p555, 0, none⟩ 17 fun v828 =>
  .exI fun i829 =>
  .exI fun i830 =>
  .exI fun i831 =>
  .exI fun i832 =>
  .exI fun i833 =>
  .exI fun i834 =>
  .exS fun a835 n835 c835 =>
  .exS fun a836 n836 c836 =>
  .exI fun i837 =>
  .exI fun i838 =>
  .exI fun i839 =>
  .exS fun a840 n840 c840 =>
  .exS fun a841 n841 c841 =>
  .exS fun a842 n842 c842 =>
  .exS fun a843 n843 c843 =>
  .exI fun i844 =>
  .exS fun a845 n845 c845 =>
  .isL v828 [.int .u64 i829, .int .i64 i830, .int .i64 i831, .int .i64 i832, .int .u64 i833, .int .u64 i834, .slice a835 n835 c835, .slice a836 n836 c836, .int .u64 i837, .int .i64 i838, .int .i64 i839, .slice a840 n840 c840, .slice a841 n841 c841, .slice a842 n842 c842, .slice a843 n843 c843, .int .u64 i844, .slice a845 n845 c845] <|
  .load ⟨p675, 1, none⟩ 1 fun v846 =>
  .exS fun a847 n847 c847 =>
  .isL v846 [.slice a847 n847 c847] <|
  .some a847 fun x848 =>
  .need ((0 : Int) ≤ 0 ∧ 0 < (↑n847 : Int)) <|
  .load x848 21 fun v849 =>
  .exI fun i850 =>
  .exI fun i851 =>
  .exI fun i852 =>
  .exI fun i853 =>
  .exI fun i854 =>
  .exI fun i855 =>
  .exS fun a856 n856 c856 =>
  .exI fun i857 =>
  .exI fun i858 =>
  .exB fun b859 =>
  .exI fun i860 =>
  .exI fun i861 =>
  .exS fun a862 n862 c862 =>
  .exI fun i863 =>
  .exI fun i864 =>
  .exI fun i865 =>
  .exT fun s866 =>
  .exT fun s867 =>
  .exI fun i868 =>
  .exI fun i869 =>
  .exT fun s870 =>
  .isL v849 [.int .i64 i850, .int .i64 i851, .int .i64 i852, .int .u64 i853, .int .u64 i854, .int .u64 i855, .slice a856 n856 c856, .int .u64 i857, .int .u64 i858, .bool b859, .int .u64 i860, .int .u64 i861, .slice a862 n862 c862, .int .i64 i863, .int .i64 i864, .int .u64 i865, .string s866, .string s867, .int .u64 i868, .int .i64 i869, .string s870] <|
  .call 38 ([.agg #[.int .u64 i829, .int .i64 i830, .int .i64 i831, .int .i64 i832, .int .u64 i833, .int .u64 i834, .slice a835 n835 c835, .slice a836 n836 c836, .int .u64 i837, .int .i64 i838, .int .i64 i839, .slice a840 n840 c840, .slice a841 n841 c841, .slice a842 n842 c842, .slice a843 n843 c843, .int .u64 i844, .slice a845 n845 c845], .agg #[.int .i64 i850, .int .i64 i851, .int .i64 i852, .int .u64 i853, .int .u64 i854, .int .u64 i855, .slice a856 n856 c856, .int .u64 i857, .int .u64 i858, .bool b859, .int .u64 i860, .int .u64 i861, .slice a862 n862 c862, .int .i64 i863, .int .i64 i864, .int .u64 i865, .string s866, .string s867, .int .u64 i868, .int .i64 i869, .string s870]]) fun v871 =>
  .exI fun i872 =>
  .exI fun i873 =>
  .exI fun i874 =>
  .exI fun i875 =>
  .exI fun i876 =>
  .exI fun i877 =>
  .exS fun a878 n878 c878 =>
  .exS fun a879 n879 c879 =>
  .exI fun i880 =>
  .exI fun i881 =>
  .exI fun i882 =>
  .exS fun a883 n883 c883 =>
  .exS fun a884 n884 c884 =>
  .exS fun a885 n885 c885 =>
  .exS fun a886 n886 c886 =>
  .exI fun i887 =>
  .exS fun a888 n888 c888 =>
  .exS fun a889 n889 c889 =>
  .exS fun a890 n890 c890 =>
  .exS fun a891 n891 c891 =>
  .isL [v871] [.tuple #[.agg #[.int .u64 i872, .int .i64 i873, .int .i64 i874, .int .i64 i875, .int .u64 i876, .int .u64 i877, .slice a878 n878 c878, .slice a879 n879 c879, .int .u64 i880, .int .i64 i881, .int .i64 i882, .slice a883 n883 c883, .slice a884 n884 c884, .slice a885 n885 c885, .slice a886 n886 c886, .int .u64 i887, .slice a888 n888 c888], .agg #[.slice a889 n889 c889, .slice a890 n890 c890, .slice a891 n891 c891]]] <|
  .store ⟨p555, 0, none⟩ [.int .u64 i872, .int .i64 i873, .int .i64 i874, .int .i64 i875, .int .u64 i876, .int .u64 i877, .slice a878 n878 c878, .slice a879 n879 c879, .int .u64 i880, .int .i64 i881, .int .i64 i882, .slice a883 n883 c883, .slice a884 n884 c884, .slice a885 n885 c885, .slice a886 n886 c886, .int .u64 i887, .slice a888 n888 c888] <|
  .load ⟨p555, 0, none⟩ 17 fun v892 =>
  .exI fun i893 =>
  .exI fun i894 =>
  .exI fun i895 =>
  .exI fun i896 =>
  .exI fun i897 =>
  .exI fun i898 =>
  .exS fun a899 n899 c899 =>
  .exS fun a900 n900 c900 =>
  .exI fun i901 =>
  .exI fun i902 =>
  .exI fun i903 =>
  .exS fun a904 n904 c904 =>
  .exS fun a905 n905 c905 =>
  .exS fun a906 n906 c906 =>
  .exS fun a907 n907 c907 =>
  .exI fun i908 =>
  .exS fun a909 n909 c909 =>
  .isL v892 [.int .u64 i893, .int .i64 i894, .int .i64 i895, .int .i64 i896, .int .u64 i897, .int .u64 i898, .slice a899 n899 c899, .slice a900 n900 c900, .int .u64 i901, .int .i64 i902, .int .i64 i903, .slice a904 n904 c904, .slice a905 n905 c905, .slice a906 n906 c906, .slice a907 n907 c907, .int .u64 i908, .slice a909 n909 c909] <|
  .call 41 ([.agg #[.int .u64 i893, .int .i64 i894, .int .i64 i895, .int .i64 i896, .int .u64 i897, .int .u64 i898, .slice a899 n899 c899, .slice a900 n900 c900, .int .u64 i901, .int .i64 i902, .int .i64 i903, .slice a904 n904 c904, .slice a905 n905 c905, .slice a906 n906 c906, .slice a907 n907 c907, .int .u64 i908, .slice a909 n909 c909]]) fun v910 =>
  .exI fun i911 =>
  .exI fun i912 =>
  .exI fun i913 =>
  .exI fun i914 =>
  .exI fun i915 =>
  .exI fun i916 =>
  .exS fun a917 n917 c917 =>
  .exS fun a918 n918 c918 =>
  .exI fun i919 =>
  .exI fun i920 =>
  .exI fun i921 =>
  .exS fun a922 n922 c922 =>
  .exS fun a923 n923 c923 =>
  .exS fun a924 n924 c924 =>
  .exS fun a925 n925 c925 =>
  .exI fun i926 =>
  .exS fun a927 n927 c927 =>
  .exS fun a928 n928 c928 =>
  .exS fun a929 n929 c929 =>
  .exS fun a930 n930 c930 =>
  .isL [v910] [.tuple #[.agg #[.int .u64 i911, .int .i64 i912, .int .i64 i913, .int .i64 i914, .int .u64 i915, .int .u64 i916, .slice a917 n917 c917, .slice a918 n918 c918, .int .u64 i919, .int .i64 i920, .int .i64 i921, .slice a922 n922 c922, .slice a923 n923 c923, .slice a924 n924 c924, .slice a925 n925 c925, .int .u64 i926, .slice a927 n927 c927], .agg #[.slice a928 n928 c928, .slice a929 n929 c929, .slice a930 n930 c930]]] <|
  .store ⟨p555, 0, none⟩ [.int .u64 i911, .int .i64 i912, .int .i64 i913, .int .i64 i914, .int .u64 i915, .int .u64 i916, .slice a917 n917 c917, .slice a918 n918 c918, .int .u64 i919, .int .i64 i920, .int .i64 i921, .slice a922 n922 c922, .slice a923 n923 c923, .slice a924 n924 c924, .slice a925 n925 c925, .int .u64 i926, .slice a927 n927 c927] <|
  .store ⟨p556, 0, none⟩ [.slice a928 n928 c928, .slice a929 n929 c929, .slice a930 n930 c930] <|
  .load ⟨p556, 1, none⟩ 1 fun v931 =>
  .exS fun a932 n932 c932 =>
  .isL v931 [.slice a932 n932 c932] <|
  bif ((↑n932 : Int) != 2) then
   (.ret (.bool false))
  else
  (.draw <|
  .load ⟨p582, 0, none⟩ 17 fun v933 =>
  .exI fun i934 =>
  .exI fun i935 =>
  .exI fun i936 =>
  .exI fun i937 =>
  .exI fun i938 =>
  .exI fun i939 =>
  .exS fun a940 n940 c940 =>
  .exS fun a941 n941 c941 =>
  .exI fun i942 =>
  .exI fun i943 =>
  .exI fun i944 =>
  .exS fun a945 n945 c945 =>
  .exS fun a946 n946 c946 =>
  .exS fun a947 n947 c947 =>
  .exS fun a948 n948 c948 =>
  .exI fun i949 =>
  .exS fun a950 n950 c950 =>
  .isL v933 [.int .u64 i934, .int .i64 i935, .int .i64 i936, .int .i64 i937, .int .u64 i938, .int .u64 i939, .slice a940 n940 c940, .slice a941 n941 c941, .int .u64 i942, .int .i64 i943, .int .i64 i944, .slice a945 n945 c945, .slice a946 n946 c946, .slice a947 n947 c947, .slice a948 n948 c948, .int .u64 i949, .slice a950 n950 c950] <|
  .load ⟨p556, 1, none⟩ 1 fun v951 =>
  .exS fun a952 n952 c952 =>
  .isL v951 [.slice a952 n952 c952] <|
  .some a952 fun x953 =>
  .need ((0 : Int) ≤ IntKind.i64.wrap (2 - 2) ∧ IntKind.i64.wrap (2 - 2) < (↑n952 : Int)) <|
  .load x953 21 fun v954 =>
  .exI fun i955 =>
  .exI fun i956 =>
  .exI fun i957 =>
  .exI fun i958 =>
  .exI fun i959 =>
  .exI fun i960 =>
  .exS fun a961 n961 c961 =>
  .exI fun i962 =>
  .exI fun i963 =>
  .exB fun b964 =>
  .exI fun i965 =>
  .exI fun i966 =>
  .exS fun a967 n967 c967 =>
  .exI fun i968 =>
  .exI fun i969 =>
  .exI fun i970 =>
  .exT fun s971 =>
  .exT fun s972 =>
  .exI fun i973 =>
  .exI fun i974 =>
  .exT fun s975 =>
  .isL v954 [.int .i64 i955, .int .i64 i956, .int .i64 i957, .int .u64 i958, .int .u64 i959, .int .u64 i960, .slice a961 n961 c961, .int .u64 i962, .int .u64 i963, .bool b964, .int .u64 i965, .int .u64 i966, .slice a967 n967 c967, .int .i64 i968, .int .i64 i969, .int .u64 i970, .string s971, .string s972, .int .u64 i973, .int .i64 i974, .string s975] <|
  .call 38 ([.agg #[.int .u64 i934, .int .i64 i935, .int .i64 i936, .int .i64 i937, .int .u64 i938, .int .u64 i939, .slice a940 n940 c940, .slice a941 n941 c941, .int .u64 i942, .int .i64 i943, .int .i64 i944, .slice a945 n945 c945, .slice a946 n946 c946, .slice a947 n947 c947, .slice a948 n948 c948, .int .u64 i949, .slice a950 n950 c950], .agg #[.int .i64 i955, .int .i64 i956, .int .i64 i957, .int .u64 i958, .int .u64 i959, .int .u64 i960, .slice a961 n961 c961, .int .u64 i962, .int .u64 i963, .bool b964, .int .u64 i965, .int .u64 i966, .slice a967 n967 c967, .int .i64 i968, .int .i64 i969, .int .u64 i970, .string s971, .string s972, .int .u64 i973, .int .i64 i974, .string s975]]) fun v976 =>
  .exI fun i977 =>
  .exI fun i978 =>
  .exI fun i979 =>
  .exI fun i980 =>
  .exI fun i981 =>
  .exI fun i982 =>
  .exS fun a983 n983 c983 =>
  .exS fun a984 n984 c984 =>
  .exI fun i985 =>
  .exI fun i986 =>
  .exI fun i987 =>
  .exS fun a988 n988 c988 =>
  .exS fun a989 n989 c989 =>
  .exS fun a990 n990 c990 =>
  .exS fun a991 n991 c991 =>
  .exI fun i992 =>
  .exS fun a993 n993 c993 =>
  .exS fun a994 n994 c994 =>
  .exS fun a995 n995 c995 =>
  .exS fun a996 n996 c996 =>
  .isL [v976] [.tuple #[.agg #[.int .u64 i977, .int .i64 i978, .int .i64 i979, .int .i64 i980, .int .u64 i981, .int .u64 i982, .slice a983 n983 c983, .slice a984 n984 c984, .int .u64 i985, .int .i64 i986, .int .i64 i987, .slice a988 n988 c988, .slice a989 n989 c989, .slice a990 n990 c990, .slice a991 n991 c991, .int .u64 i992, .slice a993 n993 c993], .agg #[.slice a994 n994 c994, .slice a995 n995 c995, .slice a996 n996 c996]]] <|
  .store ⟨p582, 0, none⟩ [.int .u64 i977, .int .i64 i978, .int .i64 i979, .int .i64 i980, .int .u64 i981, .int .u64 i982, .slice a983 n983 c983, .slice a984 n984 c984, .int .u64 i985, .int .i64 i986, .int .i64 i987, .slice a988 n988 c988, .slice a989 n989 c989, .slice a990 n990 c990, .slice a991 n991 c991, .int .u64 i992, .slice a993 n993 c993] <|
  .load ⟨p555, 8, none⟩ 1 fun v997 =>
  .exI fun i998 =>
  .isL v997 [.int .u64 i998] <|
  bif (i998 == IntKind.u64.wrap (IntKind.u64.wrap (↑ln : Int) + 1)) then
   (.load ⟨p582, 8, none⟩ 1 fun v999 =>
   .exI fun i1000 =>
   .isL v999 [.int .u64 i1000] <|
   bif (i1000 == IntKind.u64.wrap (IntKind.u64.wrap (↑ln : Int) + 1)) then
    (.load ⟨p555, 7, none⟩ 1 fun v1001 =>
    .exS fun a1002 n1002 c1002 =>
    .isL v1001 [.slice a1002 n1002 c1002] <|
    .load ⟨p582, 7, none⟩ 1 fun v1003 =>
    .exS fun a1004 n1004 c1004 =>
    .isL v1003 [.slice a1004 n1004 c1004] <|
    .call 48 ([.slice a1002 n1002 c1002, .slice a1004 n1004 c1004]) fun v1005 =>
    .exB fun b1006 =>
    .isL [v1005] [.bool b1006] <|
    bif b1006 then
     (.load ⟨p555, 7, none⟩ 1 fun v1007 =>
     .exS fun a1008 n1008 c1008 =>
     .isL v1007 [.slice a1008 n1008 c1008] <|
     .ret (.bool ((↑n1008 : Int) == IntKind.i64.wrap ((↑ln : Int) + 1))))
    else
    (.ret (.bool false)))
   else
   (.ret (.bool false)))
  else
  (.ret (.bool false))))))))))))))))))))
theorem e18 (la : Option Addr) (ln : Nat) (lc : Nat) (second : Bool) : genFn Try.prog lv18 ct18 Try.f18 [.slice la ln lc, .bool second] = t18 la ln lc second := by kernel_rfl
theorem r18 (la : Option Addr) (ln : Nat) (lc : Nat) (second : Bool) {R : Value → World → Prop} {w : World} (h : (t18 la ln lc second).wp Try.prog R (fun _ _ _ => False) w) : Runs Try.prog 18 [.slice la ln lc, .bool second] w R :=
 genFn_runs mixed lv18 ct18 Try.func18 (by kernel_rfl) (by rw [e18]; exact h)
end Go.Proofs.Ytnbfffmdplcajaa
