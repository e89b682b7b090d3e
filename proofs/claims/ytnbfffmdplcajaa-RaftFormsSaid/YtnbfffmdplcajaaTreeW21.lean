/- The trees of verification conditions of functions 21: printed by a program of mine, checked here. -/
import Derived.Test.YtnbfffmdplcajaaTree0
set_option linter.unusedVariables false
set_option maxRecDepth 100000
namespace Go.Proofs.Ytnbfffmdplcajaa
open Go.Vc
def t21 : VC :=
 .call 22 ([]) fun v1 =>
 .exB fun b2 =>
 .isL [v1] [.bool b2] <|
 bif !b2 then
  (.ret (.bool false))
 else
 (.call 23 ([.int .i64 2, .int .i64 3, .agg #[.int .u64 0, .int .i64 0, .int .u64 0, .int .u64 0, .slice none 0 0, .slice none 0 0]]) fun v3 =>
 .exI fun i4 =>
 .exI fun i5 =>
 .exI fun i6 =>
 .exI fun i7 =>
 .exI fun i8 =>
 .exI fun i9 =>
 .exS fun a10 n10 c10 =>
 .exS fun a11 n11 c11 =>
 .exI fun i12 =>
 .exI fun i13 =>
 .exI fun i14 =>
 .exS fun a15 n15 c15 =>
 .exS fun a16 n16 c16 =>
 .exS fun a17 n17 c17 =>
 .exS fun a18 n18 c18 =>
 .exI fun i19 =>
 .exS fun a20 n20 c20 =>
 .isL [v3] [.agg #[.int .u64 i4, .int .i64 i5, .int .i64 i6, .int .i64 i7, .int .u64 i8, .int .u64 i9, .slice a10 n10 c10, .slice a11 n11 c11, .int .u64 i12, .int .i64 i13, .int .i64 i14, .slice a15 n15 c15, .slice a16 n16 c16, .slice a17 n17 c17, .slice a18 n18 c18, .int .u64 i19, .slice a20 n20 c20]] <|
 .call 32 ([.agg #[.int .u64 i4, .int .i64 i5, .int .i64 i6, .int .i64 i7, .int .u64 i8, .int .u64 i9, .slice a10 n10 c10, .slice a11 n11 c11, .int .u64 i12, .int .i64 i13, .int .i64 i14, .slice a15 n15 c15, .slice a16 n16 c16, .slice a17 n17 c17, .slice a18 n18 c18, .int .u64 i19, .slice a20 n20 c20]]) fun v21 =>
 .exI fun i22 =>
 .exI fun i23 =>
 .exI fun i24 =>
 .exI fun i25 =>
 .exI fun i26 =>
 .exI fun i27 =>
 .exS fun a28 n28 c28 =>
 .exS fun a29 n29 c29 =>
 .exI fun i30 =>
 .exI fun i31 =>
 .exI fun i32 =>
 .exS fun a33 n33 c33 =>
 .exS fun a34 n34 c34 =>
 .exS fun a35 n35 c35 =>
 .exS fun a36 n36 c36 =>
 .exI fun i37 =>
 .exS fun a38 n38 c38 =>
 .exS fun a39 n39 c39 =>
 .exS fun a40 n40 c40 =>
 .exS fun a41 n41 c41 =>
 .isL [v21] [.tuple #[.agg #[.int .u64 i22, .int .i64 i23, .int .i64 i24, .int .i64 i25, .int .u64 i26, .int .u64 i27, .slice a28 n28 c28, .slice a29 n29 c29, .int .u64 i30, .int .i64 i31, .int .i64 i32, .slice a33 n33 c33, .slice a34 n34 c34, .slice a35 n35 c35, .slice a36 n36 c36, .int .u64 i37, .slice a38 n38 c38], .agg #[.slice a39 n39 c39, .slice a40 n40 c40, .slice a41 n41 c41]]] <|
 .new 36 [.int .u64 0, .int .i64 0, .int .i64 0, .int .i64 0, .int .u64 0, .int .u64 0, .slice none 0 0, .slice none 0 0, .int .u64 0, .int .i64 0, .int .i64 0, .slice none 0 0, .slice none 0 0, .slice none 0 0, .slice none 0 0, .int .u64 0, .slice none 0 0] fun p42 =>
 .new 48 [.slice none 0 0, .slice none 0 0, .slice none 0 0] fun p43 =>
 .store ⟨p42, 0, none⟩ [.int .u64 i22, .int .i64 i23, .int .i64 i24, .int .i64 i25, .int .u64 i26, .int .u64 i27, .slice a28 n28 c28, .slice a29 n29 c29, .int .u64 i30, .int .i64 i31, .int .i64 i32, .slice a33 n33 c33, .slice a34 n34 c34, .slice a35 n35 c35, .slice a36 n36 c36, .int .u64 i37, .slice a38 n38 c38] <|
 .store ⟨p43, 0, none⟩ [.slice a39 n39 c39, .slice a40 n40 c40, .slice a41 n41 c41] <|
 .load ⟨p43, 1, none⟩ 1 fun v44 =>
 .exS fun a45 n45 c45 =>
 .isL v44 [.slice a45 n45 c45] <|
 bif ((↑n45 : Int) != 2) then
  (.ret (.bool false))
 else
 (.load ⟨p43, 1, none⟩ 1 fun v46 =>
 .exS fun a47 n47 c47 =>
 .isL v46 [.slice a47 n47 c47] <|
 .some a47 fun x48 =>
 .need ((0 : Int) ≤ 0 ∧ 0 < (↑n47 : Int)) <|
 .load (x48.add 2) 1 fun v49 =>
 .exI fun i50 =>
 .isL v49 [.int .i64 i50] <|
 bif (i50 != 1) then
  (.ret (.bool false))
 else
 (.load ⟨p43, 1, none⟩ 1 fun v51 =>
 .exS fun a52 n52 c52 =>
 .isL v51 [.slice a52 n52 c52] <|
 .some a52 fun x53 =>
 .need ((0 : Int) ≤ 1 ∧ 1 < (↑n52 : Int)) <|
 .load ((x53.add 21).add 2) 1 fun v54 =>
 .exI fun i55 =>
 .isL v54 [.int .i64 i55] <|
 bif (i55 != 3) then
  (.ret (.bool false))
 else
 (.load ⟨p43, 1, none⟩ 1 fun v56 =>
 .exS fun a57 n57 c57 =>
 .isL v56 [.slice a57 n57 c57] <|
 .some a57 fun x58 =>
 .need ((0 : Int) ≤ 0 ∧ 0 < (↑n57 : Int)) <|
 .load x58 1 fun v59 =>
 .exI fun i60 =>
 .isL v59 [.int .i64 i60] <|
 bif (i60 != 1) then
  (.ret (.bool false))
 else
 (.load ⟨p42, 1, none⟩ 1 fun v61 =>
 .exI fun i62 =>
 .isL v61 [.int .i64 i62] <|
 bif (i62 != 2) then
  (.ret (.bool false))
 else
 (.load ⟨p42, 0, none⟩ 17 fun v63 =>
 .exI fun i64 =>
 .exI fun i65 =>
 .exI fun i66 =>
 .exI fun i67 =>
 .exI fun i68 =>
 .exI fun i69 =>
 .exS fun a70 n70 c70 =>
 .exS fun a71 n71 c71 =>
 .exI fun i72 =>
 .exI fun i73 =>
 .exI fun i74 =>
 .exS fun a75 n75 c75 =>
 .exS fun a76 n76 c76 =>
 .exS fun a77 n77 c77 =>
 .exS fun a78 n78 c78 =>
 .exI fun i79 =>
 .exS fun a80 n80 c80 =>
 .isL v63 [.int .u64 i64, .int .i64 i65, .int .i64 i66, .int .i64 i67, .int .u64 i68, .int .u64 i69, .slice a70 n70 c70, .slice a71 n71 c71, .int .u64 i72, .int .i64 i73, .int .i64 i74, .slice a75 n75 c75, .slice a76 n76 c76, .slice a77 n77 c77, .slice a78 n78 c78, .int .u64 i79, .slice a80 n80 c80] <|
 .call 38 ([.agg #[.int .u64 i64, .int .i64 i65, .int .i64 i66, .int .i64 i67, .int .u64 i68, .int .u64 i69, .slice a70 n70 c70, .slice a71 n71 c71, .int .u64 i72, .int .i64 i73, .int .i64 i74, .slice a75 n75 c75, .slice a76 n76 c76, .slice a77 n77 c77, .slice a78 n78 c78, .int .u64 i79, .slice a80 n80 c80], .agg #[.int .i64 2, .int .i64 1, .int .i64 2, .int .u64 1, .int .u64 0, .int .u64 0, .slice none 0 0, .int .u64 0, .int .u64 0, .bool false, .int .u64 0, .int .u64 0, .slice none 0 0, .int .i64 0, .int .i64 0, .int .u64 0, .string ({ data := #[] }), .string ({ data := #[] }), .int .u64 0, .int .i64 0, .string ({ data := #[] })]]) fun v81 =>
 .exI fun i82 =>
 .exI fun i83 =>
 .exI fun i84 =>
 .exI fun i85 =>
 .exI fun i86 =>
 .exI fun i87 =>
 .exS fun a88 n88 c88 =>
 .exS fun a89 n89 c89 =>
 .exI fun i90 =>
 .exI fun i91 =>
 .exI fun i92 =>
 .exS fun a93 n93 c93 =>
 .exS fun a94 n94 c94 =>
 .exS fun a95 n95 c95 =>
 .exS fun a96 n96 c96 =>
 .exI fun i97 =>
 .exS fun a98 n98 c98 =>
 .exS fun a99 n99 c99 =>
 .exS fun a100 n100 c100 =>
 .exS fun a101 n101 c101 =>
 .isL [v81] [.tuple #[.agg #[.int .u64 i82, .int .i64 i83, .int .i64 i84, .int .i64 i85, .int .u64 i86, .int .u64 i87, .slice a88 n88 c88, .slice a89 n89 c89, .int .u64 i90, .int .i64 i91, .int .i64 i92, .slice a93 n93 c93, .slice a94 n94 c94, .slice a95 n95 c95, .slice a96 n96 c96, .int .u64 i97, .slice a98 n98 c98], .agg #[.slice a99 n99 c99, .slice a100 n100 c100, .slice a101 n101 c101]]] <|
 .new 36 [.int .u64 0, .int .i64 0, .int .i64 0, .int .i64 0, .int .u64 0, .int .u64 0, .slice none 0 0, .slice none 0 0, .int .u64 0, .int .i64 0, .int .i64 0, .slice none 0 0, .slice none 0 0, .slice none 0 0, .slice none 0 0, .int .u64 0, .slice none 0 0] fun p102 =>
 .new 48 [.slice none 0 0, .slice none 0 0, .slice none 0 0] fun p103 =>
 .store ⟨p102, 0, none⟩ [.int .u64 i82, .int .i64 i83, .int .i64 i84, .int .i64 i85, .int .u64 i86, .int .u64 i87, .slice a88 n88 c88, .slice a89 n89 c89, .int .u64 i90, .int .i64 i91, .int .i64 i92, .slice a93 n93 c93, .slice a94 n94 c94, .slice a95 n95 c95, .slice a96 n96 c96, .int .u64 i97, .slice a98 n98 c98] <|
 .store ⟨p103, 0, none⟩ [.slice a99 n99 c99, .slice a100 n100 c100, .slice a101 n101 c101] <|
 .load ⟨p102, 0, none⟩ 17 fun v104 =>
 .exI fun i105 =>
 .exI fun i106 =>
 .exI fun i107 =>
 .exI fun i108 =>
 .exI fun i109 =>
 .exI fun i110 =>
 .exS fun a111 n111 c111 =>
 .exS fun a112 n112 c112 =>
 .exI fun i113 =>
 .exI fun i114 =>
 .exI fun i115 =>
 .exS fun a116 n116 c116 =>
 .exS fun a117 n117 c117 =>
 .exS fun a118 n118 c118 =>
 .exS fun a119 n119 c119 =>
 .exI fun i120 =>
 .exS fun a121 n121 c121 =>
 .isL v104 [.int .u64 i105, .int .i64 i106, .int .i64 i107, .int .i64 i108, .int .u64 i109, .int .u64 i110, .slice a111 n111 c111, .slice a112 n112 c112, .int .u64 i113, .int .i64 i114, .int .i64 i115, .slice a116 n116 c116, .slice a117 n117 c117, .slice a118 n118 c118, .slice a119 n119 c119, .int .u64 i120, .slice a121 n121 c121] <|
 .call 38 ([.agg #[.int .u64 i105, .int .i64 i106, .int .i64 i107, .int .i64 i108, .int .u64 i109, .int .u64 i110, .slice a111 n111 c111, .slice a112 n112 c112, .int .u64 i113, .int .i64 i114, .int .i64 i115, .slice a116 n116 c116, .slice a117 n117 c117, .slice a118 n118 c118, .slice a119 n119 c119, .int .u64 i120, .slice a121 n121 c121], .agg #[.int .i64 2, .int .i64 3, .int .i64 2, .int .u64 1, .int .u64 0, .int .u64 0, .slice none 0 0, .int .u64 0, .int .u64 0, .bool true, .int .u64 0, .int .u64 0, .slice none 0 0, .int .i64 0, .int .i64 0, .int .u64 0, .string ({ data := #[] }), .string ({ data := #[] }), .int .u64 0, .int .i64 0, .string ({ data := #[] })]]) fun v122 =>
 .exI fun i123 =>
 .exI fun i124 =>
 .exI fun i125 =>
 .exI fun i126 =>
 .exI fun i127 =>
 .exI fun i128 =>
 .exS fun a129 n129 c129 =>
 .exS fun a130 n130 c130 =>
 .exI fun i131 =>
 .exI fun i132 =>
 .exI fun i133 =>
 .exS fun a134 n134 c134 =>
 .exS fun a135 n135 c135 =>
 .exS fun a136 n136 c136 =>
 .exS fun a137 n137 c137 =>
 .exI fun i138 =>
 .exS fun a139 n139 c139 =>
 .exS fun a140 n140 c140 =>
 .exS fun a141 n141 c141 =>
 .exS fun a142 n142 c142 =>
 .isL [v122] [.tuple #[.agg #[.int .u64 i123, .int .i64 i124, .int .i64 i125, .int .i64 i126, .int .u64 i127, .int .u64 i128, .slice a129 n129 c129, .slice a130 n130 c130, .int .u64 i131, .int .i64 i132, .int .i64 i133, .slice a134 n134 c134, .slice a135 n135 c135, .slice a136 n136 c136, .slice a137 n137 c137, .int .u64 i138, .slice a139 n139 c139], .agg #[.slice a140 n140 c140, .slice a141 n141 c141, .slice a142 n142 c142]]] <|
 .new 36 [.int .u64 0, .int .i64 0, .int .i64 0, .int .i64 0, .int .u64 0, .int .u64 0, .slice none 0 0, .slice none 0 0, .int .u64 0, .int .i64 0, .int .i64 0, .slice none 0 0, .slice none 0 0, .slice none 0 0, .slice none 0 0, .int .u64 0, .slice none 0 0] fun p143 =>
 .new 48 [.slice none 0 0, .slice none 0 0, .slice none 0 0] fun p144 =>
 .store ⟨p143, 0, none⟩ [.int .u64 i123, .int .i64 i124, .int .i64 i125, .int .i64 i126, .int .u64 i127, .int .u64 i128, .slice a129 n129 c129, .slice a130 n130 c130, .int .u64 i131, .int .i64 i132, .int .i64 i133, .slice a134 n134 c134, .slice a135 n135 c135, .slice a136 n136 c136, .slice a137 n137 c137, .int .u64 i138, .slice a139 n139 c139] <|
 .store ⟨p144, 0, none⟩ [.slice a140 n140 c140, .slice a141 n141 c141, .slice a142 n142 c142] <|
 .load ⟨p102, 9, none⟩ 1 fun v145 =>
 .exI fun i146 =>
 .isL v145 [.int .i64 i146] <|
 bif (i146 != 1) then
  (.ret (.bool false))
 else
 (.load ⟨p143, 9, none⟩ 1 fun v147 =>
 .exI fun i148 =>
 .isL v147 [.int .i64 i148] <|
 bif (i148 != 2) then
  (.ret (.bool false))
 else
 (.load ⟨p144, 1, none⟩ 1 fun v149 =>
 .exS fun a150 n150 c150 =>
 .isL v149 [.slice a150 n150 c150] <|
 bif ((↑n150 : Int) != 2) then
  (.ret (.bool false))
 else
 (.load ⟨p144, 0, none⟩ 1 fun v151 =>
 .exS fun a152 n152 c152 =>
 .isL v151 [.slice a152 n152 c152] <|
 bif ((↑n152 : Int) != 1) then
  (.ret (.bool false))
 else
 (.load ⟨p144, 1, none⟩ 1 fun v153 =>
 .exS fun a154 n154 c154 =>
 .isL v153 [.slice a154 n154 c154] <|
 .some a154 fun x155 =>
 .need ((0 : Int) ≤ 0 ∧ 0 < (↑n154 : Int)) <|
 .load x155 1 fun v156 =>
 .exI fun i157 =>
 .isL v156 [.int .i64 i157] <|
 bif (i157 != 3) then
  (.ret (.bool false))
 else
 (.load ⟨p144, 1, none⟩ 1 fun v158 =>
 .exS fun a159 n159 c159 =>
 .isL v158 [.slice a159 n159 c159] <|
 .some a159 fun x160 =>
 .need ((0 : Int) ≤ 0 ∧ 0 < (↑n159 : Int)) <|
 .load (x160.add 6) 1 fun v161 =>
 .exS fun a162 n162 c162 =>
 .isL v161 [.slice a162 n162 c162] <|
 bif ((↑n162 : Int) != 1) then
  (.ret (.bool false))
 else
 (.load ⟨p144, 1, none⟩ 1 fun v163 =>
 .exS fun a164 n164 c164 =>
 .isL v163 [.slice a164 n164 c164] <|
 .some a164 fun x165 =>
 .need ((0 : Int) ≤ 0 ∧ 0 < (↑n164 : Int)) <|
 .load (x165.add 8) 1 fun v166 =>
 .exI fun i167 =>
 .isL v166 [.int .u64 i167] <|
 bif (i167 != 1) then
  (.ret (.bool false))
 else
 (.load ⟨p143, 0, none⟩ 17 fun v168 =>
 .exI fun i169 =>
 .exI fun i170 =>
 .exI fun i171 =>
 .exI fun i172 =>
 .exI fun i173 =>
 .exI fun i174 =>
 .exS fun a175 n175 c175 =>
 .exS fun a176 n176 c176 =>
 .exI fun i177 =>
 .exI fun i178 =>
 .exI fun i179 =>
 .exS fun a180 n180 c180 =>
 .exS fun a181 n181 c181 =>
 .exS fun a182 n182 c182 =>
 .exS fun a183 n183 c183 =>
 .exI fun i184 =>
 .exS fun a185 n185 c185 =>
 .isL v168 [.int .u64 i169, .int .i64 i170, .int .i64 i171, .int .i64 i172, .int .u64 i173, .int .u64 i174, .slice a175 n175 c175, .slice a176 n176 c176, .int .u64 i177, .int .i64 i178, .int .i64 i179, .slice a180 n180 c180, .slice a181 n181 c181, .slice a182 n182 c182, .slice a183 n183 c183, .int .u64 i184, .slice a185 n185 c185] <|
 .call 34 ([.agg #[.int .u64 i169, .int .i64 i170, .int .i64 i171, .int .i64 i172, .int .u64 i173, .int .u64 i174, .slice a175 n175 c175, .slice a176 n176 c176, .int .u64 i177, .int .i64 i178, .int .i64 i179, .slice a180 n180 c180, .slice a181 n181 c181, .slice a182 n182 c182, .slice a183 n183 c183, .int .u64 i184, .slice a185 n185 c185], .int .u64 5]) fun v186 =>
 .exI fun i187 =>
 .exI fun i188 =>
 .exI fun i189 =>
 .exI fun i190 =>
 .exI fun i191 =>
 .exI fun i192 =>
 .exS fun a193 n193 c193 =>
 .exS fun a194 n194 c194 =>
 .exI fun i195 =>
 .exI fun i196 =>
 .exI fun i197 =>
 .exS fun a198 n198 c198 =>
 .exS fun a199 n199 c199 =>
 .exS fun a200 n200 c200 =>
 .exS fun a201 n201 c201 =>
 .exI fun i202 =>
 .exS fun a203 n203 c203 =>
 .exS fun a204 n204 c204 =>
 .exS fun a205 n205 c205 =>
 .exS fun a206 n206 c206 =>
 .exB fun b207 =>
 .isL [v186] [.tuple #[.agg #[.int .u64 i187, .int .i64 i188, .int .i64 i189, .int .i64 i190, .int .u64 i191, .int .u64 i192, .slice a193 n193 c193, .slice a194 n194 c194, .int .u64 i195, .int .i64 i196, .int .i64 i197, .slice a198 n198 c198, .slice a199 n199 c199, .slice a200 n200 c200, .slice a201 n201 c201, .int .u64 i202, .slice a203 n203 c203], .agg #[.slice a204 n204 c204, .slice a205 n205 c205, .slice a206 n206 c206], .bool b207]] <|
 .new 36 [.int .u64 0, .int .i64 0, .int .i64 0, .int .i64 0, .int .u64 0, .int .u64 0, .slice none 0 0, .slice none 0 0, .int .u64 0, .int .i64 0, .int .i64 0, .slice none 0 0, .slice none 0 0, .slice none 0 0, .slice none 0 0, .int .u64 0, .slice none 0 0] fun p208 =>
 .new 48 [.slice none 0 0, .slice none 0 0, .slice none 0 0] fun p209 =>
 .store ⟨p208, 0, none⟩ [.int .u64 i187, .int .i64 i188, .int .i64 i189, .int .i64 i190, .int .u64 i191, .int .u64 i192, .slice a193 n193 c193, .slice a194 n194 c194, .int .u64 i195, .int .i64 i196, .int .i64 i197, .slice a198 n198 c198, .slice a199 n199 c199, .slice a200 n200 c200, .slice a201 n201 c201, .int .u64 i202, .slice a203 n203 c203] <|
 .store ⟨p209, 0, none⟩ [.slice a204 n204 c204, .slice a205 n205 c205, .slice a206 n206 c206] <|
 .load ⟨p143, 0, none⟩ 17 fun v210 =>
 .exI fun i211 =>
 .exI fun i212 =>
 .exI fun i213 =>
 .exI fun i214 =>
 .exI fun i215 =>
 .exI fun i216 =>
 .exS fun a217 n217 c217 =>
 .exS fun a218 n218 c218 =>
 .exI fun i219 =>
 .exI fun i220 =>
 .exI fun i221 =>
 .exS fun a222 n222 c222 =>
 .exS fun a223 n223 c223 =>
 .exS fun a224 n224 c224 =>
 .exS fun a225 n225 c225 =>
 .exI fun i226 =>
 .exS fun a227 n227 c227 =>
 .isL v210 [.int .u64 i211, .int .i64 i212, .int .i64 i213, .int .i64 i214, .int .u64 i215, .int .u64 i216, .slice a217 n217 c217, .slice a218 n218 c218, .int .u64 i219, .int .i64 i220, .int .i64 i221, .slice a222 n222 c222, .slice a223 n223 c223, .slice a224 n224 c224, .slice a225 n225 c225, .int .u64 i226, .slice a227 n227 c227] <|
 .call 38 ([.agg #[.int .u64 i211, .int .i64 i212, .int .i64 i213, .int .i64 i214, .int .u64 i215, .int .u64 i216, .slice a217 n217 c217, .slice a218 n218 c218, .int .u64 i219, .int .i64 i220, .int .i64 i221, .slice a222 n222 c222, .slice a223 n223 c223, .slice a224 n224 c224, .slice a225 n225 c225, .int .u64 i226, .slice a227 n227 c227], .agg #[.int .i64 4, .int .i64 1, .int .i64 2, .int .u64 1, .int .u64 1, .int .u64 0, .slice none 0 0, .int .u64 0, .int .u64 1, .bool true, .int .u64 0, .int .u64 0, .slice none 0 0, .int .i64 0, .int .i64 0, .int .u64 0, .string ({ data := #[] }), .string ({ data := #[] }), .int .u64 0, .int .i64 0, .string ({ data := #[] })]]) fun v228 =>
 .exI fun i229 =>
 .exI fun i230 =>
 .exI fun i231 =>
 .exI fun i232 =>
 .exI fun i233 =>
 .exI fun i234 =>
 .exS fun a235 n235 c235 =>
 .exS fun a236 n236 c236 =>
 .exI fun i237 =>
 .exI fun i238 =>
 .exI fun i239 =>
 .exS fun a240 n240 c240 =>
 .exS fun a241 n241 c241 =>
 .exS fun a242 n242 c242 =>
 .exS fun a243 n243 c243 =>
 .exI fun i244 =>
 .exS fun a245 n245 c245 =>
 .exS fun a246 n246 c246 =>
 .exS fun a247 n247 c247 =>
 .exS fun a248 n248 c248 =>
 .isL [v228] [.tuple #[.agg #[.int .u64 i229, .int .i64 i230, .int .i64 i231, .int .i64 i232, .int .u64 i233, .int .u64 i234, .slice a235 n235 c235, .slice a236 n236 c236, .int .u64 i237, .int .i64 i238, .int .i64 i239, .slice a240 n240 c240, .slice a241 n241 c241, .slice a242 n242 c242, .slice a243 n243 c243, .int .u64 i244, .slice a245 n245 c245], .agg #[.slice a246 n246 c246, .slice a247 n247 c247, .slice a248 n248 c248]]] <|
 .new 36 [.int .u64 0, .int .i64 0, .int .i64 0, .int .i64 0, .int .u64 0, .int .u64 0, .slice none 0 0, .slice none 0 0, .int .u64 0, .int .i64 0, .int .i64 0, .slice none 0 0, .slice none 0 0, .slice none 0 0, .slice none 0 0, .int .u64 0, .slice none 0 0] fun p249 =>
 .new 48 [.slice none 0 0, .slice none 0 0, .slice none 0 0] fun p250 =>
 .store ⟨p249, 0, none⟩ [.int .u64 i229, .int .i64 i230, .int .i64 i231, .int .i64 i232, .int .u64 i233, .int .u64 i234, .slice a235 n235 c235, .slice a236 n236 c236, .int .u64 i237, .int .i64 i238, .int .i64 i239, .slice a240 n240 c240, .slice a241 n241 c241, .slice a242 n242 c242, .slice a243 n243 c243, .int .u64 i244, .slice a245 n245 c245] <|
 .store ⟨p250, 0, none⟩ [.slice a246 n246 c246, .slice a247 n247 c247, .slice a248 n248 c248] <|
 .load ⟨p249, 0, none⟩ 17 fun v251 =>
 .exI fun i252 =>
 .exI fun i253 =>
 .exI fun i254 =>
 .exI fun i255 =>
 .exI fun i256 =>
 .exI fun i257 =>
 .exS fun a258 n258 c258 =>
 .exS fun a259 n259 c259 =>
 .exI fun i260 =>
 .exI fun i261 =>
 .exI fun i262 =>
 .exS fun a263 n263 c263 =>
 .exS fun a264 n264 c264 =>
 .exS fun a265 n265 c265 =>
 .exS fun a266 n266 c266 =>
 .exI fun i267 =>
 .exS fun a268 n268 c268 =>
 .isL v251 [.int .u64 i252, .int .i64 i253, .int .i64 i254, .int .i64 i255, .int .u64 i256, .int .u64 i257, .slice a258 n258 c258, .slice a259 n259 c259, .int .u64 i260, .int .i64 i261, .int .i64 i262, .slice a263 n263 c263, .slice a264 n264 c264, .slice a265 n265 c265, .slice a266 n266 c266, .int .u64 i267, .slice a268 n268 c268] <|
 .call 34 ([.agg #[.int .u64 i252, .int .i64 i253, .int .i64 i254, .int .i64 i255, .int .u64 i256, .int .u64 i257, .slice a258 n258 c258, .slice a259 n259 c259, .int .u64 i260, .int .i64 i261, .int .i64 i262, .slice a263 n263 c263, .slice a264 n264 c264, .slice a265 n265 c265, .slice a266 n266 c266, .int .u64 i267, .slice a268 n268 c268], .int .u64 5]) fun v269 =>
 .exI fun i270 =>
 .exI fun i271 =>
 .exI fun i272 =>
 .exI fun i273 =>
 .exI fun i274 =>
 .exI fun i275 =>
 .exS fun a276 n276 c276 =>
 .exS fun a277 n277 c277 =>
 .exI fun i278 =>
 .exI fun i279 =>
 .exI fun i280 =>
 .exS fun a281 n281 c281 =>
 .exS fun a282 n282 c282 =>
 .exS fun a283 n283 c283 =>
 .exS fun a284 n284 c284 =>
 .exI fun i285 =>
 .exS fun a286 n286 c286 =>
 .exS fun a287 n287 c287 =>
 .exS fun a288 n288 c288 =>
 .exS fun a289 n289 c289 =>
 .exB fun b290 =>
 .isL [v269] [.tuple #[.agg #[.int .u64 i270, .int .i64 i271, .int .i64 i272, .int .i64 i273, .int .u64 i274, .int .u64 i275, .slice a276 n276 c276, .slice a277 n277 c277, .int .u64 i278, .int .i64 i279, .int .i64 i280, .slice a281 n281 c281, .slice a282 n282 c282, .slice a283 n283 c283, .slice a284 n284 c284, .int .u64 i285, .slice a286 n286 c286], .agg #[.slice a287 n287 c287, .slice a288 n288 c288, .slice a289 n289 c289], .bool b290]] <|
 .new 36 [.int .u64 0, .int .i64 0, .int .i64 0, .int .i64 0, .int .u64 0, .int .u64 0, .slice none 0 0, .slice none 0 0, .int .u64 0, .int .i64 0, .int .i64 0, .slice none 0 0, .slice none 0 0, .slice none 0 0, .slice none 0 0, .int .u64 0, .slice none 0 0] fun p291 =>
 .new 48 [.slice none 0 0, .slice none 0 0, .slice none 0 0] fun p292 =>
 .store ⟨p291, 0, none⟩ [.int .u64 i270, .int .i64 i271, .int .i64 i272, .int .i64 i273, .int .u64 i274, .int .u64 i275, .slice a276 n276 c276, .slice a277 n277 c277, .int .u64 i278, .int .i64 i279, .int .i64 i280, .slice a281 n281 c281, .slice a282 n282 c282, .slice a283 n283 c283, .slice a284 n284 c284, .int .u64 i285, .slice a286 n286 c286] <|
 .store ⟨p292, 0, none⟩ [.slice a287 n287 c287, .slice a288 n288 c288, .slice a289 n289 c289] <|
 bif b207 then
  (.ret (.bool false))
 else
 (.load ⟨p249, 8, none⟩ 1 fun v293 =>
 .exI fun i294 =>
 .isL v293 [.int .u64 i294] <|
 bif (i294 != 1) then
  (.ret (.bool false))
 else
 (bif !b290 then
  (.ret (.bool false))
 else
 (.load ⟨p292, 2, none⟩ 1 fun v295 =>
 .exS fun a296 n296 c296 =>
 .isL v295 [.slice a296 n296 c296] <|
 bif ((↑n296 : Int) != 0) then
  (.ret (.bool false))
 else
 (.load ⟨p291, 16, none⟩ 1 fun v297 =>
 .exS fun a298 n298 c298 =>
 .isL v297 [.slice a298 n298 c298] <|
 bif ((↑n298 : Int) != 1) then
  (.ret (.bool false))
 else
 (.load ⟨p291, 15, none⟩ 1 fun v299 =>
 .exI fun i300 =>
 .isL v299 [.int .u64 i300] <|
 bif (i300 != 2) then
  (.ret (.bool false))
 else
 (.load ⟨p292, 1, none⟩ 1 fun v301 =>
 .exS fun a302 n302 c302 =>
 .isL v301 [.slice a302 n302 c302] <|
 bif ((↑n302 : Int) != 2) then
  (.ret (.bool false))
 else
 (.load ⟨p292, 1, none⟩ 1 fun v303 =>
 .exS fun a304 n304 c304 =>
 .isL v303 [.slice a304 n304 c304] <|
 .some a304 fun x305 =>
 .need ((0 : Int) ≤ 0 ∧ 0 < (↑n304 : Int)) <|
 .load (x305.add 8) 1 fun v306 =>
 .exI fun i307 =>
 .isL v306 [.int .u64 i307] <|
 bif (i307 != 2) then
  (.ret (.bool false))
 else
 (.load ⟨p291, 0, none⟩ 17 fun v308 =>
 .exI fun i309 =>
 .exI fun i310 =>
 .exI fun i311 =>
 .exI fun i312 =>
 .exI fun i313 =>
 .exI fun i314 =>
 .exS fun a315 n315 c315 =>
 .exS fun a316 n316 c316 =>
 .exI fun i317 =>
 .exI fun i318 =>
 .exI fun i319 =>
 .exS fun a320 n320 c320 =>
 .exS fun a321 n321 c321 =>
 .exS fun a322 n322 c322 =>
 .exS fun a323 n323 c323 =>
 .exI fun i324 =>
 .exS fun a325 n325 c325 =>
 .isL v308 [.int .u64 i309, .int .i64 i310, .int .i64 i311, .int .i64 i312, .int .u64 i313, .int .u64 i314, .slice a315 n315 c315, .slice a316 n316 c316, .int .u64 i317, .int .i64 i318, .int .i64 i319, .slice a320 n320 c320, .slice a321 n321 c321, .slice a322 n322 c322, .slice a323 n323 c323, .int .u64 i324, .slice a325 n325 c325] <|
 .call 38 ([.agg #[.int .u64 i309, .int .i64 i310, .int .i64 i311, .int .i64 i312, .int .u64 i313, .int .u64 i314, .slice a315 n315 c315, .slice a316 n316 c316, .int .u64 i317, .int .i64 i318, .int .i64 i319, .slice a320 n320 c320, .slice a321 n321 c321, .slice a322 n322 c322, .slice a323 n323 c323, .int .u64 i324, .slice a325 n325 c325], .agg #[.int .i64 4, .int .i64 3, .int .i64 2, .int .u64 1, .int .u64 1, .int .u64 0, .slice none 0 0, .int .u64 0, .int .u64 1, .bool true, .int .u64 0, .int .u64 0, .slice none 0 0, .int .i64 0, .int .i64 0, .int .u64 0, .string ({ data := #[] }), .string ({ data := #[] }), .int .u64 0, .int .i64 0, .string ({ data := #[] })]]) fun v326 =>
 .exI fun i327 =>
 .exI fun i328 =>
 .exI fun i329 =>
 .exI fun i330 =>
 .exI fun i331 =>
 .exI fun i332 =>
 .exS fun a333 n333 c333 =>
 .exS fun a334 n334 c334 =>
 .exI fun i335 =>
 .exI fun i336 =>
 .exI fun i337 =>
 .exS fun a338 n338 c338 =>
 .exS fun a339 n339 c339 =>
 .exS fun a340 n340 c340 =>
 .exS fun a341 n341 c341 =>
 .exI fun i342 =>
 .exS fun a343 n343 c343 =>
 .exS fun a344 n344 c344 =>
 .exS fun a345 n345 c345 =>
 .exS fun a346 n346 c346 =>
 .isL [v326] [.tuple #[.agg #[.int .u64 i327, .int .i64 i328, .int .i64 i329, .int .i64 i330, .int .u64 i331, .int .u64 i332, .slice a333 n333 c333, .slice a334 n334 c334, .int .u64 i335, .int .i64 i336, .int .i64 i337, .slice a338 n338 c338, .slice a339 n339 c339, .slice a340 n340 c340, .slice a341 n341 c341, .int .u64 i342, .slice a343 n343 c343], .agg #[.slice a344 n344 c344, .slice a345 n345 c345, .slice a346 n346 c346]]] <|
 .new 36 [.int .u64 0, .int .i64 0, .int .i64 0, .int .i64 0, .int .u64 0, .int .u64 0, .slice none 0 0, .slice none 0 0, .int .u64 0, .int .i64 0, .int .i64 0, .slice none 0 0, .slice none 0 0, .slice none 0 0, .slice none 0 0, .int .u64 0, .slice none 0 0] fun p347 =>
 .new 48 [.slice none 0 0, .slice none 0 0, .slice none 0 0] fun p348 =>
 .store ⟨p347, 0, none⟩ [.int .u64 i327, .int .i64 i328, .int .i64 i329, .int .i64 i330, .int .u64 i331, .int .u64 i332, .slice a333 n333 c333, .slice a334 n334 c334, .int .u64 i335, .int .i64 i336, .int .i64 i337, .slice a338 n338 c338, .slice a339 n339 c339, .slice a340 n340 c340, .slice a341 n341 c341, .int .u64 i342, .slice a343 n343 c343] <|
 .store ⟨p348, 0, none⟩ [.slice a344 n344 c344, .slice a345 n345 c345, .slice a346 n346 c346] <|
 .load ⟨p347, 0, none⟩ 17 fun v349 =>
 .exI fun i350 =>
 .exI fun i351 =>
 .exI fun i352 =>
 .exI fun i353 =>
 .exI fun i354 =>
 .exI fun i355 =>
 .exS fun a356 n356 c356 =>
 .exS fun a357 n357 c357 =>
 .exI fun i358 =>
 .exI fun i359 =>
 .exI fun i360 =>
 .exS fun a361 n361 c361 =>
 .exS fun a362 n362 c362 =>
 .exS fun a363 n363 c363 =>
 .exS fun a364 n364 c364 =>
 .exI fun i365 =>
 .exS fun a366 n366 c366 =>
 .isL v349 [.int .u64 i350, .int .i64 i351, .int .i64 i352, .int .i64 i353, .int .u64 i354, .int .u64 i355, .slice a356 n356 c356, .slice a357 n357 c357, .int .u64 i358, .int .i64 i359, .int .i64 i360, .slice a361 n361 c361, .slice a362 n362 c362, .slice a363 n363 c363, .slice a364 n364 c364, .int .u64 i365, .slice a366 n366 c366] <|
 .call 38 ([.agg #[.int .u64 i350, .int .i64 i351, .int .i64 i352, .int .i64 i353, .int .u64 i354, .int .u64 i355, .slice a356 n356 c356, .slice a357 n357 c357, .int .u64 i358, .int .i64 i359, .int .i64 i360, .slice a361 n361 c361, .slice a362 n362 c362, .slice a363 n363 c363, .slice a364 n364 c364, .int .u64 i365, .slice a366 n366 c366], .agg #[.int .i64 4, .int .i64 3, .int .i64 2, .int .u64 1, .int .u64 1, .int .u64 0, .slice none 0 0, .int .u64 0, .int .u64 2, .bool true, .int .u64 0, .int .u64 0, .slice none 0 0, .int .i64 0, .int .i64 0, .int .u64 0, .string ({ data := #[] }), .string ({ data := #[] }), .int .u64 0, .int .i64 0, .string ({ data := #[] })]]) fun v367 =>
 .exI fun i368 =>
 .exI fun i369 =>
 .exI fun i370 =>
 .exI fun i371 =>
 .exI fun i372 =>
 .exI fun i373 =>
 .exS fun a374 n374 c374 =>
 .exS fun a375 n375 c375 =>
 .exI fun i376 =>
 .exI fun i377 =>
 .exI fun i378 =>
 .exS fun a379 n379 c379 =>
 .exS fun a380 n380 c380 =>
 .exS fun a381 n381 c381 =>
 .exS fun a382 n382 c382 =>
 .exI fun i383 =>
 .exS fun a384 n384 c384 =>
 .exS fun a385 n385 c385 =>
 .exS fun a386 n386 c386 =>
 .exS fun a387 n387 c387 =>
 .isL [v367] [.tuple #[.agg #[.int .u64 i368, .int .i64 i369, .int .i64 i370, .int .i64 i371, .int .u64 i372, .int .u64 i373, .slice a374 n374 c374, .slice a375 n375 c375, .int .u64 i376, .int .i64 i377, .int .i64 i378, .slice a379 n379 c379, .slice a380 n380 c380, .slice a381 n381 c381, .slice a382 n382 c382, .int .u64 i383, .slice a384 n384 c384], .agg #[.slice a385 n385 c385, .slice a386 n386 c386, .slice a387 n387 c387]]] <|
 .new 36 [.int .u64 0, .int .i64 0, .int .i64 0, .int .i64 0, .int .u64 0, .int .u64 0, .slice none 0 0, .slice none 0 0, .int .u64 0, .int .i64 0, .int .i64 0, .slice none 0 0, .slice none 0 0, .slice none 0 0, .slice none 0 0, .int .u64 0, .slice none 0 0] fun p388 =>
 .new 48 [.slice none 0 0, .slice none 0 0, .slice none 0 0] fun p389 =>
 .store ⟨p388, 0, none⟩ [.int .u64 i368, .int .i64 i369, .int .i64 i370, .int .i64 i371, .int .u64 i372, .int .u64 i373, .slice a374 n374 c374, .slice a375 n375 c375, .int .u64 i376, .int .i64 i377, .int .i64 i378, .slice a379 n379 c379, .slice a380 n380 c380, .slice a381 n381 c381, .slice a382 n382 c382, .int .u64 i383, .slice a384 n384 c384] <|
 .store ⟨p389, 0, none⟩ [.slice a385 n385 c385, .slice a386 n386 c386, .slice a387 n387 c387] <|
 .load ⟨p388, 0, none⟩ 17 fun v390 =>
 .exI fun i391 =>
 .exI fun i392 =>
 .exI fun i393 =>
 .exI fun i394 =>
 .exI fun i395 =>
 .exI fun i396 =>
 .exS fun a397 n397 c397 =>
 .exS fun a398 n398 c398 =>
 .exI fun i399 =>
 .exI fun i400 =>
 .exI fun i401 =>
 .exS fun a402 n402 c402 =>
 .exS fun a403 n403 c403 =>
 .exS fun a404 n404 c404 =>
 .exS fun a405 n405 c405 =>
 .exI fun i406 =>
 .exS fun a407 n407 c407 =>
 .isL v390 [.int .u64 i391, .int .i64 i392, .int .i64 i393, .int .i64 i394, .int .u64 i395, .int .u64 i396, .slice a397 n397 c397, .slice a398 n398 c398, .int .u64 i399, .int .i64 i400, .int .i64 i401, .slice a402 n402 c402, .slice a403 n403 c403, .slice a404 n404 c404, .slice a405 n405 c405, .int .u64 i406, .slice a407 n407 c407] <|
 .call 38 ([.agg #[.int .u64 i391, .int .i64 i392, .int .i64 i393, .int .i64 i394, .int .u64 i395, .int .u64 i396, .slice a397 n397 c397, .slice a398 n398 c398, .int .u64 i399, .int .i64 i400, .int .i64 i401, .slice a402 n402 c402, .slice a403 n403 c403, .slice a404 n404 c404, .slice a405 n405 c405, .int .u64 i406, .slice a407 n407 c407], .agg #[.int .i64 1, .int .i64 3, .int .i64 2, .int .u64 2, .int .u64 0, .int .u64 0, .slice none 0 0, .int .u64 0, .int .u64 0, .bool false, .int .u64 0, .int .u64 0, .slice none 0 0, .int .i64 0, .int .i64 0, .int .u64 0, .string ({ data := #[] }), .string ({ data := #[] }), .int .u64 0, .int .i64 0, .string ({ data := #[] })]]) fun v408 =>
 .exI fun i409 =>
 .exI fun i410 =>
 .exI fun i411 =>
 .exI fun i412 =>
 .exI fun i413 =>
 .exI fun i414 =>
 .exS fun a415 n415 c415 =>
 .exS fun a416 n416 c416 =>
 .exI fun i417 =>
 .exI fun i418 =>
 .exI fun i419 =>
 .exS fun a420 n420 c420 =>
 .exS fun a421 n421 c421 =>
 .exS fun a422 n422 c422 =>
 .exS fun a423 n423 c423 =>
 .exI fun i424 =>
 .exS fun a425 n425 c425 =>
 .exS fun a426 n426 c426 =>
 .exS fun a427 n427 c427 =>
 .exS fun a428 n428 c428 =>
 .isL [v408] [.tuple #[.agg #[.int .u64 i409, .int .i64 i410, .int .i64 i411, .int .i64 i412, .int .u64 i413, .int .u64 i414, .slice a415 n415 c415, .slice a416 n416 c416, .int .u64 i417, .int .i64 i418, .int .i64 i419, .slice a420 n420 c420, .slice a421 n421 c421, .slice a422 n422 c422, .slice a423 n423 c423, .int .u64 i424, .slice a425 n425 c425], .agg #[.slice a426 n426 c426, .slice a427 n427 c427, .slice a428 n428 c428]]] <|
 .new 36 [.int .u64 0, .int .i64 0, .int .i64 0, .int .i64 0, .int .u64 0, .int .u64 0, .slice none 0 0, .slice none 0 0, .int .u64 0, .int .i64 0, .int .i64 0, .slice none 0 0, .slice none 0 0, .slice none 0 0, .slice none 0 0, .int .u64 0, .slice none 0 0] fun p429 =>
 .new 48 [.slice none 0 0, .slice none 0 0, .slice none 0 0] fun p430 =>
 .store ⟨p429, 0, none⟩ [.int .u64 i409, .int .i64 i410, .int .i64 i411, .int .i64 i412, .int .u64 i413, .int .u64 i414, .slice a415 n415 c415, .slice a416 n416 c416, .int .u64 i417, .int .i64 i418, .int .i64 i419, .slice a420 n420 c420, .slice a421 n421 c421, .slice a422 n422 c422, .slice a423 n423 c423, .int .u64 i424, .slice a425 n425 c425] <|
 .store ⟨p430, 0, none⟩ [.slice a426 n426 c426, .slice a427 n427 c427, .slice a428 n428 c428] <|
 .load ⟨p348, 2, none⟩ 1 fun v431 =>
 .exS fun a432 n432 c432 =>
 .isL v431 [.slice a432 n432 c432] <|
 bif ((↑n432 : Int) == 0) then
  (.load ⟨p389, 2, none⟩ 1 fun v433 =>
  .exS fun a434 n434 c434 =>
  .isL v433 [.slice a434 n434 c434] <|
  bif ((↑n434 : Int) == 1) then
   (.load ⟨p389, 2, none⟩ 1 fun v435 =>
   .exS fun a436 n436 c436 =>
   .isL v435 [.slice a436 n436 c436] <|
   .some a436 fun x437 =>
   .need ((0 : Int) ≤ 0 ∧ 0 < (↑n436 : Int)) <|
   .load x437 1 fun v438 =>
   .exI fun i439 =>
   .isL v438 [.int .u64 i439] <|
   bif (i439 == 5) then
    (.load ⟨p388, 16, none⟩ 1 fun v440 =>
    .exS fun a441 n441 c441 =>
    .isL v440 [.slice a441 n441 c441] <|
    bif ((↑n441 : Int) == 0) then
     (.load ⟨p429, 9, none⟩ 1 fun v442 =>
     .exI fun i443 =>
     .isL v442 [.int .i64 i443] <|
     bif (i443 == 0) then
      (.load ⟨p429, 0, none⟩ 1 fun v444 =>
      .exI fun i445 =>
      .isL v444 [.int .u64 i445] <|
      bif (i445 == 2) then
       (.load ⟨p429, 1, none⟩ 1 fun v446 =>
       .exI fun i447 =>
       .isL v446 [.int .i64 i447] <|
       bif (i447 == 0) then
        (.load ⟨p430, 1, none⟩ 1 fun v448 =>
        .exS fun a449 n449 c449 =>
        .isL v448 [.slice a449 n449 c449] <|
        bif ((↑n449 : Int) == 1) then
         (.load ⟨p430, 1, none⟩ 1 fun v450 =>
         .exS fun a451 n451 c451 =>
         .isL v450 [.slice a451 n451 c451] <|
         .some a451 fun x452 =>
         .need ((0 : Int) ≤ 0 ∧ 0 < (↑n451 : Int)) <|
         .load (x452.add 9) 1 fun v453 =>
         .exB fun b454 =>
         .isL v453 [.bool b454] <|
         .ret (.bool !b454))
        else
        (.ret (.bool false)))
       else
       (.ret (.bool false)))
      else
      (.ret (.bool false)))
     else
     (.ret (.bool false)))
    else
    (.ret (.bool false)))
   else
   (.ret (.bool false)))
  else
  (.ret (.bool false)))
 else
 (.ret (.bool false)))))))))))))))))))))))
theorem e21 : genFn Try.prog noM noM Try.f21 [] = t21 := by kernel_rfl
theorem r21 {R : Value → World → Prop} {w : World} (h : (t21).wp Try.prog R (fun _ _ _ => False) w) : Runs Try.prog 21 [] w R :=
 genFn_runs mixed noM noM Try.func21 (by kernel_rfl) (by rw [e21]; exact h)
end Go.Proofs.Ytnbfffmdplcajaa
