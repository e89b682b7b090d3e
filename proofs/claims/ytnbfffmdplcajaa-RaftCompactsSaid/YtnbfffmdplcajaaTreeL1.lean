/- The trees of verification conditions of functions 3-6: printed by a program of mine, checked here. -/
import Derived.Test.YtnbfffmdplcajaaTree0
set_option linter.unusedVariables false
set_option maxRecDepth 100000
namespace Go.Proofs.Ytnbfffmdplcajaa
open Go.Vc
def ct3 : Marks := (fun | some 7 => some [(10, .pointer none)] | some 8 => some [(11, .pointer none)] | _ => none)
def t3 (id : Int) (n : Int) (k0 : Int) (k1 : Int) (k2 : Int) (k3 : Int) (k4a : Option Addr) (k4n : Nat) (k4c : Nat) (k5a : Option Addr) (k5n : Nat) (k5c : Nat) (at_ : Int) : VC :=
 .new 30 [.int .u64 k0, .int .i64 k1, .int .u64 k2, .int .u64 k3, .slice k4a k4n k4c, .slice k5a k5n k5c] fun p1 =>
 .call 22 ([]) fun v2 =>
 .exB fun b3 =>
 .isL [v2] [.bool b3] <|
 bif !b3 then
  (.ret (.bool false))
 else
 (.load ⟨p1, 5, none⟩ 1 fun v4 =>
 .exS fun a5 n5 c5 =>
 .isL v4 [.slice a5 n5 c5] <|
 bif (decide ((↑n5 : Int) > 20)) then
  (.ret (.bool true))
 else
 (.load ⟨p1, 2, none⟩ 1 fun v6 =>
 .exI fun i7 =>
 .isL v6 [.int .u64 i7] <|
 bif (decide (i7 > 1099511627776)) then
  (.ret (.bool true))
 else
 (.load ⟨p1, 4, none⟩ 1 fun v8 =>
 .exS fun a9 n9 c9 =>
 .isL v8 [.slice a9 n9 c9] <|
 bif (decide ((↑n9 : Int) > 100)) then
  (.ret (.bool true))
 else
 (.need ((7 : Int) ≠ 0) <|
 .cut 0 (.draw <|
  .need (IntKind.i64.wrap (1 + (IntKind.i64.wrap n).tmod 7) ≠ 0) <|
  .load ⟨p1, 0, none⟩ 6 fun v10 =>
  .exI fun i11 =>
  .exI fun i12 =>
  .exI fun i13 =>
  .exI fun i14 =>
  .exS fun a15 n15 c15 =>
  .exS fun a16 n16 c16 =>
  .isL v10 [.int .u64 i11, .int .i64 i12, .int .u64 i13, .int .u64 i14, .slice a15 n15 c15, .slice a16 n16 c16] <|
  .both
   (.call 23 ([.int .i64 (IntKind.i64.wrap (1 + (IntKind.i64.wrap id).tmod (IntKind.i64.wrap (1 + (IntKind.i64.wrap n).tmod 7)))), .int .i64 (IntKind.i64.wrap (1 + (IntKind.i64.wrap n).tmod 7)), .agg #[.int .u64 i11, .int .i64 i12, .int .u64 i13, .int .u64 i14, .slice a15 n15 c15, .slice a16 n16 c16]]) fun v17 =>
   .exI fun i18 =>
   .exI fun i19 =>
   .exI fun i20 =>
   .exI fun i21 =>
   .exI fun i22 =>
   .exI fun i23 =>
   .exS fun a24 n24 c24 =>
   .exS fun a25 n25 c25 =>
   .exI fun i26 =>
   .exI fun i27 =>
   .exI fun i28 =>
   .exS fun a29 n29 c29 =>
   .exS fun a30 n30 c30 =>
   .exS fun a31 n31 c31 =>
   .exS fun a32 n32 c32 =>
   .exI fun i33 =>
   .exS fun a34 n34 c34 =>
   .isL [v17] [.agg #[.int .u64 i18, .int .i64 i19, .int .i64 i20, .int .i64 i21, .int .u64 i22, .int .u64 i23, .slice a24 n24 c24, .slice a25 n25 c25, .int .u64 i26, .int .i64 i27, .int .i64 i28, .slice a29 n29 c29, .slice a30 n30 c30, .slice a31 n31 c31, .slice a32 n32 c32, .int .u64 i33, .slice a34 n34 c34]] <|
   .new 36 [.int .u64 0, .int .i64 0, .int .i64 0, .int .i64 0, .int .u64 0, .int .u64 0, .slice none 0 0, .slice none 0 0, .int .u64 0, .int .i64 0, .int .i64 0, .slice none 0 0, .slice none 0 0, .slice none 0 0, .slice none 0 0, .int .u64 0, .slice none 0 0] fun p35 =>
   .store ⟨p35, 0, none⟩ [.int .u64 i18, .int .i64 i19, .int .i64 i20, .int .i64 i21, .int .u64 i22, .int .u64 i23, .slice a24 n24 c24, .slice a25 n25 c25, .int .u64 i26, .int .i64 i27, .int .i64 i28, .slice a29 n29 c29, .slice a30 n30 c30, .slice a31 n31 c31, .slice a32 n32 c32, .int .u64 i33, .slice a34 n34 c34] <|
   .again 0 [.pointer (some ⟨p35, 0, none⟩)])
  (.new 36 [.int .u64 0, .int .i64 0, .int .i64 0, .int .i64 0, .int .u64 0, .int .u64 0, .slice none 0 0, .slice none 0 0, .int .u64 0, .int .i64 0, .int .i64 0, .slice none 0 0, .slice none 0 0, .slice none 0 0, .slice none 0 0, .int .u64 0, .slice none 0 0] fun p36 =>
  .call 23 ([.int .i64 (IntKind.i64.wrap (1 + (IntKind.i64.wrap id).tmod (IntKind.i64.wrap (1 + (IntKind.i64.wrap n).tmod 7)))), .int .i64 (IntKind.i64.wrap (1 + (IntKind.i64.wrap n).tmod 7)), .agg #[.int .u64 i11, .int .i64 i12, .int .u64 i13, .int .u64 i14, .slice a15 n15 c15, .slice a16 n16 c16]]) fun v37 =>
  .exI fun i38 =>
  .exI fun i39 =>
  .exI fun i40 =>
  .exI fun i41 =>
  .exI fun i42 =>
  .exI fun i43 =>
  .exS fun a44 n44 c44 =>
  .exS fun a45 n45 c45 =>
  .exI fun i46 =>
  .exI fun i47 =>
  .exI fun i48 =>
  .exS fun a49 n49 c49 =>
  .exS fun a50 n50 c50 =>
  .exS fun a51 n51 c51 =>
  .exS fun a52 n52 c52 =>
  .exI fun i53 =>
  .exS fun a54 n54 c54 =>
  .isL [v37] [.agg #[.int .u64 i38, .int .i64 i39, .int .i64 i40, .int .i64 i41, .int .u64 i42, .int .u64 i43, .slice a44 n44 c44, .slice a45 n45 c45, .int .u64 i46, .int .i64 i47, .int .i64 i48, .slice a49 n49 c49, .slice a50 n50 c50, .slice a51 n51 c51, .slice a52 n52 c52, .int .u64 i53, .slice a54 n54 c54]] <|
  .store ⟨p36, 0, none⟩ [.int .u64 i38, .int .i64 i39, .int .i64 i40, .int .i64 i41, .int .u64 i42, .int .u64 i43, .slice a44 n44 c44, .slice a45 n45 c45, .int .u64 i46, .int .i64 i47, .int .i64 i48, .slice a49 n49 c49, .slice a50 n50 c50, .slice a51 n51 c51, .slice a52 n52 c52, .int .u64 i53, .slice a54 n54 c54] <|
  .again 0 [.pointer (some ⟨p36, 0, none⟩)])) (fun v1010 =>
 .exN fun p56 =>
 .isL v1010 [.pointer (some ⟨p56, 0, none⟩)] <|
 .cut 0 (.draw <|
  .need (IntKind.i64.wrap (1 + (IntKind.i64.wrap n).tmod 7) ≠ 0) <|
  .load ⟨p1, 0, none⟩ 6 fun v57 =>
  .exI fun i58 =>
  .exI fun i59 =>
  .exI fun i60 =>
  .exI fun i61 =>
  .exS fun a62 n62 c62 =>
  .exS fun a63 n63 c63 =>
  .isL v57 [.int .u64 i58, .int .i64 i59, .int .u64 i60, .int .u64 i61, .slice a62 n62 c62, .slice a63 n63 c63] <|
  .both
   (.call 24 ([.int .i64 (IntKind.i64.wrap (1 + (IntKind.i64.wrap id).tmod (IntKind.i64.wrap (1 + (IntKind.i64.wrap n).tmod 7)))), .int .i64 (IntKind.i64.wrap (1 + (IntKind.i64.wrap n).tmod 7)), .agg #[.int .u64 i58, .int .i64 i59, .int .u64 i60, .int .u64 i61, .slice a62 n62 c62, .slice a63 n63 c63]]) fun v64 =>
   .exI fun i65 =>
   .exI fun i66 =>
   .exI fun i67 =>
   .exI fun i68 =>
   .exI fun i69 =>
   .exI fun i70 =>
   .exS fun a71 n71 c71 =>
   .exS fun a72 n72 c72 =>
   .exI fun i73 =>
   .exI fun i74 =>
   .exI fun i75 =>
   .exS fun a76 n76 c76 =>
   .exS fun a77 n77 c77 =>
   .exS fun a78 n78 c78 =>
   .exS fun a79 n79 c79 =>
   .exI fun i80 =>
   .exS fun a81 n81 c81 =>
   .isL [v64] [.agg #[.int .u64 i65, .int .i64 i66, .int .i64 i67, .int .i64 i68, .int .u64 i69, .int .u64 i70, .slice a71 n71 c71, .slice a72 n72 c72, .int .u64 i73, .int .i64 i74, .int .i64 i75, .slice a76 n76 c76, .slice a77 n77 c77, .slice a78 n78 c78, .slice a79 n79 c79, .int .u64 i80, .slice a81 n81 c81]] <|
   .new 36 [.int .u64 0, .int .i64 0, .int .i64 0, .int .i64 0, .int .u64 0, .int .u64 0, .slice none 0 0, .slice none 0 0, .int .u64 0, .int .i64 0, .int .i64 0, .slice none 0 0, .slice none 0 0, .slice none 0 0, .slice none 0 0, .int .u64 0, .slice none 0 0] fun p82 =>
   .store ⟨p82, 0, none⟩ [.int .u64 i65, .int .i64 i66, .int .i64 i67, .int .i64 i68, .int .u64 i69, .int .u64 i70, .slice a71 n71 c71, .slice a72 n72 c72, .int .u64 i73, .int .i64 i74, .int .i64 i75, .slice a76 n76 c76, .slice a77 n77 c77, .slice a78 n78 c78, .slice a79 n79 c79, .int .u64 i80, .slice a81 n81 c81] <|
   .again 0 [.pointer (some ⟨p82, 0, none⟩)])
  (.new 36 [.int .u64 0, .int .i64 0, .int .i64 0, .int .i64 0, .int .u64 0, .int .u64 0, .slice none 0 0, .slice none 0 0, .int .u64 0, .int .i64 0, .int .i64 0, .slice none 0 0, .slice none 0 0, .slice none 0 0, .slice none 0 0, .int .u64 0, .slice none 0 0] fun p83 =>
  .call 24 ([.int .i64 (IntKind.i64.wrap (1 + (IntKind.i64.wrap id).tmod (IntKind.i64.wrap (1 + (IntKind.i64.wrap n).tmod 7)))), .int .i64 (IntKind.i64.wrap (1 + (IntKind.i64.wrap n).tmod 7)), .agg #[.int .u64 i58, .int .i64 i59, .int .u64 i60, .int .u64 i61, .slice a62 n62 c62, .slice a63 n63 c63]]) fun v84 =>
  .exI fun i85 =>
  .exI fun i86 =>
  .exI fun i87 =>
  .exI fun i88 =>
  .exI fun i89 =>
  .exI fun i90 =>
  .exS fun a91 n91 c91 =>
  .exS fun a92 n92 c92 =>
  .exI fun i93 =>
  .exI fun i94 =>
  .exI fun i95 =>
  .exS fun a96 n96 c96 =>
  .exS fun a97 n97 c97 =>
  .exS fun a98 n98 c98 =>
  .exS fun a99 n99 c99 =>
  .exI fun i100 =>
  .exS fun a101 n101 c101 =>
  .isL [v84] [.agg #[.int .u64 i85, .int .i64 i86, .int .i64 i87, .int .i64 i88, .int .u64 i89, .int .u64 i90, .slice a91 n91 c91, .slice a92 n92 c92, .int .u64 i93, .int .i64 i94, .int .i64 i95, .slice a96 n96 c96, .slice a97 n97 c97, .slice a98 n98 c98, .slice a99 n99 c99, .int .u64 i100, .slice a101 n101 c101]] <|
  .store ⟨p83, 0, none⟩ [.int .u64 i85, .int .i64 i86, .int .i64 i87, .int .i64 i88, .int .u64 i89, .int .u64 i90, .slice a91 n91 c91, .slice a92 n92 c92, .int .u64 i93, .int .i64 i94, .int .i64 i95, .slice a96 n96 c96, .slice a97 n97 c97, .slice a98 n98 c98, .slice a99 n99 c99, .int .u64 i100, .slice a101 n101 c101] <|
  .again 0 [.pointer (some ⟨p83, 0, none⟩)])) (fun v1057 =>
 .exN fun p103 =>
 .isL v1057 [.pointer (some ⟨p103, 0, none⟩)] <|
 .load ⟨p56, 0, none⟩ 17 fun v104 =>
 .exI fun i105 =>
 .exI fun i106 =>
 .exI fun i107 =>
 .exI fun i108 =>
 .exI fun i109 =>
 .exI fun i110 =>
 .exS fun a111 n111 c111 =>
 .exS fun a112 n112 c112 =>
 .exI fun i113 =>
 .exI fun i114 =>
 .exI fun i115 =>
 .exS fun a116 n116 c116 =>
 .exS fun a117 n117 c117 =>
 .exS fun a118 n118 c118 =>
 .exS fun a119 n119 c119 =>
 .exI fun i120 =>
 .exS fun a121 n121 c121 =>
 .isL v104 [.int .u64 i105, .int .i64 i106, .int .i64 i107, .int .i64 i108, .int .u64 i109, .int .u64 i110, .slice a111 n111 c111, .slice a112 n112 c112, .int .u64 i113, .int .i64 i114, .int .i64 i115, .slice a116 n116 c116, .slice a117 n117 c117, .slice a118 n118 c118, .slice a119 n119 c119, .int .u64 i120, .slice a121 n121 c121] <|
 .call 25 ([.agg #[.int .u64 i105, .int .i64 i106, .int .i64 i107, .int .i64 i108, .int .u64 i109, .int .u64 i110, .slice a111 n111 c111, .slice a112 n112 c112, .int .u64 i113, .int .i64 i114, .int .i64 i115, .slice a116 n116 c116, .slice a117 n117 c117, .slice a118 n118 c118, .slice a119 n119 c119, .int .u64 i120, .slice a121 n121 c121]]) fun v122 =>
 .exI fun i123 =>
 .exI fun i124 =>
 .isL [v122] [.tuple #[.int .u64 i123, .int .u64 i124]] <|
 .load ⟨p103, 0, none⟩ 17 fun v125 =>
 .exI fun i126 =>
 .exI fun i127 =>
 .exI fun i128 =>
 .exI fun i129 =>
 .exI fun i130 =>
 .exI fun i131 =>
 .exS fun a132 n132 c132 =>
 .exS fun a133 n133 c133 =>
 .exI fun i134 =>
 .exI fun i135 =>
 .exI fun i136 =>
 .exS fun a137 n137 c137 =>
 .exS fun a138 n138 c138 =>
 .exS fun a139 n139 c139 =>
 .exS fun a140 n140 c140 =>
 .exI fun i141 =>
 .exS fun a142 n142 c142 =>
 .isL v125 [.int .u64 i126, .int .i64 i127, .int .i64 i128, .int .i64 i129, .int .u64 i130, .int .u64 i131, .slice a132 n132 c132, .slice a133 n133 c133, .int .u64 i134, .int .i64 i135, .int .i64 i136, .slice a137 n137 c137, .slice a138 n138 c138, .slice a139 n139 c139, .slice a140 n140 c140, .int .u64 i141, .slice a142 n142 c142] <|
 .call 26 ([.agg #[.int .u64 i126, .int .i64 i127, .int .i64 i128, .int .i64 i129, .int .u64 i130, .int .u64 i131, .slice a132 n132 c132, .slice a133 n133 c133, .int .u64 i134, .int .i64 i135, .int .i64 i136, .slice a137 n137 c137, .slice a138 n138 c138, .slice a139 n139 c139, .slice a140 n140 c140, .int .u64 i141, .slice a142 n142 c142]]) fun v143 =>
 .exI fun i144 =>
 .exI fun i145 =>
 .isL [v143] [.tuple #[.int .u64 i144, .int .u64 i145]] <|
 .load ⟨p56, 0, none⟩ 17 fun v146 =>
 .exI fun i147 =>
 .exI fun i148 =>
 .exI fun i149 =>
 .exI fun i150 =>
 .exI fun i151 =>
 .exI fun i152 =>
 .exS fun a153 n153 c153 =>
 .exS fun a154 n154 c154 =>
 .exI fun i155 =>
 .exI fun i156 =>
 .exI fun i157 =>
 .exS fun a158 n158 c158 =>
 .exS fun a159 n159 c159 =>
 .exS fun a160 n160 c160 =>
 .exS fun a161 n161 c161 =>
 .exI fun i162 =>
 .exS fun a163 n163 c163 =>
 .isL v146 [.int .u64 i147, .int .i64 i148, .int .i64 i149, .int .i64 i150, .int .u64 i151, .int .u64 i152, .slice a153 n153 c153, .slice a154 n154 c154, .int .u64 i155, .int .i64 i156, .int .i64 i157, .slice a158 n158 c158, .slice a159 n159 c159, .slice a160 n160 c160, .slice a161 n161 c161, .int .u64 i162, .slice a163 n163 c163] <|
 .call 27 ([.agg #[.int .u64 i147, .int .i64 i148, .int .i64 i149, .int .i64 i150, .int .u64 i151, .int .u64 i152, .slice a153 n153 c153, .slice a154 n154 c154, .int .u64 i155, .int .i64 i156, .int .i64 i157, .slice a158 n158 c158, .slice a159 n159 c159, .slice a160 n160 c160, .slice a161 n161 c161, .int .u64 i162, .slice a163 n163 c163], .int .u64 at_]) fun v164 =>
 .exI fun i165 =>
 .exB fun b166 =>
 .isL [v164] [.tuple #[.int .u64 i165, .bool b166]] <|
 .load ⟨p103, 0, none⟩ 17 fun v167 =>
 .exI fun i168 =>
 .exI fun i169 =>
 .exI fun i170 =>
 .exI fun i171 =>
 .exI fun i172 =>
 .exI fun i173 =>
 .exS fun a174 n174 c174 =>
 .exS fun a175 n175 c175 =>
 .exI fun i176 =>
 .exI fun i177 =>
 .exI fun i178 =>
 .exS fun a179 n179 c179 =>
 .exS fun a180 n180 c180 =>
 .exS fun a181 n181 c181 =>
 .exS fun a182 n182 c182 =>
 .exI fun i183 =>
 .exS fun a184 n184 c184 =>
 .isL v167 [.int .u64 i168, .int .i64 i169, .int .i64 i170, .int .i64 i171, .int .u64 i172, .int .u64 i173, .slice a174 n174 c174, .slice a175 n175 c175, .int .u64 i176, .int .i64 i177, .int .i64 i178, .slice a179 n179 c179, .slice a180 n180 c180, .slice a181 n181 c181, .slice a182 n182 c182, .int .u64 i183, .slice a184 n184 c184] <|
 .call 28 ([.agg #[.int .u64 i168, .int .i64 i169, .int .i64 i170, .int .i64 i171, .int .u64 i172, .int .u64 i173, .slice a174 n174 c174, .slice a175 n175 c175, .int .u64 i176, .int .i64 i177, .int .i64 i178, .slice a179 n179 c179, .slice a180 n180 c180, .slice a181 n181 c181, .slice a182 n182 c182, .int .u64 i183, .slice a184 n184 c184], .int .u64 at_]) fun v185 =>
 .exI fun i186 =>
 .exB fun b187 =>
 .isL [v185] [.tuple #[.int .u64 i186, .bool b187]] <|
 .load ⟨p56, 0, none⟩ 17 fun v188 =>
 .exI fun i189 =>
 .exI fun i190 =>
 .exI fun i191 =>
 .exI fun i192 =>
 .exI fun i193 =>
 .exI fun i194 =>
 .exS fun a195 n195 c195 =>
 .exS fun a196 n196 c196 =>
 .exI fun i197 =>
 .exI fun i198 =>
 .exI fun i199 =>
 .exS fun a200 n200 c200 =>
 .exS fun a201 n201 c201 =>
 .exS fun a202 n202 c202 =>
 .exS fun a203 n203 c203 =>
 .exI fun i204 =>
 .exS fun a205 n205 c205 =>
 .isL v188 [.int .u64 i189, .int .i64 i190, .int .i64 i191, .int .i64 i192, .int .u64 i193, .int .u64 i194, .slice a195 n195 c195, .slice a196 n196 c196, .int .u64 i197, .int .i64 i198, .int .i64 i199, .slice a200 n200 c200, .slice a201 n201 c201, .slice a202 n202 c202, .slice a203 n203 c203, .int .u64 i204, .slice a205 n205 c205] <|
 .load ⟨p103, 0, none⟩ 17 fun v206 =>
 .exI fun i207 =>
 .exI fun i208 =>
 .exI fun i209 =>
 .exI fun i210 =>
 .exI fun i211 =>
 .exI fun i212 =>
 .exS fun a213 n213 c213 =>
 .exS fun a214 n214 c214 =>
 .exI fun i215 =>
 .exI fun i216 =>
 .exI fun i217 =>
 .exS fun a218 n218 c218 =>
 .exS fun a219 n219 c219 =>
 .exS fun a220 n220 c220 =>
 .exS fun a221 n221 c221 =>
 .exI fun i222 =>
 .exS fun a223 n223 c223 =>
 .isL v206 [.int .u64 i207, .int .i64 i208, .int .i64 i209, .int .i64 i210, .int .u64 i211, .int .u64 i212, .slice a213 n213 c213, .slice a214 n214 c214, .int .u64 i215, .int .i64 i216, .int .i64 i217, .slice a218 n218 c218, .slice a219 n219 c219, .slice a220 n220 c220, .slice a221 n221 c221, .int .u64 i222, .slice a223 n223 c223] <|
 .call 29 ([.agg #[.int .u64 i189, .int .i64 i190, .int .i64 i191, .int .i64 i192, .int .u64 i193, .int .u64 i194, .slice a195 n195 c195, .slice a196 n196 c196, .int .u64 i197, .int .i64 i198, .int .i64 i199, .slice a200 n200 c200, .slice a201 n201 c201, .slice a202 n202 c202, .slice a203 n203 c203, .int .u64 i204, .slice a205 n205 c205], .agg #[.int .u64 i207, .int .i64 i208, .int .i64 i209, .int .i64 i210, .int .u64 i211, .int .u64 i212, .slice a213 n213 c213, .slice a214 n214 c214, .int .u64 i215, .int .i64 i216, .int .i64 i217, .slice a218 n218 c218, .slice a219 n219 c219, .slice a220 n220 c220, .slice a221 n221 c221, .int .u64 i222, .slice a223 n223 c223]]) fun v224 =>
 .exB fun b225 =>
 .isL [v224] [.bool b225] <|
 bif b225 then
  (bif (i123 == i144) then
   (bif (i124 == i145) then
    (bif (i165 == i186) then
     (.ret (.bool (b166 == b187)))
    else
    (.ret (.bool false)))
   else
   (.ret (.bool false)))
  else
  (.ret (.bool false)))
 else
 (.ret (.bool false))))))))
theorem e3 (id : Int) (n : Int) (k0 : Int) (k1 : Int) (k2 : Int) (k3 : Int) (k4a : Option Addr) (k4n : Nat) (k4c : Nat) (k5a : Option Addr) (k5n : Nat) (k5c : Nat) (at_ : Int) : genFn Try.prog noM ct3 Try.f3 [.int .u8 id, .int .u8 n, .agg #[.int .u64 k0, .int .i64 k1, .int .u64 k2, .int .u64 k3, .slice k4a k4n k4c, .slice k5a k5n k5c], .int .u64 at_] = t3 id n k0 k1 k2 k3 k4a k4n k4c k5a k5n k5c at_ := by kernel_rfl
theorem r3 (id : Int) (n : Int) (k0 : Int) (k1 : Int) (k2 : Int) (k3 : Int) (k4a : Option Addr) (k4n : Nat) (k4c : Nat) (k5a : Option Addr) (k5n : Nat) (k5c : Nat) (at_ : Int) {R : Value → World → Prop} {w : World} (h : (t3 id n k0 k1 k2 k3 k4a k4n k4c k5a k5n k5c at_).wp Try.prog R (fun _ _ _ => False) w) : Runs Try.prog 3 [.int .u8 id, .int .u8 n, .agg #[.int .u64 k0, .int .i64 k1, .int .u64 k2, .int .u64 k3, .slice k4a k4n k4c, .slice k5a k5n k5c], .int .u64 at_] w R :=
 genFn_runs mixed noM ct3 Try.func3 (by kernel_rfl) (by rw [e3]; exact h)
def t4 (r0 : Int) (r1 : Int) (r2 : Int) (r3 : Int) (r4 : Int) (r5 : Int) (r6a : Option Addr) (r6n : Nat) (r6c : Nat) (r7a : Option Addr) (r7n : Nat) (r7c : Nat) (r8 : Int) (r9 : Int) (r10 : Int) (r11a : Option Addr) (r11n : Nat) (r11c : Nat) (r12a : Option Addr) (r12n : Nat) (r12c : Nat) (r13a : Option Addr) (r13n : Nat) (r13c : Nat) (r14a : Option Addr) (r14n : Nat) (r14c : Nat) (r15 : Int) (r16a : Option Addr) (r16n : Nat) (r16c : Nat) (statea : Option Addr) (staten : Nat) (statec : Nat) (at_ : Int) : VC :=
 .new 36 [.int .u64 r0, .int .i64 r1, .int .i64 r2, .int .i64 r3, .int .u64 r4, .int .u64 r5, .slice r6a r6n r6c, .slice r7a r7n r7c, .int .u64 r8, .int .i64 r9, .int .i64 r10, .slice r11a r11n r11c, .slice r12a r12n r12c, .slice r13a r13n r13c, .slice r14a r14n r14c, .int .u64 r15, .slice r16a r16n r16c] fun p1 =>
 .call 22 ([]) fun v2 =>
 .exB fun b3 =>
 .isL [v2] [.bool b3] <|
 bif !b3 then
  (.ret (.bool false))
 else
 (.load ⟨p1, 0, none⟩ 17 fun v4 =>
 .exI fun i5 =>
 .exI fun i6 =>
 .exI fun i7 =>
 .exI fun i8 =>
 .exI fun i9 =>
 .exI fun i10 =>
 .exS fun a11 n11 c11 =>
 .exS fun a12 n12 c12 =>
 .exI fun i13 =>
 .exI fun i14 =>
 .exI fun i15 =>
 .exS fun a16 n16 c16 =>
 .exS fun a17 n17 c17 =>
 .exS fun a18 n18 c18 =>
 .exS fun a19 n19 c19 =>
 .exI fun i20 =>
 .exS fun a21 n21 c21 =>
 .isL v4 [.int .u64 i5, .int .i64 i6, .int .i64 i7, .int .i64 i8, .int .u64 i9, .int .u64 i10, .slice a11 n11 c11, .slice a12 n12 c12, .int .u64 i13, .int .i64 i14, .int .i64 i15, .slice a16 n16 c16, .slice a17 n17 c17, .slice a18 n18 c18, .slice a19 n19 c19, .int .u64 i20, .slice a21 n21 c21] <|
 .call 30 ([.agg #[.int .u64 i5, .int .i64 i6, .int .i64 i7, .int .i64 i8, .int .u64 i9, .int .u64 i10, .slice a11 n11 c11, .slice a12 n12 c12, .int .u64 i13, .int .i64 i14, .int .i64 i15, .slice a16 n16 c16, .slice a17 n17 c17, .slice a18 n18 c18, .slice a19 n19 c19, .int .u64 i20, .slice a21 n21 c21]]) fun v22 =>
 .exB fun b23 =>
 .isL [v22] [.bool b23] <|
 bif !b23 then
  (.ret (.bool true))
 else
 (bif (decide ((↑staten : Int) > 60)) then
  (.ret (.bool true))
 else
 (.load ⟨p1, 0, none⟩ 17 fun v24 =>
 .exI fun i25 =>
 .exI fun i26 =>
 .exI fun i27 =>
 .exI fun i28 =>
 .exI fun i29 =>
 .exI fun i30 =>
 .exS fun a31 n31 c31 =>
 .exS fun a32 n32 c32 =>
 .exI fun i33 =>
 .exI fun i34 =>
 .exI fun i35 =>
 .exS fun a36 n36 c36 =>
 .exS fun a37 n37 c37 =>
 .exS fun a38 n38 c38 =>
 .exS fun a39 n39 c39 =>
 .exI fun i40 =>
 .exS fun a41 n41 c41 =>
 .isL v24 [.int .u64 i25, .int .i64 i26, .int .i64 i27, .int .i64 i28, .int .u64 i29, .int .u64 i30, .slice a31 n31 c31, .slice a32 n32 c32, .int .u64 i33, .int .i64 i34, .int .i64 i35, .slice a36 n36 c36, .slice a37 n37 c37, .slice a38 n38 c38, .slice a39 n39 c39, .int .u64 i40, .slice a41 n41 c41] <|
 .call 31 ([.agg #[.int .u64 i25, .int .i64 i26, .int .i64 i27, .int .i64 i28, .int .u64 i29, .int .u64 i30, .slice a31 n31 c31, .slice a32 n32 c32, .int .u64 i33, .int .i64 i34, .int .i64 i35, .slice a36 n36 c36, .slice a37 n37 c37, .slice a38 n38 c38, .slice a39 n39 c39, .int .u64 i40, .slice a41 n41 c41], .slice statea staten statec]) fun v42 =>
 .exI fun i43 =>
 .exI fun i44 =>
 .exI fun i45 =>
 .exI fun i46 =>
 .exI fun i47 =>
 .exI fun i48 =>
 .exS fun a49 n49 c49 =>
 .exS fun a50 n50 c50 =>
 .exI fun i51 =>
 .exI fun i52 =>
 .exI fun i53 =>
 .exS fun a54 n54 c54 =>
 .exS fun a55 n55 c55 =>
 .exS fun a56 n56 c56 =>
 .exS fun a57 n57 c57 =>
 .exI fun i58 =>
 .exS fun a59 n59 c59 =>
 .exS fun a60 n60 c60 =>
 .exS fun a61 n61 c61 =>
 .exS fun a62 n62 c62 =>
 .isL [v42] [.tuple #[.agg #[.int .u64 i43, .int .i64 i44, .int .i64 i45, .int .i64 i46, .int .u64 i47, .int .u64 i48, .slice a49 n49 c49, .slice a50 n50 c50, .int .u64 i51, .int .i64 i52, .int .i64 i53, .slice a54 n54 c54, .slice a55 n55 c55, .slice a56 n56 c56, .slice a57 n57 c57, .int .u64 i58, .slice a59 n59 c59], .agg #[.slice a60 n60 c60, .slice a61 n61 c61, .slice a62 n62 c62]]] <|
 .new 36 [.int .u64 0, .int .i64 0, .int .i64 0, .int .i64 0, .int .u64 0, .int .u64 0, .slice none 0 0, .slice none 0 0, .int .u64 0, .int .i64 0, .int .i64 0, .slice none 0 0, .slice none 0 0, .slice none 0 0, .slice none 0 0, .int .u64 0, .slice none 0 0] fun p63 =>
 .new 48 [.slice none 0 0, .slice none 0 0, .slice none 0 0] fun p64 =>
 .store ⟨p63, 0, none⟩ [.int .u64 i43, .int .i64 i44, .int .i64 i45, .int .i64 i46, .int .u64 i47, .int .u64 i48, .slice a49 n49 c49, .slice a50 n50 c50, .int .u64 i51, .int .i64 i52, .int .i64 i53, .slice a54 n54 c54, .slice a55 n55 c55, .slice a56 n56 c56, .slice a57 n57 c57, .int .u64 i58, .slice a59 n59 c59] <|
 .store ⟨p64, 0, none⟩ [.slice a60 n60 c60, .slice a61 n61 c61, .slice a62 n62 c62] <|
 .load ⟨p1, 0, none⟩ 17 fun v65 =>
 .exI fun i66 =>
 .exI fun i67 =>
 .exI fun i68 =>
 .exI fun i69 =>
 .exI fun i70 =>
 .exI fun i71 =>
 .exS fun a72 n72 c72 =>
 .exS fun a73 n73 c73 =>
 .exI fun i74 =>
 .exI fun i75 =>
 .exI fun i76 =>
 .exS fun a77 n77 c77 =>
 .exS fun a78 n78 c78 =>
 .exS fun a79 n79 c79 =>
 .exS fun a80 n80 c80 =>
 .exI fun i81 =>
 .exS fun a82 n82 c82 =>
 .isL v65 [.int .u64 i66, .int .i64 i67, .int .i64 i68, .int .i64 i69, .int .u64 i70, .int .u64 i71, .slice a72 n72 c72, .slice a73 n73 c73, .int .u64 i74, .int .i64 i75, .int .i64 i76, .slice a77 n77 c77, .slice a78 n78 c78, .slice a79 n79 c79, .slice a80 n80 c80, .int .u64 i81, .slice a82 n82 c82] <|
 .call 25 ([.agg #[.int .u64 i66, .int .i64 i67, .int .i64 i68, .int .i64 i69, .int .u64 i70, .int .u64 i71, .slice a72 n72 c72, .slice a73 n73 c73, .int .u64 i74, .int .i64 i75, .int .i64 i76, .slice a77 n77 c77, .slice a78 n78 c78, .slice a79 n79 c79, .slice a80 n80 c80, .int .u64 i81, .slice a82 n82 c82]]) fun v83 =>
 .exI fun i84 =>
 .exI fun i85 =>
 .isL [v83] [.tuple #[.int .u64 i84, .int .u64 i85]] <|
 .load ⟨p63, 0, none⟩ 17 fun v86 =>
 .exI fun i87 =>
 .exI fun i88 =>
 .exI fun i89 =>
 .exI fun i90 =>
 .exI fun i91 =>
 .exI fun i92 =>
 .exS fun a93 n93 c93 =>
 .exS fun a94 n94 c94 =>
 .exI fun i95 =>
 .exI fun i96 =>
 .exI fun i97 =>
 .exS fun a98 n98 c98 =>
 .exS fun a99 n99 c99 =>
 .exS fun a100 n100 c100 =>
 .exS fun a101 n101 c101 =>
 .exI fun i102 =>
 .exS fun a103 n103 c103 =>
 .isL v86 [.int .u64 i87, .int .i64 i88, .int .i64 i89, .int .i64 i90, .int .u64 i91, .int .u64 i92, .slice a93 n93 c93, .slice a94 n94 c94, .int .u64 i95, .int .i64 i96, .int .i64 i97, .slice a98 n98 c98, .slice a99 n99 c99, .slice a100 n100 c100, .slice a101 n101 c101, .int .u64 i102, .slice a103 n103 c103] <|
 .call 25 ([.agg #[.int .u64 i87, .int .i64 i88, .int .i64 i89, .int .i64 i90, .int .u64 i91, .int .u64 i92, .slice a93 n93 c93, .slice a94 n94 c94, .int .u64 i95, .int .i64 i96, .int .i64 i97, .slice a98 n98 c98, .slice a99 n99 c99, .slice a100 n100 c100, .slice a101 n101 c101, .int .u64 i102, .slice a103 n103 c103]]) fun v104 =>
 .exI fun i105 =>
 .exI fun i106 =>
 .isL [v104] [.tuple #[.int .u64 i105, .int .u64 i106]] <|
 .load ⟨p63, 0, none⟩ 17 fun v107 =>
 .exI fun i108 =>
 .exI fun i109 =>
 .exI fun i110 =>
 .exI fun i111 =>
 .exI fun i112 =>
 .exI fun i113 =>
 .exS fun a114 n114 c114 =>
 .exS fun a115 n115 c115 =>
 .exI fun i116 =>
 .exI fun i117 =>
 .exI fun i118 =>
 .exS fun a119 n119 c119 =>
 .exS fun a120 n120 c120 =>
 .exS fun a121 n121 c121 =>
 .exS fun a122 n122 c122 =>
 .exI fun i123 =>
 .exS fun a124 n124 c124 =>
 .isL v107 [.int .u64 i108, .int .i64 i109, .int .i64 i110, .int .i64 i111, .int .u64 i112, .int .u64 i113, .slice a114 n114 c114, .slice a115 n115 c115, .int .u64 i116, .int .i64 i117, .int .i64 i118, .slice a119 n119 c119, .slice a120 n120 c120, .slice a121 n121 c121, .slice a122 n122 c122, .int .u64 i123, .slice a124 n124 c124] <|
 .new 5 [.int .u8 111, .int .u8 116, .int .u8 104, .int .u8 101, .int .u8 114] fun p125 =>
 .mark ⟨p125, 0, none⟩ <|
 .call 31 ([.agg #[.int .u64 i108, .int .i64 i109, .int .i64 i110, .int .i64 i111, .int .u64 i112, .int .u64 i113, .slice a114 n114 c114, .slice a115 n115 c115, .int .u64 i116, .int .i64 i117, .int .i64 i118, .slice a119 n119 c119, .slice a120 n120 c120, .slice a121 n121 c121, .slice a122 n122 c122, .int .u64 i123, .slice a124 n124 c124], .slice (some ⟨p125, 0, none⟩) 5 5]) fun v126 =>
 .exI fun i127 =>
 .exI fun i128 =>
 .exI fun i129 =>
 .exI fun i130 =>
 .exI fun i131 =>
 .exI fun i132 =>
 .exS fun a133 n133 c133 =>
 .exS fun a134 n134 c134 =>
 .exI fun i135 =>
 .exI fun i136 =>
 .exI fun i137 =>
 .exS fun a138 n138 c138 =>
 .exS fun a139 n139 c139 =>
 .exS fun a140 n140 c140 =>
 .exS fun a141 n141 c141 =>
 .exI fun i142 =>
 .exS fun a143 n143 c143 =>
 .exS fun a144 n144 c144 =>
 .exS fun a145 n145 c145 =>
 .exS fun a146 n146 c146 =>
 .isL [v126] [.tuple #[.agg #[.int .u64 i127, .int .i64 i128, .int .i64 i129, .int .i64 i130, .int .u64 i131, .int .u64 i132, .slice a133 n133 c133, .slice a134 n134 c134, .int .u64 i135, .int .i64 i136, .int .i64 i137, .slice a138 n138 c138, .slice a139 n139 c139, .slice a140 n140 c140, .slice a141 n141 c141, .int .u64 i142, .slice a143 n143 c143], .agg #[.slice a144 n144 c144, .slice a145 n145 c145, .slice a146 n146 c146]]] <|
 .new 36 [.int .u64 0, .int .i64 0, .int .i64 0, .int .i64 0, .int .u64 0, .int .u64 0, .slice none 0 0, .slice none 0 0, .int .u64 0, .int .i64 0, .int .i64 0, .slice none 0 0, .slice none 0 0, .slice none 0 0, .slice none 0 0, .int .u64 0, .slice none 0 0] fun p147 =>
 .new 48 [.slice none 0 0, .slice none 0 0, .slice none 0 0] fun p148 =>
 .store ⟨p147, 0, none⟩ [.int .u64 i127, .int .i64 i128, .int .i64 i129, .int .i64 i130, .int .u64 i131, .int .u64 i132, .slice a133 n133 c133, .slice a134 n134 c134, .int .u64 i135, .int .i64 i136, .int .i64 i137, .slice a138 n138 c138, .slice a139 n139 c139, .slice a140 n140 c140, .slice a141 n141 c141, .int .u64 i142, .slice a143 n143 c143] <|
 .store ⟨p148, 0, none⟩ [.slice a144 n144 c144, .slice a145 n145 c145, .slice a146 n146 c146] <|
 bif (i84 != i105) then
  (.ret (.bool false))
 else
 (bif (i85 != i106) then
  (.ret (.bool false))
 else
 (.load ⟨p63, 0, none⟩ 17 fun v149 =>
 .exI fun i150 =>
 .exI fun i151 =>
 .exI fun i152 =>
 .exI fun i153 =>
 .exI fun i154 =>
 .exI fun i155 =>
 .exS fun a156 n156 c156 =>
 .exS fun a157 n157 c157 =>
 .exI fun i158 =>
 .exI fun i159 =>
 .exI fun i160 =>
 .exS fun a161 n161 c161 =>
 .exS fun a162 n162 c162 =>
 .exS fun a163 n163 c163 =>
 .exS fun a164 n164 c164 =>
 .exI fun i165 =>
 .exS fun a166 n166 c166 =>
 .isL v149 [.int .u64 i150, .int .i64 i151, .int .i64 i152, .int .i64 i153, .int .u64 i154, .int .u64 i155, .slice a156 n156 c156, .slice a157 n157 c157, .int .u64 i158, .int .i64 i159, .int .i64 i160, .slice a161 n161 c161, .slice a162 n162 c162, .slice a163 n163 c163, .slice a164 n164 c164, .int .u64 i165, .slice a166 n166 c166] <|
 .load ⟨p147, 0, none⟩ 17 fun v167 =>
 .exI fun i168 =>
 .exI fun i169 =>
 .exI fun i170 =>
 .exI fun i171 =>
 .exI fun i172 =>
 .exI fun i173 =>
 .exS fun a174 n174 c174 =>
 .exS fun a175 n175 c175 =>
 .exI fun i176 =>
 .exI fun i177 =>
 .exI fun i178 =>
 .exS fun a179 n179 c179 =>
 .exS fun a180 n180 c180 =>
 .exS fun a181 n181 c181 =>
 .exS fun a182 n182 c182 =>
 .exI fun i183 =>
 .exS fun a184 n184 c184 =>
 .isL v167 [.int .u64 i168, .int .i64 i169, .int .i64 i170, .int .i64 i171, .int .u64 i172, .int .u64 i173, .slice a174 n174 c174, .slice a175 n175 c175, .int .u64 i176, .int .i64 i177, .int .i64 i178, .slice a179 n179 c179, .slice a180 n180 c180, .slice a181 n181 c181, .slice a182 n182 c182, .int .u64 i183, .slice a184 n184 c184] <|
 .call 29 ([.agg #[.int .u64 i150, .int .i64 i151, .int .i64 i152, .int .i64 i153, .int .u64 i154, .int .u64 i155, .slice a156 n156 c156, .slice a157 n157 c157, .int .u64 i158, .int .i64 i159, .int .i64 i160, .slice a161 n161 c161, .slice a162 n162 c162, .slice a163 n163 c163, .slice a164 n164 c164, .int .u64 i165, .slice a166 n166 c166], .agg #[.int .u64 i168, .int .i64 i169, .int .i64 i170, .int .i64 i171, .int .u64 i172, .int .u64 i173, .slice a174 n174 c174, .slice a175 n175 c175, .int .u64 i176, .int .i64 i177, .int .i64 i178, .slice a179 n179 c179, .slice a180 n180 c180, .slice a181 n181 c181, .slice a182 n182 c182, .int .u64 i183, .slice a184 n184 c184]]) fun v185 =>
 .exB fun b186 =>
 .isL [v185] [.bool b186] <|
 bif !b186 then
  (.ret (.bool false))
 else
 (.load ⟨p148, 0, none⟩ 1 fun v187 =>
 .exS fun a188 n188 c188 =>
 .isL v187 [.slice a188 n188 c188] <|
 bif ((↑n188 : Int) != 0) then
  (.ret (.bool false))
 else
 (.load ⟨p64, 1, none⟩ 1 fun v189 =>
 .exS fun a190 n190 c190 =>
 .isL v189 [.slice a190 n190 c190] <|
 bif ((↑n190 : Int) != 0) then
  (.ret (.bool false))
 else
 (.load ⟨p63, 4, none⟩ 1 fun v191 =>
 .exI fun i192 =>
 .isL v191 [.int .u64 i192] <|
 .load ⟨p1, 8, none⟩ 1 fun v193 =>
 .exI fun i194 =>
 .isL v193 [.int .u64 i194] <|
 bif (i192 != i194) then
  (.ret (.bool false))
 else
 (.load ⟨p64, 0, none⟩ 1 fun v195 =>
 .exS fun a196 n196 c196 =>
 .isL v195 [.slice a196 n196 c196] <|
 .load ⟨p1, 8, none⟩ 1 fun v197 =>
 .exI fun i198 =>
 .isL v197 [.int .u64 i198] <|
 .load ⟨p1, 4, none⟩ 1 fun v199 =>
 .exI fun i200 =>
 .isL v199 [.int .u64 i200] <|
 bif (!((↑n196 : Int) == 1) == decide (i198 > i200)) then
  (.ret (.bool false))
 else
 (.load ⟨p1, 8, none⟩ 1 fun v201 =>
 .exI fun i202 =>
 .isL v201 [.int .u64 i202] <|
 bif (decide (at_ < i202)) then
  (.ret (.bool true))
 else
 (.load ⟨p1, 0, none⟩ 17 fun v203 =>
 .exI fun i204 =>
 .exI fun i205 =>
 .exI fun i206 =>
 .exI fun i207 =>
 .exI fun i208 =>
 .exI fun i209 =>
 .exS fun a210 n210 c210 =>
 .exS fun a211 n211 c211 =>
 .exI fun i212 =>
 .exI fun i213 =>
 .exI fun i214 =>
 .exS fun a215 n215 c215 =>
 .exS fun a216 n216 c216 =>
 .exS fun a217 n217 c217 =>
 .exS fun a218 n218 c218 =>
 .exI fun i219 =>
 .exS fun a220 n220 c220 =>
 .isL v203 [.int .u64 i204, .int .i64 i205, .int .i64 i206, .int .i64 i207, .int .u64 i208, .int .u64 i209, .slice a210 n210 c210, .slice a211 n211 c211, .int .u64 i212, .int .i64 i213, .int .i64 i214, .slice a215 n215 c215, .slice a216 n216 c216, .slice a217 n217 c217, .slice a218 n218 c218, .int .u64 i219, .slice a220 n220 c220] <|
 .call 27 ([.agg #[.int .u64 i204, .int .i64 i205, .int .i64 i206, .int .i64 i207, .int .u64 i208, .int .u64 i209, .slice a210 n210 c210, .slice a211 n211 c211, .int .u64 i212, .int .i64 i213, .int .i64 i214, .slice a215 n215 c215, .slice a216 n216 c216, .slice a217 n217 c217, .slice a218 n218 c218, .int .u64 i219, .slice a220 n220 c220], .int .u64 at_]) fun v221 =>
 .exI fun i222 =>
 .exB fun b223 =>
 .isL [v221] [.tuple #[.int .u64 i222, .bool b223]] <|
 .load ⟨p63, 0, none⟩ 17 fun v224 =>
 .exI fun i225 =>
 .exI fun i226 =>
 .exI fun i227 =>
 .exI fun i228 =>
 .exI fun i229 =>
 .exI fun i230 =>
 .exS fun a231 n231 c231 =>
 .exS fun a232 n232 c232 =>
 .exI fun i233 =>
 .exI fun i234 =>
 .exI fun i235 =>
 .exS fun a236 n236 c236 =>
 .exS fun a237 n237 c237 =>
 .exS fun a238 n238 c238 =>
 .exS fun a239 n239 c239 =>
 .exI fun i240 =>
 .exS fun a241 n241 c241 =>
 .isL v224 [.int .u64 i225, .int .i64 i226, .int .i64 i227, .int .i64 i228, .int .u64 i229, .int .u64 i230, .slice a231 n231 c231, .slice a232 n232 c232, .int .u64 i233, .int .i64 i234, .int .i64 i235, .slice a236 n236 c236, .slice a237 n237 c237, .slice a238 n238 c238, .slice a239 n239 c239, .int .u64 i240, .slice a241 n241 c241] <|
 .call 27 ([.agg #[.int .u64 i225, .int .i64 i226, .int .i64 i227, .int .i64 i228, .int .u64 i229, .int .u64 i230, .slice a231 n231 c231, .slice a232 n232 c232, .int .u64 i233, .int .i64 i234, .int .i64 i235, .slice a236 n236 c236, .slice a237 n237 c237, .slice a238 n238 c238, .slice a239 n239 c239, .int .u64 i240, .slice a241 n241 c241], .int .u64 at_]) fun v242 =>
 .exI fun i243 =>
 .exB fun b244 =>
 .isL [v242] [.tuple #[.int .u64 i243, .bool b244]] <|
 bif (i222 == i243) then
  (.ret (.bool (b223 == b244)))
 else
 (.ret (.bool false)))))))))))))
theorem e4 (r0 : Int) (r1 : Int) (r2 : Int) (r3 : Int) (r4 : Int) (r5 : Int) (r6a : Option Addr) (r6n : Nat) (r6c : Nat) (r7a : Option Addr) (r7n : Nat) (r7c : Nat) (r8 : Int) (r9 : Int) (r10 : Int) (r11a : Option Addr) (r11n : Nat) (r11c : Nat) (r12a : Option Addr) (r12n : Nat) (r12c : Nat) (r13a : Option Addr) (r13n : Nat) (r13c : Nat) (r14a : Option Addr) (r14n : Nat) (r14c : Nat) (r15 : Int) (r16a : Option Addr) (r16n : Nat) (r16c : Nat) (statea : Option Addr) (staten : Nat) (statec : Nat) (at_ : Int) : genFn Try.prog noM noM Try.f4 [.agg #[.int .u64 r0, .int .i64 r1, .int .i64 r2, .int .i64 r3, .int .u64 r4, .int .u64 r5, .slice r6a r6n r6c, .slice r7a r7n r7c, .int .u64 r8, .int .i64 r9, .int .i64 r10, .slice r11a r11n r11c, .slice r12a r12n r12c, .slice r13a r13n r13c, .slice r14a r14n r14c, .int .u64 r15, .slice r16a r16n r16c], .slice statea staten statec, .int .u64 at_] = t4 r0 r1 r2 r3 r4 r5 r6a r6n r6c r7a r7n r7c r8 r9 r10 r11a r11n r11c r12a r12n r12c r13a r13n r13c r14a r14n r14c r15 r16a r16n r16c statea staten statec at_ := by kernel_rfl
theorem r4 (r0 : Int) (r1 : Int) (r2 : Int) (r3 : Int) (r4 : Int) (r5 : Int) (r6a : Option Addr) (r6n : Nat) (r6c : Nat) (r7a : Option Addr) (r7n : Nat) (r7c : Nat) (r8 : Int) (r9 : Int) (r10 : Int) (r11a : Option Addr) (r11n : Nat) (r11c : Nat) (r12a : Option Addr) (r12n : Nat) (r12c : Nat) (r13a : Option Addr) (r13n : Nat) (r13c : Nat) (r14a : Option Addr) (r14n : Nat) (r14c : Nat) (r15 : Int) (r16a : Option Addr) (r16n : Nat) (r16c : Nat) (statea : Option Addr) (staten : Nat) (statec : Nat) (at_ : Int) {R : Value → World → Prop} {w : World} (h : (t4 r0 r1 r2 r3 r4 r5 r6a r6n r6c r7a r7n r7c r8 r9 r10 r11a r11n r11c r12a r12n r12c r13a r13n r13c r14a r14n r14c r15 r16a r16n r16c statea staten statec at_).wp Try.prog R (fun _ _ _ => False) w) : Runs Try.prog 4 [.agg #[.int .u64 r0, .int .i64 r1, .int .i64 r2, .int .i64 r3, .int .u64 r4, .int .u64 r5, .slice r6a r6n r6c, .slice r7a r7n r7c, .int .u64 r8, .int .i64 r9, .int .i64 r10, .slice r11a r11n r11c, .slice r12a r12n r12c, .slice r13a r13n r13c, .slice r14a r14n r14c, .int .u64 r15, .slice r16a r16n r16c], .slice statea staten statec, .int .u64 at_] w R :=
 genFn_runs mixed noM noM Try.func4 (by kernel_rfl) (by rw [e4]; exact h)
def lv5 : Marks := (fun | some 7 => some [(7, .int .i64 0)] | _ => none)
def ct5 : Marks := (fun | some 10 => some [(8, .pointer none), (9, .pointer none), (10, .bool false)] | _ => none)
def t5 (la : Option Addr) (ln : Nat) (lc : Nat) (id : Int) : VC :=
 .call 22 ([]) fun v1 =>
 .exB fun b2 =>
 .isL [v1] [.bool b2] <|
 bif !b2 then
  (.ret (.bool false))
 else
 (bif (decide ((↑ln : Int) > 10)) then
  (.ret (.bool true))
 else
 (.call 23 ([.int .i64 1, .int .i64 1, .agg #[.int .u64 0, .int .i64 0, .int .u64 0, .int .u64 0, .slice none 0 0, .slice none 0 0]]) fun v3 =>
 .exI fun i4 =>
 .exI fun i5 =>
 .exI fun i6 =>
 .exI fun i7 =>
 .exI fun i8 =>
 .exI fun i9 =>
 .exS fun a10 n10 c10 =>
 .exS fun a11 n11 c11 =>
 .exI fun i12 =>
 .exI fun i13 =>
 .exI fun i14 =>
 .exS fun a15 n15 c15 =>
 .exS fun a16 n16 c16 =>
 .exS fun a17 n17 c17 =>
 .exS fun a18 n18 c18 =>
 .exI fun i19 =>
 .exS fun a20 n20 c20 =>
 .isL [v3] [.agg #[.int .u64 i4, .int .i64 i5, .int .i64 i6, .int .i64 i7, .int .u64 i8, .int .u64 i9, .slice a10 n10 c10, .slice a11 n11 c11, .int .u64 i12, .int .i64 i13, .int .i64 i14, .slice a15 n15 c15, .slice a16 n16 c16, .slice a17 n17 c17, .slice a18 n18 c18, .int .u64 i19, .slice a20 n20 c20]] <|
 .call 32 ([.agg #[.int .u64 i4, .int .i64 i5, .int .i64 i6, .int .i64 i7, .int .u64 i8, .int .u64 i9, .slice a10 n10 c10, .slice a11 n11 c11, .int .u64 i12, .int .i64 i13, .int .i64 i14, .slice a15 n15 c15, .slice a16 n16 c16, .slice a17 n17 c17, .slice a18 n18 c18, .int .u64 i19, .slice a20 n20 c20]]) fun v21 =>
 .exI fun i22 =>
 .exI fun i23 =>
 .exI fun i24 =>
 .exI fun i25 =>
 .exI fun i26 =>
 .exI fun i27 =>
 .exS fun a28 n28 c28 =>
 .exS fun a29 n29 c29 =>
 .exI fun i30 =>
 .exI fun i31 =>
 .exI fun i32 =>
 .exS fun a33 n33 c33 =>
 .exS fun a34 n34 c34 =>
 .exS fun a35 n35 c35 =>
 .exS fun a36 n36 c36 =>
 .exI fun i37 =>
 .exS fun a38 n38 c38 =>
 .exS fun a39 n39 c39 =>
 .exS fun a40 n40 c40 =>
 .exS fun a41 n41 c41 =>
 .isL [v21] [.tuple #[.agg #[.int .u64 i22, .int .i64 i23, .int .i64 i24, .int .i64 i25, .int .u64 i26, .int .u64 i27, .slice a28 n28 c28, .slice a29 n29 c29, .int .u64 i30, .int .i64 i31, .int .i64 i32, .slice a33 n33 c33, .slice a34 n34 c34, .slice a35 n35 c35, .slice a36 n36 c36, .int .u64 i37, .slice a38 n38 c38], .agg #[.slice a39 n39 c39, .slice a40 n40 c40, .slice a41 n41 c41]]] <|
 .new 36 [.int .u64 0, .int .i64 0, .int .i64 0, .int .i64 0, .int .u64 0, .int .u64 0, .slice none 0 0, .slice none 0 0, .int .u64 0, .int .i64 0, .int .i64 0, .slice none 0 0, .slice none 0 0, .slice none 0 0, .slice none 0 0, .int .u64 0, .slice none 0 0] fun p42 =>
 .new 48 [.slice none 0 0, .slice none 0 0, .slice none 0 0] fun p43 =>
 .store ⟨p42, 0, none⟩ [.int .u64 i22, .int .i64 i23, .int .i64 i24, .int .i64 i25, .int .u64 i26, .int .u64 i27, .slice a28 n28 c28, .slice a29 n29 c29, .int .u64 i30, .int .i64 i31, .int .i64 i32, .slice a33 n33 c33, .slice a34 n34 c34, .slice a35 n35 c35, .slice a36 n36 c36, .int .u64 i37, .slice a38 n38 c38] <|
 .store ⟨p43, 0, none⟩ [.slice a39 n39 c39, .slice a40 n40 c40, .slice a41 n41 c41] <|
 .loop 0 [.int .i64 0] (fun v44 =>
  .exI fun i45 =>
  .isL v44 [.int .i64 i45] <|
  bif (decide (i45 < (↑ln : Int))) then
   (.cut 1 (.draw <|
    .load ⟨p42, 0, none⟩ 17 fun v46 =>
    .exI fun i47 =>
    .exI fun i48 =>
    .exI fun i49 =>
    .exI fun i50 =>
    .exI fun i51 =>
    .exI fun i52 =>
    .exS fun a53 n53 c53 =>
    .exS fun a54 n54 c54 =>
    .exI fun i55 =>
    .exI fun i56 =>
    .exI fun i57 =>
    .exS fun a58 n58 c58 =>
    .exS fun a59 n59 c59 =>
    .exS fun a60 n60 c60 =>
    .exS fun a61 n61 c61 =>
    .exI fun i62 =>
    .exS fun a63 n63 c63 =>
    .isL v46 [.int .u64 i47, .int .i64 i48, .int .i64 i49, .int .i64 i50, .int .u64 i51, .int .u64 i52, .slice a53 n53 c53, .slice a54 n54 c54, .int .u64 i55, .int .i64 i56, .int .i64 i57, .slice a58 n58 c58, .slice a59 n59 c59, .slice a60 n60 c60, .slice a61 n61 c61, .int .u64 i62, .slice a63 n63 c63] <|
    .some la fun x64 =>
    .need ((0 : Int) ≤ i45 ∧ i45 < (↑ln : Int)) <|
    .load (x64.add (i45.toNat * 1)) 1 fun v65 =>
    .exS fun a66 n66 c66 =>
    .isL v65 [.slice a66 n66 c66] <|
    .both
     (.call 33 ([.agg #[.int .u64 i47, .int .i64 i48, .int .i64 i49, .int .i64 i50, .int .u64 i51, .int .u64 i52, .slice a53 n53 c53, .slice a54 n54 c54, .int .u64 i55, .int .i64 i56, .int .i64 i57, .slice a58 n58 c58, .slice a59 n59 c59, .slice a60 n60 c60, .slice a61 n61 c61, .int .u64 i62, .slice a63 n63 c63], .slice a66 n66 c66]) fun v67 =>
     .exI fun i68 =>
     .exI fun i69 =>
     .exI fun i70 =>
     .exI fun i71 =>
     .exI fun i72 =>
     .exI fun i73 =>
     .exS fun a74 n74 c74 =>
     .exS fun a75 n75 c75 =>
     .exI fun i76 =>
     .exI fun i77 =>
     .exI fun i78 =>
     .exS fun a79 n79 c79 =>
     .exS fun a80 n80 c80 =>
     .exS fun a81 n81 c81 =>
     .exS fun a82 n82 c82 =>
     .exI fun i83 =>
     .exS fun a84 n84 c84 =>
     .exS fun a85 n85 c85 =>
     .exS fun a86 n86 c86 =>
     .exS fun a87 n87 c87 =>
     .exB fun b88 =>
     .isL [v67] [.tuple #[.agg #[.int .u64 i68, .int .i64 i69, .int .i64 i70, .int .i64 i71, .int .u64 i72, .int .u64 i73, .slice a74 n74 c74, .slice a75 n75 c75, .int .u64 i76, .int .i64 i77, .int .i64 i78, .slice a79 n79 c79, .slice a80 n80 c80, .slice a81 n81 c81, .slice a82 n82 c82, .int .u64 i83, .slice a84 n84 c84], .agg #[.slice a85 n85 c85, .slice a86 n86 c86, .slice a87 n87 c87], .bool b88]] <|
     .both
      (.new 36 [.int .u64 0, .int .i64 0, .int .i64 0, .int .i64 0, .int .u64 0, .int .u64 0, .slice none 0 0, .slice none 0 0, .int .u64 0, .int .i64 0, .int .i64 0, .slice none 0 0, .slice none 0 0, .slice none 0 0, .slice none 0 0, .int .u64 0, .slice none 0 0] fun p89 =>
      .new 48 [.slice none 0 0, .slice none 0 0, .slice none 0 0] fun p90 =>
      .store ⟨p89, 0, none⟩ [.int .u64 i68, .int .i64 i69, .int .i64 i70, .int .i64 i71, .int .u64 i72, .int .u64 i73, .slice a74 n74 c74, .slice a75 n75 c75, .int .u64 i76, .int .i64 i77, .int .i64 i78, .slice a79 n79 c79, .slice a80 n80 c80, .slice a81 n81 c81, .slice a82 n82 c82, .int .u64 i83, .slice a84 n84 c84] <|
      .store ⟨p90, 0, none⟩ [.slice a85 n85 c85, .slice a86 n86 c86, .slice a87 n87 c87] <|
      .again 1 [.pointer (some ⟨p89, 0, none⟩), .pointer (some ⟨p90, 0, none⟩), .bool b88])
     (.new 48 [.slice none 0 0, .slice none 0 0, .slice none 0 0] fun p91 =>
     .new 36 [.int .u64 0, .int .i64 0, .int .i64 0, .int .i64 0, .int .u64 0, .int .u64 0, .slice none 0 0, .slice none 0 0, .int .u64 0, .int .i64 0, .int .i64 0, .slice none 0 0, .slice none 0 0, .slice none 0 0, .slice none 0 0, .int .u64 0, .slice none 0 0] fun p92 =>
     .store ⟨p92, 0, none⟩ [.int .u64 i68, .int .i64 i69, .int .i64 i70, .int .i64 i71, .int .u64 i72, .int .u64 i73, .slice a74 n74 c74, .slice a75 n75 c75, .int .u64 i76, .int .i64 i77, .int .i64 i78, .slice a79 n79 c79, .slice a80 n80 c80, .slice a81 n81 c81, .slice a82 n82 c82, .int .u64 i83, .slice a84 n84 c84] <|
     .store ⟨p91, 0, none⟩ [.slice a85 n85 c85, .slice a86 n86 c86, .slice a87 n87 c87] <|
     .again 1 [.pointer (some ⟨p92, 0, none⟩), .pointer (some ⟨p91, 0, none⟩), .bool b88]))
    (.both
     (.new 36 [.int .u64 0, .int .i64 0, .int .i64 0, .int .i64 0, .int .u64 0, .int .u64 0, .slice none 0 0, .slice none 0 0, .int .u64 0, .int .i64 0, .int .i64 0, .slice none 0 0, .slice none 0 0, .slice none 0 0, .slice none 0 0, .int .u64 0, .slice none 0 0] fun p93 =>
     .both
      (.call 33 ([.agg #[.int .u64 i47, .int .i64 i48, .int .i64 i49, .int .i64 i50, .int .u64 i51, .int .u64 i52, .slice a53 n53 c53, .slice a54 n54 c54, .int .u64 i55, .int .i64 i56, .int .i64 i57, .slice a58 n58 c58, .slice a59 n59 c59, .slice a60 n60 c60, .slice a61 n61 c61, .int .u64 i62, .slice a63 n63 c63], .slice a66 n66 c66]) fun v94 =>
      .exI fun i95 =>
      .exI fun i96 =>
      .exI fun i97 =>
      .exI fun i98 =>
      .exI fun i99 =>
      .exI fun i100 =>
      .exS fun a101 n101 c101 =>
      .exS fun a102 n102 c102 =>
      .exI fun i103 =>
      .exI fun i104 =>
      .exI fun i105 =>
      .exS fun a106 n106 c106 =>
      .exS fun a107 n107 c107 =>
      .exS fun a108 n108 c108 =>
      .exS fun a109 n109 c109 =>
      .exI fun i110 =>
      .exS fun a111 n111 c111 =>
      .exS fun a112 n112 c112 =>
      .exS fun a113 n113 c113 =>
      .exS fun a114 n114 c114 =>
      .exB fun b115 =>
      .isL [v94] [.tuple #[.agg #[.int .u64 i95, .int .i64 i96, .int .i64 i97, .int .i64 i98, .int .u64 i99, .int .u64 i100, .slice a101 n101 c101, .slice a102 n102 c102, .int .u64 i103, .int .i64 i104, .int .i64 i105, .slice a106 n106 c106, .slice a107 n107 c107, .slice a108 n108 c108, .slice a109 n109 c109, .int .u64 i110, .slice a111 n111 c111], .agg #[.slice a112 n112 c112, .slice a113 n113 c113, .slice a114 n114 c114], .bool b115]] <|
      .new 48 [.slice none 0 0, .slice none 0 0, .slice none 0 0] fun p116 =>
      .store ⟨p93, 0, none⟩ [.int .u64 i95, .int .i64 i96, .int .i64 i97, .int .i64 i98, .int .u64 i99, .int .u64 i100, .slice a101 n101 c101, .slice a102 n102 c102, .int .u64 i103, .int .i64 i104, .int .i64 i105, .slice a106 n106 c106, .slice a107 n107 c107, .slice a108 n108 c108, .slice a109 n109 c109, .int .u64 i110, .slice a111 n111 c111] <|
      .store ⟨p116, 0, none⟩ [.slice a112 n112 c112, .slice a113 n113 c113, .slice a114 n114 c114] <|
      .again 1 [.pointer (some ⟨p93, 0, none⟩), .pointer (some ⟨p116, 0, none⟩), .bool b115])
     (.new 48 [.slice none 0 0, .slice none 0 0, .slice none 0 0] fun p117 =>
     .call 33 ([.agg #[.int .u64 i47, .int .i64 i48, .int .i64 i49, .int .i64 i50, .int .u64 i51, .int .u64 i52, .slice a53 n53 c53, .slice a54 n54 c54, .int .u64 i55, .int .i64 i56, .int .i64 i57, .slice a58 n58 c58, .slice a59 n59 c59, .slice a60 n60 c60, .slice a61 n61 c61, .int .u64 i62, .slice a63 n63 c63], .slice a66 n66 c66]) fun v118 =>
     .exI fun i119 =>
     .exI fun i120 =>
     .exI fun i121 =>
     .exI fun i122 =>
     .exI fun i123 =>
     .exI fun i124 =>
     .exS fun a125 n125 c125 =>
     .exS fun a126 n126 c126 =>
     .exI fun i127 =>
     .exI fun i128 =>
     .exI fun i129 =>
     .exS fun a130 n130 c130 =>
     .exS fun a131 n131 c131 =>
     .exS fun a132 n132 c132 =>
     .exS fun a133 n133 c133 =>
     .exI fun i134 =>
     .exS fun a135 n135 c135 =>
     .exS fun a136 n136 c136 =>
     .exS fun a137 n137 c137 =>
     .exS fun a138 n138 c138 =>
     .exB fun b139 =>
     .isL [v118] [.tuple #[.agg #[.int .u64 i119, .int .i64 i120, .int .i64 i121, .int .i64 i122, .int .u64 i123, .int .u64 i124, .slice a125 n125 c125, .slice a126 n126 c126, .int .u64 i127, .int .i64 i128, .int .i64 i129, .slice a130 n130 c130, .slice a131 n131 c131, .slice a132 n132 c132, .slice a133 n133 c133, .int .u64 i134, .slice a135 n135 c135], .agg #[.slice a136 n136 c136, .slice a137 n137 c137, .slice a138 n138 c138], .bool b139]] <|
     .store ⟨p93, 0, none⟩ [.int .u64 i119, .int .i64 i120, .int .i64 i121, .int .i64 i122, .int .u64 i123, .int .u64 i124, .slice a125 n125 c125, .slice a126 n126 c126, .int .u64 i127, .int .i64 i128, .int .i64 i129, .slice a130 n130 c130, .slice a131 n131 c131, .slice a132 n132 c132, .slice a133 n133 c133, .int .u64 i134, .slice a135 n135 c135] <|
     .store ⟨p117, 0, none⟩ [.slice a136 n136 c136, .slice a137 n137 c137, .slice a138 n138 c138] <|
     .again 1 [.pointer (some ⟨p93, 0, none⟩), .pointer (some ⟨p117, 0, none⟩), .bool b139]))
    (.new 48 [.slice none 0 0, .slice none 0 0, .slice none 0 0] fun p140 =>
    .both
     (.call 33 ([.agg #[.int .u64 i47, .int .i64 i48, .int .i64 i49, .int .i64 i50, .int .u64 i51, .int .u64 i52, .slice a53 n53 c53, .slice a54 n54 c54, .int .u64 i55, .int .i64 i56, .int .i64 i57, .slice a58 n58 c58, .slice a59 n59 c59, .slice a60 n60 c60, .slice a61 n61 c61, .int .u64 i62, .slice a63 n63 c63], .slice a66 n66 c66]) fun v141 =>
     .exI fun i142 =>
     .exI fun i143 =>
     .exI fun i144 =>
     .exI fun i145 =>
     .exI fun i146 =>
     .exI fun i147 =>
     .exS fun a148 n148 c148 =>
     .exS fun a149 n149 c149 =>
     .exI fun i150 =>
     .exI fun i151 =>
     .exI fun i152 =>
     .exS fun a153 n153 c153 =>
     .exS fun a154 n154 c154 =>
     .exS fun a155 n155 c155 =>
     .exS fun a156 n156 c156 =>
     .exI fun i157 =>
     .exS fun a158 n158 c158 =>
     .exS fun a159 n159 c159 =>
     .exS fun a160 n160 c160 =>
     .exS fun a161 n161 c161 =>
     .exB fun b162 =>
     .isL [v141] [.tuple #[.agg #[.int .u64 i142, .int .i64 i143, .int .i64 i144, .int .i64 i145, .int .u64 i146, .int .u64 i147, .slice a148 n148 c148, .slice a149 n149 c149, .int .u64 i150, .int .i64 i151, .int .i64 i152, .slice a153 n153 c153, .slice a154 n154 c154, .slice a155 n155 c155, .slice a156 n156 c156, .int .u64 i157, .slice a158 n158 c158], .agg #[.slice a159 n159 c159, .slice a160 n160 c160, .slice a161 n161 c161], .bool b162]] <|
     .new 36 [.int .u64 0, .int .i64 0, .int .i64 0, .int .i64 0, .int .u64 0, .int .u64 0, .slice none 0 0, .slice none 0 0, .int .u64 0, .int .i64 0, .int .i64 0, .slice none 0 0, .slice none 0 0, .slice none 0 0, .slice none 0 0, .int .u64 0, .slice none 0 0] fun p163 =>
     .store ⟨p163, 0, none⟩ [.int .u64 i142, .int .i64 i143, .int .i64 i144, .int .i64 i145, .int .u64 i146, .int .u64 i147, .slice a148 n148 c148, .slice a149 n149 c149, .int .u64 i150, .int .i64 i151, .int .i64 i152, .slice a153 n153 c153, .slice a154 n154 c154, .slice a155 n155 c155, .slice a156 n156 c156, .int .u64 i157, .slice a158 n158 c158] <|
     .store ⟨p140, 0, none⟩ [.slice a159 n159 c159, .slice a160 n160 c160, .slice a161 n161 c161] <|
     .again 1 [.pointer (some ⟨p163, 0, none⟩), .pointer (some ⟨p140, 0, none⟩), .bool b162])
    (.new 36 [.int .u64 0, .int .i64 0, .int .i64 0, .int .i64 0, .int .u64 0, .int .u64 0, .slice none 0 0, .slice none 0 0, .int .u64 0, .int .i64 0, .int .i64 0, .slice none 0 0, .slice none 0 0, .slice none 0 0, .slice none 0 0, .int .u64 0, .slice none 0 0] fun p164 =>
    .call 33 ([.agg #[.int .u64 i47, .int .i64 i48, .int .i64 i49, .int .i64 i50, .int .u64 i51, .int .u64 i52, .slice a53 n53 c53, .slice a54 n54 c54, .int .u64 i55, .int .i64 i56, .int .i64 i57, .slice a58 n58 c58, .slice a59 n59 c59, .slice a60 n60 c60, .slice a61 n61 c61, .int .u64 i62, .slice a63 n63 c63], .slice a66 n66 c66]) fun v165 =>
    .exI fun i166 =>
    .exI fun i167 =>
    .exI fun i168 =>
    .exI fun i169 =>
    .exI fun i170 =>
    .exI fun i171 =>
    .exS fun a172 n172 c172 =>
    .exS fun a173 n173 c173 =>
    .exI fun i174 =>
    .exI fun i175 =>
    .exI fun i176 =>
    .exS fun a177 n177 c177 =>
    .exS fun a178 n178 c178 =>
    .exS fun a179 n179 c179 =>
    .exS fun a180 n180 c180 =>
    .exI fun i181 =>
    .exS fun a182 n182 c182 =>
    .exS fun a183 n183 c183 =>
    .exS fun a184 n184 c184 =>
    .exS fun a185 n185 c185 =>
    .exB fun b186 =>
    .isL [v165] [.tuple #[.agg #[.int .u64 i166, .int .i64 i167, .int .i64 i168, .int .i64 i169, .int .u64 i170, .int .u64 i171, .slice a172 n172 c172, .slice a173 n173 c173, .int .u64 i174, .int .i64 i175, .int .i64 i176, .slice a177 n177 c177, .slice a178 n178 c178, .slice a179 n179 c179, .slice a180 n180 c180, .int .u64 i181, .slice a182 n182 c182], .agg #[.slice a183 n183 c183, .slice a184 n184 c184, .slice a185 n185 c185], .bool b186]] <|
    .store ⟨p164, 0, none⟩ [.int .u64 i166, .int .i64 i167, .int .i64 i168, .int .i64 i169, .int .u64 i170, .int .u64 i171, .slice a172 n172 c172, .slice a173 n173 c173, .int .u64 i174, .int .i64 i175, .int .i64 i176, .slice a177 n177 c177, .slice a178 n178 c178, .slice a179 n179 c179, .slice a180 n180 c180, .int .u64 i181, .slice a182 n182 c182] <|
    .store ⟨p140, 0, none⟩ [.slice a183 n183 c183, .slice a184 n184 c184, .slice a185 n185 c185] <|
    .again 1 [.pointer (some ⟨p164, 0, none⟩), .pointer (some ⟨p140, 0, none⟩), .bool b186])))) (fun v1046 =>
   .exN fun p188 =>
   .exN fun p189 =>
   .exB fun b190 =>
   .isL v1046 [.pointer (some ⟨p188, 0, none⟩), .pointer (some ⟨p189, 0, none⟩), .bool b190] <|
   .draw <|
   bif !b190 then
    (.ret (.bool false))
   else
   (.load ⟨p188, 8, none⟩ 1 fun v191 =>
   .exI fun i192 =>
   .isL v191 [.int .u64 i192] <|
   bif (i192 != IntKind.u64.wrap (IntKind.u64.wrap i45 + 2)) then
    (.ret (.bool false))
   else
   (.load ⟨p189, 0, none⟩ 1 fun v193 =>
   .exS fun a194 n194 c194 =>
   .isL v193 [.slice a194 n194 c194] <|
   bif ((↑n194 : Int) != 1) then
    (.ret (.bool false))
   else
   (.load ⟨p189, 0, none⟩ 1 fun v195 =>
   .exS fun a196 n196 c196 =>
   .isL v195 [.slice a196 n196 c196] <|
   .some a196 fun x197 =>
   .need ((0 : Int) ≤ 0 ∧ 0 < (↑n196 : Int)) <|
   .load ((x197.add 3).add 1) 1 fun v198 =>
   .exS fun a199 n199 c199 =>
   .isL v198 [.slice a199 n199 c199] <|
   .bytes a199 n199 fun s200 =>
   .some la fun x201 =>
   .need ((0 : Int) ≤ i45 ∧ i45 < (↑ln : Int)) <|
   .load (x201.add (i45.toNat * 1)) 1 fun v202 =>
   .exS fun a203 n203 c203 =>
   .isL v202 [.slice a203 n203 c203] <|
   .bytes a203 n203 fun s204 =>
   bif (!s200.toList == s204.toList) then
    (.ret (.bool false))
   else
   (.load ⟨p189, 1, none⟩ 1 fun v205 =>
   .exS fun a206 n206 c206 =>
   .isL v205 [.slice a206 n206 c206] <|
   bif ((↑n206 : Int) != 0) then
    (.ret (.bool false))
   else
   (.load ⟨p188, 0, none⟩ 17 fun v207 =>
   .exI fun i208 =>
   .exI fun i209 =>
   .exI fun i210 =>
   .exI fun i211 =>
   .exI fun i212 =>
   .exI fun i213 =>
   .exS fun a214 n214 c214 =>
   .exS fun a215 n215 c215 =>
   .exI fun i216 =>
   .exI fun i217 =>
   .exI fun i218 =>
   .exS fun a219 n219 c219 =>
   .exS fun a220 n220 c220 =>
   .exS fun a221 n221 c221 =>
   .exS fun a222 n222 c222 =>
   .exI fun i223 =>
   .exS fun a224 n224 c224 =>
   .isL v207 [.int .u64 i208, .int .i64 i209, .int .i64 i210, .int .i64 i211, .int .u64 i212, .int .u64 i213, .slice a214 n214 c214, .slice a215 n215 c215, .int .u64 i216, .int .i64 i217, .int .i64 i218, .slice a219 n219 c219, .slice a220 n220 c220, .slice a221 n221 c221, .slice a222 n222 c222, .int .u64 i223, .slice a224 n224 c224] <|
   .call 34 ([.agg #[.int .u64 i208, .int .i64 i209, .int .i64 i210, .int .i64 i211, .int .u64 i212, .int .u64 i213, .slice a214 n214 c214, .slice a215 n215 c215, .int .u64 i216, .int .i64 i217, .int .i64 i218, .slice a219 n219 c219, .slice a220 n220 c220, .slice a221 n221 c221, .slice a222 n222 c222, .int .u64 i223, .slice a224 n224 c224], .int .u64 id]) fun v225 =>
   .exI fun i226 =>
   .exI fun i227 =>
   .exI fun i228 =>
   .exI fun i229 =>
   .exI fun i230 =>
   .exI fun i231 =>
   .exS fun a232 n232 c232 =>
   .exS fun a233 n233 c233 =>
   .exI fun i234 =>
   .exI fun i235 =>
   .exI fun i236 =>
   .exS fun a237 n237 c237 =>
   .exS fun a238 n238 c238 =>
   .exS fun a239 n239 c239 =>
   .exS fun a240 n240 c240 =>
   .exI fun i241 =>
   .exS fun a242 n242 c242 =>
   .exS fun a243 n243 c243 =>
   .exS fun a244 n244 c244 =>
   .exS fun a245 n245 c245 =>
   .exB fun b246 =>
   .isL [v225] [.tuple #[.agg #[.int .u64 i226, .int .i64 i227, .int .i64 i228, .int .i64 i229, .int .u64 i230, .int .u64 i231, .slice a232 n232 c232, .slice a233 n233 c233, .int .u64 i234, .int .i64 i235, .int .i64 i236, .slice a237 n237 c237, .slice a238 n238 c238, .slice a239 n239 c239, .slice a240 n240 c240, .int .u64 i241, .slice a242 n242 c242], .agg #[.slice a243 n243 c243, .slice a244 n244 c244, .slice a245 n245 c245], .bool b246]] <|
   .new 36 [.int .u64 0, .int .i64 0, .int .i64 0, .int .i64 0, .int .u64 0, .int .u64 0, .slice none 0 0, .slice none 0 0, .int .u64 0, .int .i64 0, .int .i64 0, .slice none 0 0, .slice none 0 0, .slice none 0 0, .slice none 0 0, .int .u64 0, .slice none 0 0] fun p247 =>
   .new 48 [.slice none 0 0, .slice none 0 0, .slice none 0 0] fun p248 =>
   .store ⟨p247, 0, none⟩ [.int .u64 i226, .int .i64 i227, .int .i64 i228, .int .i64 i229, .int .u64 i230, .int .u64 i231, .slice a232 n232 c232, .slice a233 n233 c233, .int .u64 i234, .int .i64 i235, .int .i64 i236, .slice a237 n237 c237, .slice a238 n238 c238, .slice a239 n239 c239, .slice a240 n240 c240, .int .u64 i241, .slice a242 n242 c242] <|
   .store ⟨p248, 0, none⟩ [.slice a243 n243 c243, .slice a244 n244 c244, .slice a245 n245 c245] <|
   .draw <|
   bif !b246 then
    (.ret (.bool false))
   else
   (.load ⟨p248, 2, none⟩ 1 fun v249 =>
   .exS fun a250 n250 c250 =>
   .isL v249 [.slice a250 n250 c250] <|
   bif ((↑n250 : Int) != 1) then
    (.ret (.bool false))
   else
   (.load ⟨p248, 2, none⟩ 1 fun v251 =>
   .exS fun a252 n252 c252 =>
   .isL v251 [.slice a252 n252 c252] <|
   .some a252 fun x253 =>
   .need ((0 : Int) ≤ 0 ∧ 0 < (↑n252 : Int)) <|
   .load x253 1 fun v254 =>
   .exI fun i255 =>
   .isL v254 [.int .u64 i255] <|
   bif (i255 != id) then
    (.ret (.bool false))
   else
   (.load ⟨p248, 2, none⟩ 1 fun v256 =>
   .exS fun a257 n257 c257 =>
   .isL v256 [.slice a257 n257 c257] <|
   .some a257 fun x258 =>
   .need ((0 : Int) ≤ 0 ∧ 0 < (↑n257 : Int)) <|
   .load (x258.add 1) 1 fun v259 =>
   .exI fun i260 =>
   .isL v259 [.int .u64 i260] <|
   .load ⟨p188, 8, none⟩ 1 fun v261 =>
   .exI fun i262 =>
   .isL v261 [.int .u64 i262] <|
   bif (i260 != i262) then
    (.ret (.bool false))
   else
   (.load ⟨p247, 16, none⟩ 1 fun v263 =>
   .exS fun a264 n264 c264 =>
   .isL v263 [.slice a264 n264 c264] <|
   bif ((↑n264 : Int) != 0) then
    (.ret (.bool false))
   else
   (.load ⟨p247, 0, none⟩ 17 fun v265 =>
   .exI fun i266 =>
   .exI fun i267 =>
   .exI fun i268 =>
   .exI fun i269 =>
   .exI fun i270 =>
   .exI fun i271 =>
   .exS fun a272 n272 c272 =>
   .exS fun a273 n273 c273 =>
   .exI fun i274 =>
   .exI fun i275 =>
   .exI fun i276 =>
   .exS fun a277 n277 c277 =>
   .exS fun a278 n278 c278 =>
   .exS fun a279 n279 c279 =>
   .exS fun a280 n280 c280 =>
   .exI fun i281 =>
   .exS fun a282 n282 c282 =>
   .isL v265 [.int .u64 i266, .int .i64 i267, .int .i64 i268, .int .i64 i269, .int .u64 i270, .int .u64 i271, .slice a272 n272 c272, .slice a273 n273 c273, .int .u64 i274, .int .i64 i275, .int .i64 i276, .slice a277 n277 c277, .slice a278 n278 c278, .slice a279 n279 c279, .slice a280 n280 c280, .int .u64 i281, .slice a282 n282 c282] <|
   .store ⟨p42, 0, none⟩ [.int .u64 i266, .int .i64 i267, .int .i64 i268, .int .i64 i269, .int .u64 i270, .int .u64 i271, .slice a272 n272 c272, .slice a273 n273 c273, .int .u64 i274, .int .i64 i275, .int .i64 i276, .slice a277 n277 c277, .slice a278 n278 c278, .slice a279 n279 c279, .slice a280 n280 c280, .int .u64 i281, .slice a282 n282 c282] <|
   .again 0 [.int .i64 (IntKind.i64.wrap (i45 + 1))]))))))))))))
  else
  (.load ⟨p42, 0, none⟩ 17 fun v283 =>
  .exI fun i284 =>
  .exI fun i285 =>
  .exI fun i286 =>
  .exI fun i287 =>
  .exI fun i288 =>
  .exI fun i289 =>
  .exS fun a290 n290 c290 =>
  .exS fun a291 n291 c291 =>
  .exI fun i292 =>
  .exI fun i293 =>
  .exI fun i294 =>
  .exS fun a295 n295 c295 =>
  .exS fun a296 n296 c296 =>
  .exS fun a297 n297 c297 =>
  .exS fun a298 n298 c298 =>
  .exI fun i299 =>
  .exS fun a300 n300 c300 =>
  .isL v283 [.int .u64 i284, .int .i64 i285, .int .i64 i286, .int .i64 i287, .int .u64 i288, .int .u64 i289, .slice a290 n290 c290, .slice a291 n291 c291, .int .u64 i292, .int .i64 i293, .int .i64 i294, .slice a295 n295 c295, .slice a296 n296 c296, .slice a297 n297 c297, .slice a298 n298 c298, .int .u64 i299, .slice a300 n300 c300] <|
  .new 5 [.int .u8 115] fun p301 =>
  .mark ⟨p301, 0, none⟩ <|
  .call 31 ([.agg #[.int .u64 i284, .int .i64 i285, .int .i64 i286, .int .i64 i287, .int .u64 i288, .int .u64 i289, .slice a290 n290 c290, .slice a291 n291 c291, .int .u64 i292, .int .i64 i293, .int .i64 i294, .slice a295 n295 c295, .slice a296 n296 c296, .slice a297 n297 c297, .slice a298 n298 c298, .int .u64 i299, .slice a300 n300 c300], .slice (some ⟨p301, 0, none⟩) 1 1]) fun v302 =>
  .exI fun i303 =>
  .exI fun i304 =>
  .exI fun i305 =>
  .exI fun i306 =>
  .exI fun i307 =>
  .exI fun i308 =>
  .exS fun a309 n309 c309 =>
  .exS fun a310 n310 c310 =>
  .exI fun i311 =>
  .exI fun i312 =>
  .exI fun i313 =>
  .exS fun a314 n314 c314 =>
  .exS fun a315 n315 c315 =>
  .exS fun a316 n316 c316 =>
  .exS fun a317 n317 c317 =>
  .exI fun i318 =>
  .exS fun a319 n319 c319 =>
  .exS fun a320 n320 c320 =>
  .exS fun a321 n321 c321 =>
  .exS fun a322 n322 c322 =>
  .isL [v302] [.tuple #[.agg #[.int .u64 i303, .int .i64 i304, .int .i64 i305, .int .i64 i306, .int .u64 i307, .int .u64 i308, .slice a309 n309 c309, .slice a310 n310 c310, .int .u64 i311, .int .i64 i312, .int .i64 i313, .slice a314 n314 c314, .slice a315 n315 c315, .slice a316 n316 c316, .slice a317 n317 c317, .int .u64 i318, .slice a319 n319 c319], .agg #[.slice a320 n320 c320, .slice a321 n321 c321, .slice a322 n322 c322]]] <|
  .new 36 [.int .u64 0, .int .i64 0, .int .i64 0, .int .i64 0, .int .u64 0, .int .u64 0, .slice none 0 0, .slice none 0 0, .int .u64 0, .int .i64 0, .int .i64 0, .slice none 0 0, .slice none 0 0, .slice none 0 0, .slice none 0 0, .int .u64 0, .slice none 0 0] fun p323 =>
  .new 48 [.slice none 0 0, .slice none 0 0, .slice none 0 0] fun p324 =>
  .store ⟨p323, 0, none⟩ [.int .u64 i303, .int .i64 i304, .int .i64 i305, .int .i64 i306, .int .u64 i307, .int .u64 i308, .slice a309 n309 c309, .slice a310 n310 c310, .int .u64 i311, .int .i64 i312, .int .i64 i313, .slice a314 n314 c314, .slice a315 n315 c315, .slice a316 n316 c316, .slice a317 n317 c317, .int .u64 i318, .slice a319 n319 c319] <|
  .store ⟨p324, 0, none⟩ [.slice a320 n320 c320, .slice a321 n321 c321, .slice a322 n322 c322] <|
  .load ⟨p323, 4, none⟩ 1 fun v325 =>
  .exI fun i326 =>
  .isL v325 [.int .u64 i326] <|
  .load ⟨p42, 8, none⟩ 1 fun v327 =>
  .exI fun i328 =>
  .isL v327 [.int .u64 i328] <|
  bif (i326 == i328) then
   (.load ⟨p323, 7, none⟩ 1 fun v329 =>
   .exS fun a330 n330 c330 =>
   .isL v329 [.slice a330 n330 c330] <|
   bif ((↑n330 : Int) == 0) then
    (.load ⟨p324, 0, none⟩ 1 fun v331 =>
    .exS fun a332 n332 c332 =>
    .isL v331 [.slice a332 n332 c332] <|
    bif ((↑n332 : Int) == 1) then
     (.load ⟨p323, 0, none⟩ 1 fun v333 =>
     .exI fun i334 =>
     .isL v333 [.int .u64 i334] <|
     bif (i334 == 1) then
      (.load ⟨p323, 9, none⟩ 1 fun v335 =>
      .exI fun i336 =>
      .isL v335 [.int .i64 i336] <|
      .ret (.bool (i336 == 2)))
     else
     (.ret (.bool false)))
    else
    (.ret (.bool false)))
   else
   (.ret (.bool false)))
  else
  (.ret (.bool false))))))
theorem e5 (la : Option Addr) (ln : Nat) (lc : Nat) (id : Int) : genFn Try.prog lv5 ct5 Try.f5 [.slice la ln lc, .int .u64 id] = t5 la ln lc id := by kernel_rfl
theorem r5 (la : Option Addr) (ln : Nat) (lc : Nat) (id : Int) {R : Value → World → Prop} {w : World} (h : (t5 la ln lc id).wp Try.prog R (fun _ _ _ => False) w) : Runs Try.prog 5 [.slice la ln lc, .int .u64 id] w R :=
 genFn_runs mixed lv5 ct5 Try.func5 (by kernel_rfl) (by rw [e5]; exact h)
def lv6 : Marks := (fun | some 13 => some [(19, .int .i64 0)] | some 16 => some [(20, .int .i64 0)] | some 22 => some [(21, .int .i64 0)] | some 26 => some [(22, .int .i64 0)] | _ => none)
def t6 (r0 : Int) (r1 : Int) (r2 : Int) (r3 : Int) (r4 : Int) (r5 : Int) (r6a : Option Addr) (r6n : Nat) (r6c : Nat) (r7a : Option Addr) (r7n : Nat) (r7c : Nat) (r8 : Int) (r9 : Int) (r10 : Int) (r11a : Option Addr) (r11n : Nat) (r11c : Nat) (r12a : Option Addr) (r12n : Nat) (r12c : Nat) (r13a : Option Addr) (r13n : Nat) (r13c : Nat) (r14a : Option Addr) (r14n : Nat) (r14c : Nat) (r15 : Int) (r16a : Option Addr) (r16n : Nat) (r16c : Nat) (m0 : Int) (m1 : Int) (m2 : Int) (m3 : Int) (m4 : Int) (m5 : Int) (m6a : Option Addr) (m6n : Nat) (m6c : Nat) (m7 : Int) (m8 : Int) (m9 : Bool) (m10 : Int) (m11 : Int) (m12a : Option Addr) (m12n : Nat) (m12c : Nat) (m13 : Int) (m14 : Int) (m15 : Int) (m16 : ByteArray) (m17 : ByteArray) (m18 : Int) (m19 : Int) (m20 : ByteArray) (dataa : Option Addr) (datan : Nat) (datac : Nat) : VC :=
 .new 36 [.int .u64 r0, .int .i64 r1, .int .i64 r2, .int .i64 r3, .int .u64 r4, .int .u64 r5, .slice r6a r6n r6c, .slice r7a r7n r7c, .int .u64 r8, .int .i64 r9, .int .i64 r10, .slice r11a r11n r11c, .slice r12a r12n r12c, .slice r13a r13n r13c, .slice r14a r14n r14c, .int .u64 r15, .slice r16a r16n r16c] fun p1 =>
 .new 70 [.int .i64 m0, .int .i64 m1, .int .i64 m2, .int .u64 m3, .int .u64 m4, .int .u64 m5, .slice m6a m6n m6c, .int .u64 m7, .int .u64 m8, .bool m9, .int .u64 m10, .int .u64 m11, .slice m12a m12n m12c, .int .i64 m13, .int .i64 m14, .int .u64 m15, .string m16, .string m17, .int .u64 m18, .int .i64 m19, .string m20] fun p2 =>
 .call 22 ([]) fun v3 =>
 .exB fun b4 =>
 .isL [v3] [.bool b4] <|
 bif !b4 then
  (.ret (.bool false))
 else
 (.load ⟨p1, 0, none⟩ 17 fun v5 =>
 .exI fun i6 =>
 .exI fun i7 =>
 .exI fun i8 =>
 .exI fun i9 =>
 .exI fun i10 =>
 .exI fun i11 =>
 .exS fun a12 n12 c12 =>
 .exS fun a13 n13 c13 =>
 .exI fun i14 =>
 .exI fun i15 =>
 .exI fun i16 =>
 .exS fun a17 n17 c17 =>
 .exS fun a18 n18 c18 =>
 .exS fun a19 n19 c19 =>
 .exS fun a20 n20 c20 =>
 .exI fun i21 =>
 .exS fun a22 n22 c22 =>
 .isL v5 [.int .u64 i6, .int .i64 i7, .int .i64 i8, .int .i64 i9, .int .u64 i10, .int .u64 i11, .slice a12 n12 c12, .slice a13 n13 c13, .int .u64 i14, .int .i64 i15, .int .i64 i16, .slice a17 n17 c17, .slice a18 n18 c18, .slice a19 n19 c19, .slice a20 n20 c20, .int .u64 i21, .slice a22 n22 c22] <|
 .call 30 ([.agg #[.int .u64 i6, .int .i64 i7, .int .i64 i8, .int .i64 i9, .int .u64 i10, .int .u64 i11, .slice a12 n12 c12, .slice a13 n13 c13, .int .u64 i14, .int .i64 i15, .int .i64 i16, .slice a17 n17 c17, .slice a18 n18 c18, .slice a19 n19 c19, .slice a20 n20 c20, .int .u64 i21, .slice a22 n22 c22]]) fun v23 =>
 .exB fun b24 =>
 .isL [v23] [.bool b24] <|
 bif !b24 then
  (.ret (.bool true))
 else
 (.load ⟨p2, 0, none⟩ 21 fun v25 =>
 .exI fun i26 =>
 .exI fun i27 =>
 .exI fun i28 =>
 .exI fun i29 =>
 .exI fun i30 =>
 .exI fun i31 =>
 .exS fun a32 n32 c32 =>
 .exI fun i33 =>
 .exI fun i34 =>
 .exB fun b35 =>
 .exI fun i36 =>
 .exI fun i37 =>
 .exS fun a38 n38 c38 =>
 .exI fun i39 =>
 .exI fun i40 =>
 .exI fun i41 =>
 .exT fun s42 =>
 .exT fun s43 =>
 .exI fun i44 =>
 .exI fun i45 =>
 .exT fun s46 =>
 .isL v25 [.int .i64 i26, .int .i64 i27, .int .i64 i28, .int .u64 i29, .int .u64 i30, .int .u64 i31, .slice a32 n32 c32, .int .u64 i33, .int .u64 i34, .bool b35, .int .u64 i36, .int .u64 i37, .slice a38 n38 c38, .int .i64 i39, .int .i64 i40, .int .u64 i41, .string s42, .string s43, .int .u64 i44, .int .i64 i45, .string s46] <|
 .call 35 ([.agg #[.int .i64 i26, .int .i64 i27, .int .i64 i28, .int .u64 i29, .int .u64 i30, .int .u64 i31, .slice a32 n32 c32, .int .u64 i33, .int .u64 i34, .bool b35, .int .u64 i36, .int .u64 i37, .slice a38 n38 c38, .int .i64 i39, .int .i64 i40, .int .u64 i41, .string s42, .string s43, .int .u64 i44, .int .i64 i45, .string s46]]) fun v47 =>
 .exB fun b48 =>
 .isL [v47] [.bool b48] <|
 bif !b48 then
  (.ret (.bool true))
 else
 (bif (decide ((↑datan : Int) > 60)) then
  (.ret (.bool true))
 else
 (.load ⟨p1, 0, none⟩ 17 fun v49 =>
 .exI fun i50 =>
 .exI fun i51 =>
 .exI fun i52 =>
 .exI fun i53 =>
 .exI fun i54 =>
 .exI fun i55 =>
 .exS fun a56 n56 c56 =>
 .exS fun a57 n57 c57 =>
 .exI fun i58 =>
 .exI fun i59 =>
 .exI fun i60 =>
 .exS fun a61 n61 c61 =>
 .exS fun a62 n62 c62 =>
 .exS fun a63 n63 c63 =>
 .exS fun a64 n64 c64 =>
 .exI fun i65 =>
 .exS fun a66 n66 c66 =>
 .isL v49 [.int .u64 i50, .int .i64 i51, .int .i64 i52, .int .i64 i53, .int .u64 i54, .int .u64 i55, .slice a56 n56 c56, .slice a57 n57 c57, .int .u64 i58, .int .i64 i59, .int .i64 i60, .slice a61 n61 c61, .slice a62 n62 c62, .slice a63 n63 c63, .slice a64 n64 c64, .int .u64 i65, .slice a66 n66 c66] <|
 .call 37 ([.agg #[.int .u64 i50, .int .i64 i51, .int .i64 i52, .int .i64 i53, .int .u64 i54, .int .u64 i55, .slice a56 n56 c56, .slice a57 n57 c57, .int .u64 i58, .int .i64 i59, .int .i64 i60, .slice a61 n61 c61, .slice a62 n62 c62, .slice a63 n63 c63, .slice a64 n64 c64, .int .u64 i65, .slice a66 n66 c66]]) fun v67 =>
 .exI fun i68 =>
 .exI fun i69 =>
 .exI fun i70 =>
 .exI fun i71 =>
 .exI fun i72 =>
 .exI fun i73 =>
 .exS fun a74 n74 c74 =>
 .exS fun a75 n75 c75 =>
 .exI fun i76 =>
 .exI fun i77 =>
 .exI fun i78 =>
 .exS fun a79 n79 c79 =>
 .exS fun a80 n80 c80 =>
 .exS fun a81 n81 c81 =>
 .exS fun a82 n82 c82 =>
 .exI fun i83 =>
 .exS fun a84 n84 c84 =>
 .isL [v67] [.agg #[.int .u64 i68, .int .i64 i69, .int .i64 i70, .int .i64 i71, .int .u64 i72, .int .u64 i73, .slice a74 n74 c74, .slice a75 n75 c75, .int .u64 i76, .int .i64 i77, .int .i64 i78, .slice a79 n79 c79, .slice a80 n80 c80, .slice a81 n81 c81, .slice a82 n82 c82, .int .u64 i83, .slice a84 n84 c84]] <|
 .call 36 ([.agg #[.int .u64 i68, .int .i64 i69, .int .i64 i70, .int .i64 i71, .int .u64 i72, .int .u64 i73, .slice a74 n74 c74, .slice a75 n75 c75, .int .u64 i76, .int .i64 i77, .int .i64 i78, .slice a79 n79 c79, .slice a80 n80 c80, .slice a81 n81 c81, .slice a82 n82 c82, .int .u64 i83, .slice a84 n84 c84]]) fun v85 =>
 .exI fun i86 =>
 .exI fun i87 =>
 .exI fun i88 =>
 .exI fun i89 =>
 .exI fun i90 =>
 .exI fun i91 =>
 .exS fun a92 n92 c92 =>
 .exS fun a93 n93 c93 =>
 .exI fun i94 =>
 .exI fun i95 =>
 .exI fun i96 =>
 .exS fun a97 n97 c97 =>
 .exS fun a98 n98 c98 =>
 .exS fun a99 n99 c99 =>
 .exS fun a100 n100 c100 =>
 .exI fun i101 =>
 .exS fun a102 n102 c102 =>
 .exS fun a103 n103 c103 =>
 .exS fun a104 n104 c104 =>
 .exS fun a105 n105 c105 =>
 .isL [v85] [.tuple #[.agg #[.int .u64 i86, .int .i64 i87, .int .i64 i88, .int .i64 i89, .int .u64 i90, .int .u64 i91, .slice a92 n92 c92, .slice a93 n93 c93, .int .u64 i94, .int .i64 i95, .int .i64 i96, .slice a97 n97 c97, .slice a98 n98 c98, .slice a99 n99 c99, .slice a100 n100 c100, .int .u64 i101, .slice a102 n102 c102], .agg #[.slice a103 n103 c103, .slice a104 n104 c104, .slice a105 n105 c105]]] <|
 .new 36 [.int .u64 0, .int .i64 0, .int .i64 0, .int .i64 0, .int .u64 0, .int .u64 0, .slice none 0 0, .slice none 0 0, .int .u64 0, .int .i64 0, .int .i64 0, .slice none 0 0, .slice none 0 0, .slice none 0 0, .slice none 0 0, .int .u64 0, .slice none 0 0] fun p106 =>
 .new 48 [.slice none 0 0, .slice none 0 0, .slice none 0 0] fun p107 =>
 .store ⟨p106, 0, none⟩ [.int .u64 i86, .int .i64 i87, .int .i64 i88, .int .i64 i89, .int .u64 i90, .int .u64 i91, .slice a92 n92 c92, .slice a93 n93 c93, .int .u64 i94, .int .i64 i95, .int .i64 i96, .slice a97 n97 c97, .slice a98 n98 c98, .slice a99 n99 c99, .slice a100 n100 c100, .int .u64 i101, .slice a102 n102 c102] <|
 .store ⟨p107, 0, none⟩ [.slice a103 n103 c103, .slice a104 n104 c104, .slice a105 n105 c105] <|
 .load ⟨p1, 9, none⟩ 1 fun v108 =>
 .exI fun i109 =>
 .isL v108 [.int .i64 i109] <|
 .store ⟨p106, 9, none⟩ [.int .i64 i109] <|
 .load ⟨p1, 0, none⟩ 17 fun v110 =>
 .exI fun i111 =>
 .exI fun i112 =>
 .exI fun i113 =>
 .exI fun i114 =>
 .exI fun i115 =>
 .exI fun i116 =>
 .exS fun a117 n117 c117 =>
 .exS fun a118 n118 c118 =>
 .exI fun i119 =>
 .exI fun i120 =>
 .exI fun i121 =>
 .exS fun a122 n122 c122 =>
 .exS fun a123 n123 c123 =>
 .exS fun a124 n124 c124 =>
 .exS fun a125 n125 c125 =>
 .exI fun i126 =>
 .exS fun a127 n127 c127 =>
 .isL v110 [.int .u64 i111, .int .i64 i112, .int .i64 i113, .int .i64 i114, .int .u64 i115, .int .u64 i116, .slice a117 n117 c117, .slice a118 n118 c118, .int .u64 i119, .int .i64 i120, .int .i64 i121, .slice a122 n122 c122, .slice a123 n123 c123, .slice a124 n124 c124, .slice a125 n125 c125, .int .u64 i126, .slice a127 n127 c127] <|
 .load ⟨p2, 0, none⟩ 21 fun v128 =>
 .exI fun i129 =>
 .exI fun i130 =>
 .exI fun i131 =>
 .exI fun i132 =>
 .exI fun i133 =>
 .exI fun i134 =>
 .exS fun a135 n135 c135 =>
 .exI fun i136 =>
 .exI fun i137 =>
 .exB fun b138 =>
 .exI fun i139 =>
 .exI fun i140 =>
 .exS fun a141 n141 c141 =>
 .exI fun i142 =>
 .exI fun i143 =>
 .exI fun i144 =>
 .exT fun s145 =>
 .exT fun s146 =>
 .exI fun i147 =>
 .exI fun i148 =>
 .exT fun s149 =>
 .isL v128 [.int .i64 i129, .int .i64 i130, .int .i64 i131, .int .u64 i132, .int .u64 i133, .int .u64 i134, .slice a135 n135 c135, .int .u64 i136, .int .u64 i137, .bool b138, .int .u64 i139, .int .u64 i140, .slice a141 n141 c141, .int .i64 i142, .int .i64 i143, .int .u64 i144, .string s145, .string s146, .int .u64 i147, .int .i64 i148, .string s149] <|
 .call 38 ([.agg #[.int .u64 i111, .int .i64 i112, .int .i64 i113, .int .i64 i114, .int .u64 i115, .int .u64 i116, .slice a117 n117 c117, .slice a118 n118 c118, .int .u64 i119, .int .i64 i120, .int .i64 i121, .slice a122 n122 c122, .slice a123 n123 c123, .slice a124 n124 c124, .slice a125 n125 c125, .int .u64 i126, .slice a127 n127 c127], .agg #[.int .i64 i129, .int .i64 i130, .int .i64 i131, .int .u64 i132, .int .u64 i133, .int .u64 i134, .slice a135 n135 c135, .int .u64 i136, .int .u64 i137, .bool b138, .int .u64 i139, .int .u64 i140, .slice a141 n141 c141, .int .i64 i142, .int .i64 i143, .int .u64 i144, .string s145, .string s146, .int .u64 i147, .int .i64 i148, .string s149]]) fun v150 =>
 .exI fun i151 =>
 .exI fun i152 =>
 .exI fun i153 =>
 .exI fun i154 =>
 .exI fun i155 =>
 .exI fun i156 =>
 .exS fun a157 n157 c157 =>
 .exS fun a158 n158 c158 =>
 .exI fun i159 =>
 .exI fun i160 =>
 .exI fun i161 =>
 .exS fun a162 n162 c162 =>
 .exS fun a163 n163 c163 =>
 .exS fun a164 n164 c164 =>
 .exS fun a165 n165 c165 =>
 .exI fun i166 =>
 .exS fun a167 n167 c167 =>
 .exS fun a168 n168 c168 =>
 .exS fun a169 n169 c169 =>
 .exS fun a170 n170 c170 =>
 .isL [v150] [.tuple #[.agg #[.int .u64 i151, .int .i64 i152, .int .i64 i153, .int .i64 i154, .int .u64 i155, .int .u64 i156, .slice a157 n157 c157, .slice a158 n158 c158, .int .u64 i159, .int .i64 i160, .int .i64 i161, .slice a162 n162 c162, .slice a163 n163 c163, .slice a164 n164 c164, .slice a165 n165 c165, .int .u64 i166, .slice a167 n167 c167], .agg #[.slice a168 n168 c168, .slice a169 n169 c169, .slice a170 n170 c170]]] <|
 .new 36 [.int .u64 0, .int .i64 0, .int .i64 0, .int .i64 0, .int .u64 0, .int .u64 0, .slice none 0 0, .slice none 0 0, .int .u64 0, .int .i64 0, .int .i64 0, .slice none 0 0, .slice none 0 0, .slice none 0 0, .slice none 0 0, .int .u64 0, .slice none 0 0] fun p171 =>
 .new 48 [.slice none 0 0, .slice none 0 0, .slice none 0 0] fun p172 =>
 .store ⟨p171, 0, none⟩ [.int .u64 i151, .int .i64 i152, .int .i64 i153, .int .i64 i154, .int .u64 i155, .int .u64 i156, .slice a157 n157 c157, .slice a158 n158 c158, .int .u64 i159, .int .i64 i160, .int .i64 i161, .slice a162 n162 c162, .slice a163 n163 c163, .slice a164 n164 c164, .slice a165 n165 c165, .int .u64 i166, .slice a167 n167 c167] <|
 .store ⟨p172, 0, none⟩ [.slice a168 n168 c168, .slice a169 n169 c169, .slice a170 n170 c170] <|
 .load ⟨p1, 0, none⟩ 17 fun v173 =>
 .exI fun i174 =>
 .exI fun i175 =>
 .exI fun i176 =>
 .exI fun i177 =>
 .exI fun i178 =>
 .exI fun i179 =>
 .exS fun a180 n180 c180 =>
 .exS fun a181 n181 c181 =>
 .exI fun i182 =>
 .exI fun i183 =>
 .exI fun i184 =>
 .exS fun a185 n185 c185 =>
 .exS fun a186 n186 c186 =>
 .exS fun a187 n187 c187 =>
 .exS fun a188 n188 c188 =>
 .exI fun i189 =>
 .exS fun a190 n190 c190 =>
 .isL v173 [.int .u64 i174, .int .i64 i175, .int .i64 i176, .int .i64 i177, .int .u64 i178, .int .u64 i179, .slice a180 n180 c180, .slice a181 n181 c181, .int .u64 i182, .int .i64 i183, .int .i64 i184, .slice a185 n185 c185, .slice a186 n186 c186, .slice a187 n187 c187, .slice a188 n188 c188, .int .u64 i189, .slice a190 n190 c190] <|
 .call 33 ([.agg #[.int .u64 i174, .int .i64 i175, .int .i64 i176, .int .i64 i177, .int .u64 i178, .int .u64 i179, .slice a180 n180 c180, .slice a181 n181 c181, .int .u64 i182, .int .i64 i183, .int .i64 i184, .slice a185 n185 c185, .slice a186 n186 c186, .slice a187 n187 c187, .slice a188 n188 c188, .int .u64 i189, .slice a190 n190 c190], .slice dataa datan datac]) fun v191 =>
 .exI fun i192 =>
 .exI fun i193 =>
 .exI fun i194 =>
 .exI fun i195 =>
 .exI fun i196 =>
 .exI fun i197 =>
 .exS fun a198 n198 c198 =>
 .exS fun a199 n199 c199 =>
 .exI fun i200 =>
 .exI fun i201 =>
 .exI fun i202 =>
 .exS fun a203 n203 c203 =>
 .exS fun a204 n204 c204 =>
 .exS fun a205 n205 c205 =>
 .exS fun a206 n206 c206 =>
 .exI fun i207 =>
 .exS fun a208 n208 c208 =>
 .exS fun a209 n209 c209 =>
 .exS fun a210 n210 c210 =>
 .exS fun a211 n211 c211 =>
 .exB fun b212 =>
 .isL [v191] [.tuple #[.agg #[.int .u64 i192, .int .i64 i193, .int .i64 i194, .int .i64 i195, .int .u64 i196, .int .u64 i197, .slice a198 n198 c198, .slice a199 n199 c199, .int .u64 i200, .int .i64 i201, .int .i64 i202, .slice a203 n203 c203, .slice a204 n204 c204, .slice a205 n205 c205, .slice a206 n206 c206, .int .u64 i207, .slice a208 n208 c208], .agg #[.slice a209 n209 c209, .slice a210 n210 c210, .slice a211 n211 c211], .bool b212]] <|
 .new 36 [.int .u64 0, .int .i64 0, .int .i64 0, .int .i64 0, .int .u64 0, .int .u64 0, .slice none 0 0, .slice none 0 0, .int .u64 0, .int .i64 0, .int .i64 0, .slice none 0 0, .slice none 0 0, .slice none 0 0, .slice none 0 0, .int .u64 0, .slice none 0 0] fun p213 =>
 .new 48 [.slice none 0 0, .slice none 0 0, .slice none 0 0] fun p214 =>
 .store ⟨p213, 0, none⟩ [.int .u64 i192, .int .i64 i193, .int .i64 i194, .int .i64 i195, .int .u64 i196, .int .u64 i197, .slice a198 n198 c198, .slice a199 n199 c199, .int .u64 i200, .int .i64 i201, .int .i64 i202, .slice a203 n203 c203, .slice a204 n204 c204, .slice a205 n205 c205, .slice a206 n206 c206, .int .u64 i207, .slice a208 n208 c208] <|
 .store ⟨p214, 0, none⟩ [.slice a209 n209 c209, .slice a210 n210 c210, .slice a211 n211 c211] <|
 .load ⟨p1, 0, none⟩ 17 fun v215 =>
 .exI fun i216 =>
 .exI fun i217 =>
 .exI fun i218 =>
 .exI fun i219 =>
 .exI fun i220 =>
 .exI fun i221 =>
 .exS fun a222 n222 c222 =>
 .exS fun a223 n223 c223 =>
 .exI fun i224 =>
 .exI fun i225 =>
 .exI fun i226 =>
 .exS fun a227 n227 c227 =>
 .exS fun a228 n228 c228 =>
 .exS fun a229 n229 c229 =>
 .exS fun a230 n230 c230 =>
 .exI fun i231 =>
 .exS fun a232 n232 c232 =>
 .isL v215 [.int .u64 i216, .int .i64 i217, .int .i64 i218, .int .i64 i219, .int .u64 i220, .int .u64 i221, .slice a222 n222 c222, .slice a223 n223 c223, .int .u64 i224, .int .i64 i225, .int .i64 i226, .slice a227 n227 c227, .slice a228 n228 c228, .slice a229 n229 c229, .slice a230 n230 c230, .int .u64 i231, .slice a232 n232 c232] <|
 .call 32 ([.agg #[.int .u64 i216, .int .i64 i217, .int .i64 i218, .int .i64 i219, .int .u64 i220, .int .u64 i221, .slice a222 n222 c222, .slice a223 n223 c223, .int .u64 i224, .int .i64 i225, .int .i64 i226, .slice a227 n227 c227, .slice a228 n228 c228, .slice a229 n229 c229, .slice a230 n230 c230, .int .u64 i231, .slice a232 n232 c232]]) fun v233 =>
 .exI fun i234 =>
 .exI fun i235 =>
 .exI fun i236 =>
 .exI fun i237 =>
 .exI fun i238 =>
 .exI fun i239 =>
 .exS fun a240 n240 c240 =>
 .exS fun a241 n241 c241 =>
 .exI fun i242 =>
 .exI fun i243 =>
 .exI fun i244 =>
 .exS fun a245 n245 c245 =>
 .exS fun a246 n246 c246 =>
 .exS fun a247 n247 c247 =>
 .exS fun a248 n248 c248 =>
 .exI fun i249 =>
 .exS fun a250 n250 c250 =>
 .exS fun a251 n251 c251 =>
 .exS fun a252 n252 c252 =>
 .exS fun a253 n253 c253 =>
 .isL [v233] [.tuple #[.agg #[.int .u64 i234, .int .i64 i235, .int .i64 i236, .int .i64 i237, .int .u64 i238, .int .u64 i239, .slice a240 n240 c240, .slice a241 n241 c241, .int .u64 i242, .int .i64 i243, .int .i64 i244, .slice a245 n245 c245, .slice a246 n246 c246, .slice a247 n247 c247, .slice a248 n248 c248, .int .u64 i249, .slice a250 n250 c250], .agg #[.slice a251 n251 c251, .slice a252 n252 c252, .slice a253 n253 c253]]] <|
 .new 36 [.int .u64 0, .int .i64 0, .int .i64 0, .int .i64 0, .int .u64 0, .int .u64 0, .slice none 0 0, .slice none 0 0, .int .u64 0, .int .i64 0, .int .i64 0, .slice none 0 0, .slice none 0 0, .slice none 0 0, .slice none 0 0, .int .u64 0, .slice none 0 0] fun p254 =>
 .new 48 [.slice none 0 0, .slice none 0 0, .slice none 0 0] fun p255 =>
 .store ⟨p254, 0, none⟩ [.int .u64 i234, .int .i64 i235, .int .i64 i236, .int .i64 i237, .int .u64 i238, .int .u64 i239, .slice a240 n240 c240, .slice a241 n241 c241, .int .u64 i242, .int .i64 i243, .int .i64 i244, .slice a245 n245 c245, .slice a246 n246 c246, .slice a247 n247 c247, .slice a248 n248 c248, .int .u64 i249, .slice a250 n250 c250] <|
 .store ⟨p255, 0, none⟩ [.slice a251 n251 c251, .slice a252 n252 c252, .slice a253 n253 c253] <|
 .load ⟨p1, 0, none⟩ 17 fun v256 =>
 .exI fun i257 =>
 .exI fun i258 =>
 .exI fun i259 =>
 .exI fun i260 =>
 .exI fun i261 =>
 .exI fun i262 =>
 .exS fun a263 n263 c263 =>
 .exS fun a264 n264 c264 =>
 .exI fun i265 =>
 .exI fun i266 =>
 .exI fun i267 =>
 .exS fun a268 n268 c268 =>
 .exS fun a269 n269 c269 =>
 .exS fun a270 n270 c270 =>
 .exS fun a271 n271 c271 =>
 .exI fun i272 =>
 .exS fun a273 n273 c273 =>
 .isL v256 [.int .u64 i257, .int .i64 i258, .int .i64 i259, .int .i64 i260, .int .u64 i261, .int .u64 i262, .slice a263 n263 c263, .slice a264 n264 c264, .int .u64 i265, .int .i64 i266, .int .i64 i267, .slice a268 n268 c268, .slice a269 n269 c269, .slice a270 n270 c270, .slice a271 n271 c271, .int .u64 i272, .slice a273 n273 c273] <|
 .call 31 ([.agg #[.int .u64 i257, .int .i64 i258, .int .i64 i259, .int .i64 i260, .int .u64 i261, .int .u64 i262, .slice a263 n263 c263, .slice a264 n264 c264, .int .u64 i265, .int .i64 i266, .int .i64 i267, .slice a268 n268 c268, .slice a269 n269 c269, .slice a270 n270 c270, .slice a271 n271 c271, .int .u64 i272, .slice a273 n273 c273], .slice dataa datan datac]) fun v274 =>
 .exI fun i275 =>
 .exI fun i276 =>
 .exI fun i277 =>
 .exI fun i278 =>
 .exI fun i279 =>
 .exI fun i280 =>
 .exS fun a281 n281 c281 =>
 .exS fun a282 n282 c282 =>
 .exI fun i283 =>
 .exI fun i284 =>
 .exI fun i285 =>
 .exS fun a286 n286 c286 =>
 .exS fun a287 n287 c287 =>
 .exS fun a288 n288 c288 =>
 .exS fun a289 n289 c289 =>
 .exI fun i290 =>
 .exS fun a291 n291 c291 =>
 .exS fun a292 n292 c292 =>
 .exS fun a293 n293 c293 =>
 .exS fun a294 n294 c294 =>
 .isL [v274] [.tuple #[.agg #[.int .u64 i275, .int .i64 i276, .int .i64 i277, .int .i64 i278, .int .u64 i279, .int .u64 i280, .slice a281 n281 c281, .slice a282 n282 c282, .int .u64 i283, .int .i64 i284, .int .i64 i285, .slice a286 n286 c286, .slice a287 n287 c287, .slice a288 n288 c288, .slice a289 n289 c289, .int .u64 i290, .slice a291 n291 c291], .agg #[.slice a292 n292 c292, .slice a293 n293 c293, .slice a294 n294 c294]]] <|
 .new 36 [.int .u64 0, .int .i64 0, .int .i64 0, .int .i64 0, .int .u64 0, .int .u64 0, .slice none 0 0, .slice none 0 0, .int .u64 0, .int .i64 0, .int .i64 0, .slice none 0 0, .slice none 0 0, .slice none 0 0, .slice none 0 0, .int .u64 0, .slice none 0 0] fun p295 =>
 .new 48 [.slice none 0 0, .slice none 0 0, .slice none 0 0] fun p296 =>
 .store ⟨p295, 0, none⟩ [.int .u64 i275, .int .i64 i276, .int .i64 i277, .int .i64 i278, .int .u64 i279, .int .u64 i280, .slice a281 n281 c281, .slice a282 n282 c282, .int .u64 i283, .int .i64 i284, .int .i64 i285, .slice a286 n286 c286, .slice a287 n287 c287, .slice a288 n288 c288, .slice a289 n289 c289, .int .u64 i290, .slice a291 n291 c291] <|
 .store ⟨p296, 0, none⟩ [.slice a292 n292 c292, .slice a293 n293 c293, .slice a294 n294 c294] <|
 .load ⟨p171, 0, none⟩ 17 fun v297 =>
 .exI fun i298 =>
 .exI fun i299 =>
 .exI fun i300 =>
 .exI fun i301 =>
 .exI fun i302 =>
 .exI fun i303 =>
 .exS fun a304 n304 c304 =>
 .exS fun a305 n305 c305 =>
 .exI fun i306 =>
 .exI fun i307 =>
 .exI fun i308 =>
 .exS fun a309 n309 c309 =>
 .exS fun a310 n310 c310 =>
 .exS fun a311 n311 c311 =>
 .exS fun a312 n312 c312 =>
 .exI fun i313 =>
 .exS fun a314 n314 c314 =>
 .isL v297 [.int .u64 i298, .int .i64 i299, .int .i64 i300, .int .i64 i301, .int .u64 i302, .int .u64 i303, .slice a304 n304 c304, .slice a305 n305 c305, .int .u64 i306, .int .i64 i307, .int .i64 i308, .slice a309 n309 c309, .slice a310 n310 c310, .slice a311 n311 c311, .slice a312 n312 c312, .int .u64 i313, .slice a314 n314 c314] <|
 .load ⟨p213, 0, none⟩ 17 fun v315 =>
 .exI fun i316 =>
 .exI fun i317 =>
 .exI fun i318 =>
 .exI fun i319 =>
 .exI fun i320 =>
 .exI fun i321 =>
 .exS fun a322 n322 c322 =>
 .exS fun a323 n323 c323 =>
 .exI fun i324 =>
 .exI fun i325 =>
 .exI fun i326 =>
 .exS fun a327 n327 c327 =>
 .exS fun a328 n328 c328 =>
 .exS fun a329 n329 c329 =>
 .exS fun a330 n330 c330 =>
 .exI fun i331 =>
 .exS fun a332 n332 c332 =>
 .isL v315 [.int .u64 i316, .int .i64 i317, .int .i64 i318, .int .i64 i319, .int .u64 i320, .int .u64 i321, .slice a322 n322 c322, .slice a323 n323 c323, .int .u64 i324, .int .i64 i325, .int .i64 i326, .slice a327 n327 c327, .slice a328 n328 c328, .slice a329 n329 c329, .slice a330 n330 c330, .int .u64 i331, .slice a332 n332 c332] <|
 .load ⟨p254, 0, none⟩ 17 fun v333 =>
 .exI fun i334 =>
 .exI fun i335 =>
 .exI fun i336 =>
 .exI fun i337 =>
 .exI fun i338 =>
 .exI fun i339 =>
 .exS fun a340 n340 c340 =>
 .exS fun a341 n341 c341 =>
 .exI fun i342 =>
 .exI fun i343 =>
 .exI fun i344 =>
 .exS fun a345 n345 c345 =>
 .exS fun a346 n346 c346 =>
 .exS fun a347 n347 c347 =>
 .exS fun a348 n348 c348 =>
 .exI fun i349 =>
 .exS fun a350 n350 c350 =>
 .isL v333 [.int .u64 i334, .int .i64 i335, .int .i64 i336, .int .i64 i337, .int .u64 i338, .int .u64 i339, .slice a340 n340 c340, .slice a341 n341 c341, .int .u64 i342, .int .i64 i343, .int .i64 i344, .slice a345 n345 c345, .slice a346 n346 c346, .slice a347 n347 c347, .slice a348 n348 c348, .int .u64 i349, .slice a350 n350 c350] <|
 .load ⟨p295, 0, none⟩ 17 fun v351 =>
 .exI fun i352 =>
 .exI fun i353 =>
 .exI fun i354 =>
 .exI fun i355 =>
 .exI fun i356 =>
 .exI fun i357 =>
 .exS fun a358 n358 c358 =>
 .exS fun a359 n359 c359 =>
 .exI fun i360 =>
 .exI fun i361 =>
 .exI fun i362 =>
 .exS fun a363 n363 c363 =>
 .exS fun a364 n364 c364 =>
 .exS fun a365 n365 c365 =>
 .exS fun a366 n366 c366 =>
 .exI fun i367 =>
 .exS fun a368 n368 c368 =>
 .isL v351 [.int .u64 i352, .int .i64 i353, .int .i64 i354, .int .i64 i355, .int .u64 i356, .int .u64 i357, .slice a358 n358 c358, .slice a359 n359 c359, .int .u64 i360, .int .i64 i361, .int .i64 i362, .slice a363 n363 c363, .slice a364 n364 c364, .slice a365 n365 c365, .slice a366 n366 c366, .int .u64 i367, .slice a368 n368 c368] <|
 .new 36 [.int .u64 i298, .int .i64 i299, .int .i64 i300, .int .i64 i301, .int .u64 i302, .int .u64 i303, .slice a304 n304 c304, .slice a305 n305 c305, .int .u64 i306, .int .i64 i307, .int .i64 i308, .slice a309 n309 c309, .slice a310 n310 c310, .slice a311 n311 c311, .slice a312 n312 c312, .int .u64 i313, .slice a314 n314 c314, .int .u64 i316, .int .i64 i317, .int .i64 i318, .int .i64 i319, .int .u64 i320, .int .u64 i321, .slice a322 n322 c322, .slice a323 n323 c323, .int .u64 i324, .int .i64 i325, .int .i64 i326, .slice a327 n327 c327, .slice a328 n328 c328, .slice a329 n329 c329, .slice a330 n330 c330, .int .u64 i331, .slice a332 n332 c332, .int .u64 i334, .int .i64 i335, .int .i64 i336, .int .i64 i337, .int .u64 i338, .int .u64 i339, .slice a340 n340 c340, .slice a341 n341 c341, .int .u64 i342, .int .i64 i343, .int .i64 i344, .slice a345 n345 c345, .slice a346 n346 c346, .slice a347 n347 c347, .slice a348 n348 c348, .int .u64 i349, .slice a350 n350 c350, .int .u64 i352, .int .i64 i353, .int .i64 i354, .int .i64 i355, .int .u64 i356, .int .u64 i357, .slice a358 n358 c358, .slice a359 n359 c359, .int .u64 i360, .int .i64 i361, .int .i64 i362, .slice a363 n363 c363, .slice a364 n364 c364, .slice a365 n365 c365, .slice a366 n366 c366, .int .u64 i367, .slice a368 n368 c368] fun p369 =>
 .loop 0 [.int .i64 0] (fun v370 =>
  .exI fun i371 =>
  .isL v370 [.int .i64 i371] <|
  bif (decide (i371 < (↑4 : Int))) then
   (.loop 1 [.int .i64 0] (fun v372 =>
    .exI fun i373 =>
    .isL v372 [.int .i64 i373] <|
    .some (some ⟨p369, 0, none⟩) fun x374 =>
    .need ((0 : Int) ≤ i371 ∧ i371 < (↑4 : Int)) <|
    .load ((x374.add (i371.toNat * 17)).add 7) 1 fun v375 =>
    .exS fun a376 n376 c376 =>
    .isL v375 [.slice a376 n376 c376] <|
    bif (decide (i373 < (↑n376 : Int))) then
     (.some (some ⟨p369, 0, none⟩) fun x377 =>
     .need ((0 : Int) ≤ i371 ∧ i371 < (↑4 : Int)) <|
     .load ((x377.add (i371.toNat * 17)).add 7) 1 fun v378 =>
     .exS fun a379 n379 c379 =>
     .isL v378 [.slice a379 n379 c379] <|
     .some a379 fun x380 =>
     .need ((0 : Int) ≤ i373 ∧ i373 < (↑n379 : Int)) <|
     .store (x380.add (i373.toNat * 2)) [.int .u64 77] <|
     .again 1 [.int .i64 (IntKind.i64.wrap (i373 + 1))])
    else
    (.draw <|
    .some (some ⟨p369, 0, none⟩) fun x381 =>
    .need ((0 : Int) ≤ i371 ∧ i371 < (↑4 : Int)) <|
    .load ((x381.add (i371.toNat * 17)).add 13) 1 fun v382 =>
    .exS fun a383 n383 c383 =>
    .isL v382 [.slice a383 n383 c383] <|
    .some (some ⟨p369, 0, none⟩) fun x384 =>
    .need ((0 : Int) ≤ i371 ∧ i371 < (↑4 : Int)) <|
    .load ((x384.add (i371.toNat * 17)).add 12) 1 fun v385 =>
    .exS fun a386 n386 c386 =>
    .isL v385 [.slice a386 n386 c386] <|
    bif ((↑n383 : Int) != (↑n386 : Int)) then
     (.ret (.bool false))
    else
    (.some (some ⟨p369, 0, none⟩) fun x387 =>
    .need ((0 : Int) ≤ i371 ∧ i371 < (↑4 : Int)) <|
    .load ((x387.add (i371.toNat * 17)).add 14) 1 fun v388 =>
    .exS fun a389 n389 c389 =>
    .isL v388 [.slice a389 n389 c389] <|
    .some (some ⟨p369, 0, none⟩) fun x390 =>
    .need ((0 : Int) ≤ i371 ∧ i371 < (↑4 : Int)) <|
    .load ((x390.add (i371.toNat * 17)).add 12) 1 fun v391 =>
    .exS fun a392 n392 c392 =>
    .isL v391 [.slice a392 n392 c392] <|
    bif ((↑n389 : Int) != (↑n392 : Int)) then
     (.ret (.bool false))
    else
    (.loop 1 [.int .i64 0] (fun v393 =>
     .exI fun i394 =>
     .isL v393 [.int .i64 i394] <|
     .some (some ⟨p369, 0, none⟩) fun x395 =>
     .need ((0 : Int) ≤ i371 ∧ i371 < (↑4 : Int)) <|
     .load ((x395.add (i371.toNat * 17)).add 12) 1 fun v396 =>
     .exS fun a397 n397 c397 =>
     .isL v396 [.slice a397 n397 c397] <|
     bif (decide (i394 < (↑n397 : Int))) then
      (.draw <|
      .some (some ⟨p369, 0, none⟩) fun x398 =>
      .need ((0 : Int) ≤ i371 ∧ i371 < (↑4 : Int)) <|
      .load ((x398.add (i371.toNat * 17)).add 12) 1 fun v399 =>
      .exS fun a400 n400 c400 =>
      .isL v399 [.slice a400 n400 c400] <|
      .some (some ⟨p369, 0, none⟩) fun x401 =>
      .need ((0 : Int) ≤ i371 ∧ i371 < (↑4 : Int)) <|
      .load ((x401.add (i371.toNat * 17)).add 13) 1 fun v402 =>
      .exS fun a403 n403 c403 =>
      .isL v402 [.slice a403 n403 c403] <|
      .some (some ⟨p369, 0, none⟩) fun x404 =>
      .need ((0 : Int) ≤ i371 ∧ i371 < (↑4 : Int)) <|
      .load ((x404.add (i371.toNat * 17)).add 14) 1 fun v405 =>
      .exS fun a406 n406 c406 =>
      .isL v405 [.slice a406 n406 c406] <|
      .some a400 fun x407 =>
      .need ((0 : Int) ≤ i394 ∧ i394 < (↑n400 : Int)) <|
      .store (x407.add (i394.toNat * 1)) [.int .u64 77] <|
      .some a403 fun x408 =>
      .need ((0 : Int) ≤ i394 ∧ i394 < (↑n403 : Int)) <|
      .store (x408.add (i394.toNat * 1)) [.int .u64 77] <|
      .some a406 fun x409 =>
      .need ((0 : Int) ≤ i394 ∧ i394 < (↑n406 : Int)) <|
      .store (x409.add (i394.toNat * 1)) [.int .u64 77] <|
      .again 1 [.int .i64 (IntKind.i64.wrap (i394 + 1))])
     else
     (.loop 1 [.int .i64 0] (fun v410 =>
      .exI fun i411 =>
      .isL v410 [.int .i64 i411] <|
      .some (some ⟨p369, 0, none⟩) fun x412 =>
      .need ((0 : Int) ≤ i371 ∧ i371 < (↑4 : Int)) <|
      .load ((x412.add (i371.toNat * 17)).add 11) 1 fun v413 =>
      .exS fun a414 n414 c414 =>
      .isL v413 [.slice a414 n414 c414] <|
      bif (decide (i411 < (↑n414 : Int))) then
       (.draw <|
       .some (some ⟨p369, 0, none⟩) fun x415 =>
       .need ((0 : Int) ≤ i371 ∧ i371 < (↑4 : Int)) <|
       .load ((x415.add (i371.toNat * 17)).add 11) 1 fun v416 =>
       .exS fun a417 n417 c417 =>
       .isL v416 [.slice a417 n417 c417] <|
       .some (some ⟨p369, 0, none⟩) fun x418 =>
       .need ((0 : Int) ≤ i371 ∧ i371 < (↑4 : Int)) <|
       .load ((x418.add (i371.toNat * 17)).add 11) 1 fun v419 =>
       .exS fun a420 n420 c420 =>
       .isL v419 [.slice a420 n420 c420] <|
       .some a420 fun x421 =>
       .need ((0 : Int) ≤ i411 ∧ i411 < (↑n420 : Int)) <|
       .load (x421.add (i411.toNat * 1)) 1 fun v422 =>
       .exB fun b423 =>
       .isL v422 [.bool b423] <|
       .some a417 fun x424 =>
       .need ((0 : Int) ≤ i411 ∧ i411 < (↑n417 : Int)) <|
       .store (x424.add (i411.toNat * 1)) [.bool !b423] <|
       .again 1 [.int .i64 (IntKind.i64.wrap (i411 + 1))])
      else
      (.again 0 [.int .i64 (IntKind.i64.wrap (i371 + 1))])))))))))
  else
  (.load ⟨p106, 0, none⟩ 17 fun v425 =>
  .exI fun i426 =>
  .exI fun i427 =>
  .exI fun i428 =>
  .exI fun i429 =>
  .exI fun i430 =>
  .exI fun i431 =>
  .exS fun a432 n432 c432 =>
  .exS fun a433 n433 c433 =>
  .exI fun i434 =>
  .exI fun i435 =>
  .exI fun i436 =>
  .exS fun a437 n437 c437 =>
  .exS fun a438 n438 c438 =>
  .exS fun a439 n439 c439 =>
  .exS fun a440 n440 c440 =>
  .exI fun i441 =>
  .exS fun a442 n442 c442 =>
  .isL v425 [.int .u64 i426, .int .i64 i427, .int .i64 i428, .int .i64 i429, .int .u64 i430, .int .u64 i431, .slice a432 n432 c432, .slice a433 n433 c433, .int .u64 i434, .int .i64 i435, .int .i64 i436, .slice a437 n437 c437, .slice a438 n438 c438, .slice a439 n439 c439, .slice a440 n440 c440, .int .u64 i441, .slice a442 n442 c442] <|
  .load ⟨p1, 0, none⟩ 17 fun v443 =>
  .exI fun i444 =>
  .exI fun i445 =>
  .exI fun i446 =>
  .exI fun i447 =>
  .exI fun i448 =>
  .exI fun i449 =>
  .exS fun a450 n450 c450 =>
  .exS fun a451 n451 c451 =>
  .exI fun i452 =>
  .exI fun i453 =>
  .exI fun i454 =>
  .exS fun a455 n455 c455 =>
  .exS fun a456 n456 c456 =>
  .exS fun a457 n457 c457 =>
  .exS fun a458 n458 c458 =>
  .exI fun i459 =>
  .exS fun a460 n460 c460 =>
  .isL v443 [.int .u64 i444, .int .i64 i445, .int .i64 i446, .int .i64 i447, .int .u64 i448, .int .u64 i449, .slice a450 n450 c450, .slice a451 n451 c451, .int .u64 i452, .int .i64 i453, .int .i64 i454, .slice a455 n455 c455, .slice a456 n456 c456, .slice a457 n457 c457, .slice a458 n458 c458, .int .u64 i459, .slice a460 n460 c460] <|
  .call 29 ([.agg #[.int .u64 i426, .int .i64 i427, .int .i64 i428, .int .i64 i429, .int .u64 i430, .int .u64 i431, .slice a432 n432 c432, .slice a433 n433 c433, .int .u64 i434, .int .i64 i435, .int .i64 i436, .slice a437 n437 c437, .slice a438 n438 c438, .slice a439 n439 c439, .slice a440 n440 c440, .int .u64 i441, .slice a442 n442 c442], .agg #[.int .u64 i444, .int .i64 i445, .int .i64 i446, .int .i64 i447, .int .u64 i448, .int .u64 i449, .slice a450 n450 c450, .slice a451 n451 c451, .int .u64 i452, .int .i64 i453, .int .i64 i454, .slice a455 n455 c455, .slice a456 n456 c456, .slice a457 n457 c457, .slice a458 n458 c458, .int .u64 i459, .slice a460 n460 c460]]) fun v461 =>
  .exB fun b462 =>
  .isL [v461] [.bool b462] <|
  .ret (.bool b462)))))))
theorem e6 (r0 : Int) (r1 : Int) (r2 : Int) (r3 : Int) (r4 : Int) (r5 : Int) (r6a : Option Addr) (r6n : Nat) (r6c : Nat) (r7a : Option Addr) (r7n : Nat) (r7c : Nat) (r8 : Int) (r9 : Int) (r10 : Int) (r11a : Option Addr) (r11n : Nat) (r11c : Nat) (r12a : Option Addr) (r12n : Nat) (r12c : Nat) (r13a : Option Addr) (r13n : Nat) (r13c : Nat) (r14a : Option Addr) (r14n : Nat) (r14c : Nat) (r15 : Int) (r16a : Option Addr) (r16n : Nat) (r16c : Nat) (m0 : Int) (m1 : Int) (m2 : Int) (m3 : Int) (m4 : Int) (m5 : Int) (m6a : Option Addr) (m6n : Nat) (m6c : Nat) (m7 : Int) (m8 : Int) (m9 : Bool) (m10 : Int) (m11 : Int) (m12a : Option Addr) (m12n : Nat) (m12c : Nat) (m13 : Int) (m14 : Int) (m15 : Int) (m16 : ByteArray) (m17 : ByteArray) (m18 : Int) (m19 : Int) (m20 : ByteArray) (dataa : Option Addr) (datan : Nat) (datac : Nat) : genFn Try.prog lv6 noM Try.f6 [.agg #[.int .u64 r0, .int .i64 r1, .int .i64 r2, .int .i64 r3, .int .u64 r4, .int .u64 r5, .slice r6a r6n r6c, .slice r7a r7n r7c, .int .u64 r8, .int .i64 r9, .int .i64 r10, .slice r11a r11n r11c, .slice r12a r12n r12c, .slice r13a r13n r13c, .slice r14a r14n r14c, .int .u64 r15, .slice r16a r16n r16c], .agg #[.int .i64 m0, .int .i64 m1, .int .i64 m2, .int .u64 m3, .int .u64 m4, .int .u64 m5, .slice m6a m6n m6c, .int .u64 m7, .int .u64 m8, .bool m9, .int .u64 m10, .int .u64 m11, .slice m12a m12n m12c, .int .i64 m13, .int .i64 m14, .int .u64 m15, .string m16, .string m17, .int .u64 m18, .int .i64 m19, .string m20], .slice dataa datan datac] = t6 r0 r1 r2 r3 r4 r5 r6a r6n r6c r7a r7n r7c r8 r9 r10 r11a r11n r11c r12a r12n r12c r13a r13n r13c r14a r14n r14c r15 r16a r16n r16c m0 m1 m2 m3 m4 m5 m6a m6n m6c m7 m8 m9 m10 m11 m12a m12n m12c m13 m14 m15 m16 m17 m18 m19 m20 dataa datan datac := by kernel_rfl
theorem r6 (r0 : Int) (r1 : Int) (r2 : Int) (r3 : Int) (r4 : Int) (r5 : Int) (r6a : Option Addr) (r6n : Nat) (r6c : Nat) (r7a : Option Addr) (r7n : Nat) (r7c : Nat) (r8 : Int) (r9 : Int) (r10 : Int) (r11a : Option Addr) (r11n : Nat) (r11c : Nat) (r12a : Option Addr) (r12n : Nat) (r12c : Nat) (r13a : Option Addr) (r13n : Nat) (r13c : Nat) (r14a : Option Addr) (r14n : Nat) (r14c : Nat) (r15 : Int) (r16a : Option Addr) (r16n : Nat) (r16c : Nat) (m0 : Int) (m1 : Int) (m2 : Int) (m3 : Int) (m4 : Int) (m5 : Int) (m6a : Option Addr) (m6n : Nat) (m6c : Nat) (m7 : Int) (m8 : Int) (m9 : Bool) (m10 : Int) (m11 : Int) (m12a : Option Addr) (m12n : Nat) (m12c : Nat) (m13 : Int) (m14 : Int) (m15 : Int) (m16 : ByteArray) (m17 : ByteArray) (m18 : Int) (m19 : Int) (m20 : ByteArray) (dataa : Option Addr) (datan : Nat) (datac : Nat) {R : Value → World → Prop} {w : World} (h : (t6 r0 r1 r2 r3 r4 r5 r6a r6n r6c r7a r7n r7c r8 r9 r10 r11a r11n r11c r12a r12n r12c r13a r13n r13c r14a r14n r14c r15 r16a r16n r16c m0 m1 m2 m3 m4 m5 m6a m6n m6c m7 m8 m9 m10 m11 m12a m12n m12c m13 m14 m15 m16 m17 m18 m19 m20 dataa datan datac).wp Try.prog R (fun _ _ _ => False) w) : Runs Try.prog 6 [.agg #[.int .u64 r0, .int .i64 r1, .int .i64 r2, .int .i64 r3, .int .u64 r4, .int .u64 r5, .slice r6a r6n r6c, .slice r7a r7n r7c, .int .u64 r8, .int .i64 r9, .int .i64 r10, .slice r11a r11n r11c, .slice r12a r12n r12c, .slice r13a r13n r13c, .slice r14a r14n r14c, .int .u64 r15, .slice r16a r16n r16c], .agg #[.int .i64 m0, .int .i64 m1, .int .i64 m2, .int .u64 m3, .int .u64 m4, .int .u64 m5, .slice m6a m6n m6c, .int .u64 m7, .int .u64 m8, .bool m9, .int .u64 m10, .int .u64 m11, .slice m12a m12n m12c, .int .i64 m13, .int .i64 m14, .int .u64 m15, .string m16, .string m17, .int .u64 m18, .int .i64 m19, .string m20], .slice dataa datan datac] w R :=
 genFn_runs mixed lv6 noM Try.func6 (by kernel_rfl) (by rw [e6]; exact h)
end Go.Proofs.Ytnbfffmdplcajaa
