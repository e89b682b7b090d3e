/- The trees of verification conditions of functions 19: printed by a program of mine, checked here. -/
import Derived.Test.YtnbfffmdplcajaaTree0
set_option linter.unusedVariables false
set_option maxRecDepth 100000
namespace Go.Proofs.Ytnbfffmdplcajaa
open Go.Vc
def lv19 : Marks := (fun | some 6 => some [(5, .int .i64 0)] | some 11 => some [(6, .int .i64 0)] | some 22 => some [(10, .int .i64 0)] | _ => none)
def t19 (la : Option Addr) (ln : Nat) (lc : Nat) (ma : Option Addr) (mn : Nat) (mc : Nat) : VC :=
 .call 22 ([]) fun v1 =>
 .exB fun b2 =>
 .isL [v1] [.bool b2] <|
 bif !b2 then
  (.ret (.bool false))
 else
 (bif (decide ((↑ln : Int) > 15)) then
  (.ret (.bool true))
 else
 (bif (decide ((↑mn : Int) > 15)) then
  (.ret (.bool true))
 else
 (.loop 0 [.int .i64 0] (fun v3 =>
  .exI fun i4 =>
  .isL v3 [.int .i64 i4] <|
  bif (decide (i4 < (↑ln : Int))) then
   (.some la fun x5 =>
   .need ((0 : Int) ≤ i4 ∧ i4 < (↑ln : Int)) <|
   .load (x5.add (i4.toNat * 2)) 1 fun v6 =>
   .exI fun i7 =>
   .isL v6 [.int .u64 i7] <|
   bif (decide (i7 > 9)) then
    (.ret (.bool true))
   else
   (.some la fun x8 =>
   .need ((0 : Int) ≤ i4 ∧ i4 < (↑ln : Int)) <|
   .load ((x8.add (i4.toNat * 2)).add 1) 1 fun v9 =>
   .exS fun a10 n10 c10 =>
   .isL v9 [.slice a10 n10 c10] <|
   bif (decide ((↑n10 : Int) > 60)) then
    (.ret (.bool true))
   else
   (.again 0 [.int .i64 (IntKind.i64.wrap (i4 + 1))])))
  else
  (.loop 0 [.int .i64 0] (fun v11 =>
   .exI fun i12 =>
   .isL v11 [.int .i64 i12] <|
   bif (decide (i12 < (↑mn : Int))) then
    (.draw <|
    .some ma fun x13 =>
    .need ((0 : Int) ≤ i12 ∧ i12 < (↑mn : Int)) <|
    .load (x13.add (i12.toNat * 2)) 1 fun v14 =>
    .exI fun i15 =>
    .isL v14 [.int .u64 i15] <|
    bif (decide (i15 > 9)) then
     (.ret (.bool true))
    else
    (.some ma fun x16 =>
    .need ((0 : Int) ≤ i12 ∧ i12 < (↑mn : Int)) <|
    .load ((x16.add (i12.toNat * 2)).add 1) 1 fun v17 =>
    .exS fun a18 n18 c18 =>
    .isL v17 [.slice a18 n18 c18] <|
    bif (decide ((↑n18 : Int) > 60)) then
     (.ret (.bool true))
    else
    (bif (decide (i12 < (↑ln : Int))) then
     (.some ma fun x19 =>
     .need ((0 : Int) ≤ i12 ∧ i12 < (↑mn : Int)) <|
     .load (x19.add (i12.toNat * 2)) 1 fun v20 =>
     .exI fun i21 =>
     .isL v20 [.int .u64 i21] <|
     .some la fun x22 =>
     .need ((0 : Int) ≤ i12 ∧ i12 < (↑ln : Int)) <|
     .load (x22.add (i12.toNat * 2)) 1 fun v23 =>
     .exI fun i24 =>
     .isL v23 [.int .u64 i24] <|
     bif (i21 == i24) then
      (.need ((0 : Int) ≤ IntKind.i64.wrap (i12 + 1) ∧ IntKind.i64.wrap (i12 + 1) ≤ (↑lc : Int)) <|
      .need ((0 : Int) ≤ IntKind.i64.wrap (i12 + 1) ∧ IntKind.i64.wrap (i12 + 1) ≤ (↑mc : Int)) <|
      .call 48 ([.slice (if lc = 0 then la else Option.map (fun x => x) la) ((IntKind.i64.wrap (i12 + 1)).toNat - 0) (lc - 0), .slice (if mc = 0 then ma else Option.map (fun x => x) ma) ((IntKind.i64.wrap (i12 + 1)).toNat - 0) (mc - 0)]) fun v25 =>
      .exB fun b26 =>
      .isL [v25] [.bool b26] <|
      bif !b26 then
       (.ret (.bool true))
      else
      (.again 0 [.int .i64 (IntKind.i64.wrap (i12 + 1))]))
     else
     (.again 0 [.int .i64 (IntKind.i64.wrap (i12 + 1))]))
    else
    (.again 0 [.int .i64 (IntKind.i64.wrap (i12 + 1))]))))
   else
   (.call 23 ([.int .i64 1, .int .i64 2, .agg #[.int .u64 9, .int .i64 0, .int .u64 0, .int .u64 0, .slice none 0 0, .slice la ln lc]]) fun v27 =>
   .exI fun i28 =>
   .exI fun i29 =>
   .exI fun i30 =>
   .exI fun i31 =>
   .exI fun i32 =>
   .exI fun i33 =>
   .exS fun a34 n34 c34 =>
   .exS fun a35 n35 c35 =>
   .exI fun i36 =>
   .exI fun i37 =>
   .exI fun i38 =>
   .exS fun a39 n39 c39 =>
   .exS fun a40 n40 c40 =>
   .exS fun a41 n41 c41 =>
   .exS fun a42 n42 c42 =>
   .exI fun i43 =>
   .exS fun a44 n44 c44 =>
   .isL [v27] [.agg #[.int .u64 i28, .int .i64 i29, .int .i64 i30, .int .i64 i31, .int .u64 i32, .int .u64 i33, .slice a34 n34 c34, .slice a35 n35 c35, .int .u64 i36, .int .i64 i37, .int .i64 i38, .slice a39 n39 c39, .slice a40 n40 c40, .slice a41 n41 c41, .slice a42 n42 c42, .int .u64 i43, .slice a44 n44 c44]] <|
   .new 36 [.int .u64 0, .int .i64 0, .int .i64 0, .int .i64 0, .int .u64 0, .int .u64 0, .slice none 0 0, .slice none 0 0, .int .u64 0, .int .i64 0, .int .i64 0, .slice none 0 0, .slice none 0 0, .slice none 0 0, .slice none 0 0, .int .u64 0, .slice none 0 0] fun p45 =>
   .store ⟨p45, 0, none⟩ [.int .u64 i28, .int .i64 i29, .int .i64 i30, .int .i64 i31, .int .u64 i32, .int .u64 i33, .slice a34 n34 c34, .slice a35 n35 c35, .int .u64 i36, .int .i64 i37, .int .i64 i38, .slice a39 n39 c39, .slice a40 n40 c40, .slice a41 n41 c41, .slice a42 n42 c42, .int .u64 i43, .slice a44 n44 c44] <|
   .call 23 ([.int .i64 2, .int .i64 2, .agg #[.int .u64 9, .int .i64 0, .int .u64 0, .int .u64 0, .slice none 0 0, .slice ma mn mc]]) fun v46 =>
   .exI fun i47 =>
   .exI fun i48 =>
   .exI fun i49 =>
   .exI fun i50 =>
   .exI fun i51 =>
   .exI fun i52 =>
   .exS fun a53 n53 c53 =>
   .exS fun a54 n54 c54 =>
   .exI fun i55 =>
   .exI fun i56 =>
   .exI fun i57 =>
   .exS fun a58 n58 c58 =>
   .exS fun a59 n59 c59 =>
   .exS fun a60 n60 c60 =>
   .exS fun a61 n61 c61 =>
   .exI fun i62 =>
   .exS fun a63 n63 c63 =>
   .isL [v46] [.agg #[.int .u64 i47, .int .i64 i48, .int .i64 i49, .int .i64 i50, .int .u64 i51, .int .u64 i52, .slice a53 n53 c53, .slice a54 n54 c54, .int .u64 i55, .int .i64 i56, .int .i64 i57, .slice a58 n58 c58, .slice a59 n59 c59, .slice a60 n60 c60, .slice a61 n61 c61, .int .u64 i62, .slice a63 n63 c63]] <|
   .new 36 [.int .u64 0, .int .i64 0, .int .i64 0, .int .i64 0, .int .u64 0, .int .u64 0, .slice none 0 0, .slice none 0 0, .int .u64 0, .int .i64 0, .int .i64 0, .slice none 0 0, .slice none 0 0, .slice none 0 0, .slice none 0 0, .int .u64 0, .slice none 0 0] fun p64 =>
   .store ⟨p64, 0, none⟩ [.int .u64 i47, .int .i64 i48, .int .i64 i49, .int .i64 i50, .int .u64 i51, .int .u64 i52, .slice a53 n53 c53, .slice a54 n54 c54, .int .u64 i55, .int .i64 i56, .int .i64 i57, .slice a58 n58 c58, .slice a59 n59 c59, .slice a60 n60 c60, .slice a61 n61 c61, .int .u64 i62, .slice a63 n63 c63] <|
   .load ⟨p45, 0, none⟩ 17 fun v65 =>
   .exI fun i66 =>
   .exI fun i67 =>
   .exI fun i68 =>
   .exI fun i69 =>
   .exI fun i70 =>
   .exI fun i71 =>
   .exS fun a72 n72 c72 =>
   .exS fun a73 n73 c73 =>
   .exI fun i74 =>
   .exI fun i75 =>
   .exI fun i76 =>
   .exS fun a77 n77 c77 =>
   .exS fun a78 n78 c78 =>
   .exS fun a79 n79 c79 =>
   .exS fun a80 n80 c80 =>
   .exI fun i81 =>
   .exS fun a82 n82 c82 =>
   .isL v65 [.int .u64 i66, .int .i64 i67, .int .i64 i68, .int .i64 i69, .int .u64 i70, .int .u64 i71, .slice a72 n72 c72, .slice a73 n73 c73, .int .u64 i74, .int .i64 i75, .int .i64 i76, .slice a77 n77 c77, .slice a78 n78 c78, .slice a79 n79 c79, .slice a80 n80 c80, .int .u64 i81, .slice a82 n82 c82] <|
   .call 32 ([.agg #[.int .u64 i66, .int .i64 i67, .int .i64 i68, .int .i64 i69, .int .u64 i70, .int .u64 i71, .slice a72 n72 c72, .slice a73 n73 c73, .int .u64 i74, .int .i64 i75, .int .i64 i76, .slice a77 n77 c77, .slice a78 n78 c78, .slice a79 n79 c79, .slice a80 n80 c80, .int .u64 i81, .slice a82 n82 c82]]) fun v83 =>
   .exI fun i84 =>
   .exI fun i85 =>
   .exI fun i86 =>
   .exI fun i87 =>
   .exI fun i88 =>
   .exI fun i89 =>
   .exS fun a90 n90 c90 =>
   .exS fun a91 n91 c91 =>
   .exI fun i92 =>
   .exI fun i93 =>
   .exI fun i94 =>
   .exS fun a95 n95 c95 =>
   .exS fun a96 n96 c96 =>
   .exS fun a97 n97 c97 =>
   .exS fun a98 n98 c98 =>
   .exI fun i99 =>
   .exS fun a100 n100 c100 =>
   .exS fun a101 n101 c101 =>
   .exS fun a102 n102 c102 =>
   .exS fun a103 n103 c103 =>
   .isL [v83] [.tuple #[.agg #[.int .u64 i84, .int .i64 i85, .int .i64 i86, .int .i64 i87, .int .u64 i88, .int .u64 i89, .slice a90 n90 c90, .slice a91 n91 c91, .int .u64 i92, .int .i64 i93, .int .i64 i94, .slice a95 n95 c95, .slice a96 n96 c96, .slice a97 n97 c97, .slice a98 n98 c98, .int .u64 i99, .slice a100 n100 c100], .agg #[.slice a101 n101 c101, .slice a102 n102 c102, .slice a103 n103 c103]]] <|
   .store ⟨p45, 0, none⟩ [.int .u64 i84, .int .i64 i85, .int .i64 i86, .int .i64 i87, .int .u64 i88, .int .u64 i89, .slice a90 n90 c90, .slice a91 n91 c91, .int .u64 i92, .int .i64 i93, .int .i64 i94, .slice a95 n95 c95, .slice a96 n96 c96, .slice a97 n97 c97, .slice a98 n98 c98, .int .u64 i99, .slice a100 n100 c100] <|
   .load ⟨p45, 0, none⟩ 17 fun v104 =>
   .exI fun i105 =>
   .exI fun i106 =>
   .exI fun i107 =>
   .exI fun i108 =>
   .exI fun i109 =>
   .exI fun i110 =>
   .exS fun a111 n111 c111 =>
   .exS fun a112 n112 c112 =>
   .exI fun i113 =>
   .exI fun i114 =>
   .exI fun i115 =>
   .exS fun a116 n116 c116 =>
   .exS fun a117 n117 c117 =>
   .exS fun a118 n118 c118 =>
   .exS fun a119 n119 c119 =>
   .exI fun i120 =>
   .exS fun a121 n121 c121 =>
   .isL v104 [.int .u64 i105, .int .i64 i106, .int .i64 i107, .int .i64 i108, .int .u64 i109, .int .u64 i110, .slice a111 n111 c111, .slice a112 n112 c112, .int .u64 i113, .int .i64 i114, .int .i64 i115, .slice a116 n116 c116, .slice a117 n117 c117, .slice a118 n118 c118, .slice a119 n119 c119, .int .u64 i120, .slice a121 n121 c121] <|
   .call 38 ([.agg #[.int .u64 i105, .int .i64 i106, .int .i64 i107, .int .i64 i108, .int .u64 i109, .int .u64 i110, .slice a111 n111 c111, .slice a112 n112 c112, .int .u64 i113, .int .i64 i114, .int .i64 i115, .slice a116 n116 c116, .slice a117 n117 c117, .slice a118 n118 c118, .slice a119 n119 c119, .int .u64 i120, .slice a121 n121 c121], .agg #[.int .i64 2, .int .i64 2, .int .i64 1, .int .u64 10, .int .u64 0, .int .u64 0, .slice none 0 0, .int .u64 0, .int .u64 0, .bool true, .int .u64 0, .int .u64 0, .slice none 0 0, .int .i64 0, .int .i64 0, .int .u64 0, .string ({ data := #[] }), .string ({ data := #[] }), .int .u64 0, .int .i64 0, .string ({ data := #[] })]]) fun v122 =>
   .exI fun i123 =>
   .exI fun i124 =>
   .exI fun i125 =>
   .exI fun i126 =>
   .exI fun i127 =>
   .exI fun i128 =>
   .exS fun a129 n129 c129 =>
   .exS fun a130 n130 c130 =>
   .exI fun i131 =>
   .exI fun i132 =>
   .exI fun i133 =>
   .exS fun a134 n134 c134 =>
   .exS fun a135 n135 c135 =>
   .exS fun a136 n136 c136 =>
   .exS fun a137 n137 c137 =>
   .exI fun i138 =>
   .exS fun a139 n139 c139 =>
   .exS fun a140 n140 c140 =>
   .exS fun a141 n141 c141 =>
   .exS fun a142 n142 c142 =>
   .isL [v122] [.tuple #[.agg #[.int .u64 i123, .int .i64 i124, .int .i64 i125, .int .i64 i126, .int .u64 i127, .int .u64 i128, .slice a129 n129 c129, .slice a130 n130 c130, .int .u64 i131, .int .i64 i132, .int .i64 i133, .slice a134 n134 c134, .slice a135 n135 c135, .slice a136 n136 c136, .slice a137 n137 c137, .int .u64 i138, .slice a139 n139 c139], .agg #[.slice a140 n140 c140, .slice a141 n141 c141, .slice a142 n142 c142]]] <|
   .new 48 [.slice none 0 0, .slice none 0 0, .slice none 0 0] fun p143 =>
   .store ⟨p45, 0, none⟩ [.int .u64 i123, .int .i64 i124, .int .i64 i125, .int .i64 i126, .int .u64 i127, .int .u64 i128, .slice a129 n129 c129, .slice a130 n130 c130, .int .u64 i131, .int .i64 i132, .int .i64 i133, .slice a134 n134 c134, .slice a135 n135 c135, .slice a136 n136 c136, .slice a137 n137 c137, .int .u64 i138, .slice a139 n139 c139] <|
   .store ⟨p143, 0, none⟩ [.slice a140 n140 c140, .slice a141 n141 c141, .slice a142 n142 c142] <|
   .load ⟨p45, 9, none⟩ 1 fun v144 =>
   .exI fun i145 =>
   .isL v144 [.int .i64 i145] <|
   bif (i145 != 2) then
    (.ret (.bool false))
   else
   (.loop 0 [.int .i64 0] (fun v146 =>
    .exI fun i147 =>
    .isL v146 [.int .i64 i147] <|
    bif (decide (i147 < 60)) then
     (.load ⟨p143, 1, none⟩ 1 fun v148 =>
     .exS fun a149 n149 c149 =>
     .isL v148 [.slice a149 n149 c149] <|
     bif (decide ((↑n149 : Int) > 0)) then
      (.load ⟨p143, 1, none⟩ 1 fun v150 =>
      .exS fun a151 n151 c151 =>
      .isL v150 [.slice a151 n151 c151] <|
      .some a151 fun x152 =>
      .need ((0 : Int) ≤ 0 ∧ 0 < (↑n151 : Int)) <|
      .load (x152.add 2) 1 fun v153 =>
      .exI fun i154 =>
      .isL v153 [.int .i64 i154] <|
      bif (i154 != 2) then
       (.ret (.bool false))
      else
      (.new 48 [.slice none 0 0, .slice none 0 0, .slice none 0 0] fun p155 =>
      .draw <|
      .load ⟨p64, 0, none⟩ 17 fun v156 =>
      .exI fun i157 =>
      .exI fun i158 =>
      .exI fun i159 =>
      .exI fun i160 =>
      .exI fun i161 =>
      .exI fun i162 =>
      .exS fun a163 n163 c163 =>
      .exS fun a164 n164 c164 =>
      .exI fun i165 =>
      .exI fun i166 =>
      .exI fun i167 =>
      .exS fun a168 n168 c168 =>
      .exS fun a169 n169 c169 =>
      .exS fun a170 n170 c170 =>
      .exS fun a171 n171 c171 =>
      .exI fun i172 =>
      .exS fun a173 n173 c173 =>
      .isL v156 [.int .u64 i157, .int .i64 i158, .int .i64 i159, .int .i64 i160, .int .u64 i161, .int .u64 i162, .slice a163 n163 c163, .slice a164 n164 c164, .int .u64 i165, .int .i64 i166, .int .i64 i167, .slice a168 n168 c168, .slice a169 n169 c169, .slice a170 n170 c170, .slice a171 n171 c171, .int .u64 i172, .slice a173 n173 c173] <|
      .load ⟨p143, 1, none⟩ 1 fun v174 =>
      .exS fun a175 n175 c175 =>
      .isL v174 [.slice a175 n175 c175] <|
      .some a175 fun x176 =>
      .need ((0 : Int) ≤ 0 ∧ 0 < (↑n175 : Int)) <|
      .load x176 21 fun v177 =>
      .exI fun i178 =>
      .exI fun i179 =>
      .exI fun i180 =>
      .exI fun i181 =>
      .exI fun i182 =>
      .exI fun i183 =>
      .exS fun a184 n184 c184 =>
      .exI fun i185 =>
      .exI fun i186 =>
      .exB fun b187 =>
      .exI fun i188 =>
      .exI fun i189 =>
      .exS fun a190 n190 c190 =>
      .exI fun i191 =>
      .exI fun i192 =>
      .exI fun i193 =>
      .exT fun s194 =>
      .exT fun s195 =>
      .exI fun i196 =>
      .exI fun i197 =>
      .exT fun s198 =>
      .isL v177 [.int .i64 i178, .int .i64 i179, .int .i64 i180, .int .u64 i181, .int .u64 i182, .int .u64 i183, .slice a184 n184 c184, .int .u64 i185, .int .u64 i186, .bool b187, .int .u64 i188, .int .u64 i189, .slice a190 n190 c190, .int .i64 i191, .int .i64 i192, .int .u64 i193, .string s194, .string s195, .int .u64 i196, .int .i64 i197, .string s198] <|
      .call 38 ([.agg #[.int .u64 i157, .int .i64 i158, .int .i64 i159, .int .i64 i160, .int .u64 i161, .int .u64 i162, .slice a163 n163 c163, .slice a164 n164 c164, .int .u64 i165, .int .i64 i166, .int .i64 i167, .slice a168 n168 c168, .slice a169 n169 c169, .slice a170 n170 c170, .slice a171 n171 c171, .int .u64 i172, .slice a173 n173 c173], .agg #[.int .i64 i178, .int .i64 i179, .int .i64 i180, .int .u64 i181, .int .u64 i182, .int .u64 i183, .slice a184 n184 c184, .int .u64 i185, .int .u64 i186, .bool b187, .int .u64 i188, .int .u64 i189, .slice a190 n190 c190, .int .i64 i191, .int .i64 i192, .int .u64 i193, .string s194, .string s195, .int .u64 i196, .int .i64 i197, .string s198]]) fun v199 =>
      .exI fun i200 =>
      .exI fun i201 =>
      .exI fun i202 =>
      .exI fun i203 =>
      .exI fun i204 =>
      .exI fun i205 =>
      .exS fun a206 n206 c206 =>
      .exS fun a207 n207 c207 =>
      .exI fun i208 =>
      .exI fun i209 =>
      .exI fun i210 =>
      .exS fun a211 n211 c211 =>
      .exS fun a212 n212 c212 =>
      .exS fun a213 n213 c213 =>
      .exS fun a214 n214 c214 =>
      .exI fun i215 =>
      .exS fun a216 n216 c216 =>
      .exS fun a217 n217 c217 =>
      .exS fun a218 n218 c218 =>
      .exS fun a219 n219 c219 =>
      .isL [v199] [.tuple #[.agg #[.int .u64 i200, .int .i64 i201, .int .i64 i202, .int .i64 i203, .int .u64 i204, .int .u64 i205, .slice a206 n206 c206, .slice a207 n207 c207, .int .u64 i208, .int .i64 i209, .int .i64 i210, .slice a211 n211 c211, .slice a212 n212 c212, .slice a213 n213 c213, .slice a214 n214 c214, .int .u64 i215, .slice a216 n216 c216], .agg #[.slice a217 n217 c217, .slice a218 n218 c218, .slice a219 n219 c219]]] <|
      .store ⟨p64, 0, none⟩ [.int .u64 i200, .int .i64 i201, .int .i64 i202, .int .i64 i203, .int .u64 i204, .int .u64 i205, .slice a206 n206 c206, .slice a207 n207 c207, .int .u64 i208, .int .i64 i209, .int .i64 i210, .slice a211 n211 c211, .slice a212 n212 c212, .slice a213 n213 c213, .slice a214 n214 c214, .int .u64 i215, .slice a216 n216 c216] <|
      .store ⟨p155, 0, none⟩ [.slice a217 n217 c217, .slice a218 n218 c218, .slice a219 n219 c219] <|
      .load ⟨p155, 1, none⟩ 1 fun v220 =>
      .exS fun a221 n221 c221 =>
      .isL v220 [.slice a221 n221 c221] <|
      bif ((↑n221 : Int) != 1) then
       (.ret (.bool false))
      else
      (.draw <|
      .load ⟨p45, 0, none⟩ 17 fun v222 =>
      .exI fun i223 =>
      .exI fun i224 =>
      .exI fun i225 =>
      .exI fun i226 =>
      .exI fun i227 =>
      .exI fun i228 =>
      .exS fun a229 n229 c229 =>
      .exS fun a230 n230 c230 =>
      .exI fun i231 =>
      .exI fun i232 =>
      .exI fun i233 =>
      .exS fun a234 n234 c234 =>
      .exS fun a235 n235 c235 =>
      .exS fun a236 n236 c236 =>
      .exS fun a237 n237 c237 =>
      .exI fun i238 =>
      .exS fun a239 n239 c239 =>
      .isL v222 [.int .u64 i223, .int .i64 i224, .int .i64 i225, .int .i64 i226, .int .u64 i227, .int .u64 i228, .slice a229 n229 c229, .slice a230 n230 c230, .int .u64 i231, .int .i64 i232, .int .i64 i233, .slice a234 n234 c234, .slice a235 n235 c235, .slice a236 n236 c236, .slice a237 n237 c237, .int .u64 i238, .slice a239 n239 c239] <|
      .load ⟨p155, 1, none⟩ 1 fun v240 =>
      .exS fun a241 n241 c241 =>
      .isL v240 [.slice a241 n241 c241] <|
      .some a241 fun x242 =>
      .need ((0 : Int) ≤ 0 ∧ 0 < (↑n241 : Int)) <|
      .load x242 21 fun v243 =>
      .exI fun i244 =>
      .exI fun i245 =>
      .exI fun i246 =>
      .exI fun i247 =>
      .exI fun i248 =>
      .exI fun i249 =>
      .exS fun a250 n250 c250 =>
      .exI fun i251 =>
      .exI fun i252 =>
      .exB fun b253 =>
      .exI fun i254 =>
      .exI fun i255 =>
      .exS fun a256 n256 c256 =>
      .exI fun i257 =>
      .exI fun i258 =>
      .exI fun i259 =>
      .exT fun s260 =>
      .exT fun s261 =>
      .exI fun i262 =>
      .exI fun i263 =>
      .exT fun s264 =>
      .isL v243 [.int .i64 i244, .int .i64 i245, .int .i64 i246, .int .u64 i247, .int .u64 i248, .int .u64 i249, .slice a250 n250 c250, .int .u64 i251, .int .u64 i252, .bool b253, .int .u64 i254, .int .u64 i255, .slice a256 n256 c256, .int .i64 i257, .int .i64 i258, .int .u64 i259, .string s260, .string s261, .int .u64 i262, .int .i64 i263, .string s264] <|
      .call 38 ([.agg #[.int .u64 i223, .int .i64 i224, .int .i64 i225, .int .i64 i226, .int .u64 i227, .int .u64 i228, .slice a229 n229 c229, .slice a230 n230 c230, .int .u64 i231, .int .i64 i232, .int .i64 i233, .slice a234 n234 c234, .slice a235 n235 c235, .slice a236 n236 c236, .slice a237 n237 c237, .int .u64 i238, .slice a239 n239 c239], .agg #[.int .i64 i244, .int .i64 i245, .int .i64 i246, .int .u64 i247, .int .u64 i248, .int .u64 i249, .slice a250 n250 c250, .int .u64 i251, .int .u64 i252, .bool b253, .int .u64 i254, .int .u64 i255, .slice a256 n256 c256, .int .i64 i257, .int .i64 i258, .int .u64 i259, .string s260, .string s261, .int .u64 i262, .int .i64 i263, .string s264]]) fun v265 =>
      .exI fun i266 =>
      .exI fun i267 =>
      .exI fun i268 =>
      .exI fun i269 =>
      .exI fun i270 =>
      .exI fun i271 =>
      .exS fun a272 n272 c272 =>
      .exS fun a273 n273 c273 =>
      .exI fun i274 =>
      .exI fun i275 =>
      .exI fun i276 =>
      .exS fun a277 n277 c277 =>
      .exS fun a278 n278 c278 =>
      .exS fun a279 n279 c279 =>
      .exS fun a280 n280 c280 =>
      .exI fun i281 =>
      .exS fun a282 n282 c282 =>
      .exS fun a283 n283 c283 =>
      .exS fun a284 n284 c284 =>
      .exS fun a285 n285 c285 =>
      .isL [v265] [.tuple #[.agg #[.int .u64 i266, .int .i64 i267, .int .i64 i268, .int .i64 i269, .int .u64 i270, .int .u64 i271, .slice a272 n272 c272, .slice a273 n273 c273, .int .u64 i274, .int .i64 i275, .int .i64 i276, .slice a277 n277 c277, .slice a278 n278 c278, .slice a279 n279 c279, .slice a280 n280 c280, .int .u64 i281, .slice a282 n282 c282], .agg #[.slice a283 n283 c283, .slice a284 n284 c284, .slice a285 n285 c285]]] <|
      .store ⟨p45, 0, none⟩ [.int .u64 i266, .int .i64 i267, .int .i64 i268, .int .i64 i269, .int .u64 i270, .int .u64 i271, .slice a272 n272 c272, .slice a273 n273 c273, .int .u64 i274, .int .i64 i275, .int .i64 i276, .slice a277 n277 c277, .slice a278 n278 c278, .slice a279 n279 c279, .slice a280 n280 c280, .int .u64 i281, .slice a282 n282 c282] <|
      .store ⟨p143, 0, none⟩ [.slice a283 n283 c283, .slice a284 n284 c284, .slice a285 n285 c285] <|
      .again 0 [.int .i64 (IntKind.i64.wrap (i147 + 1))])))
     else
     (.load ⟨p45, 0, none⟩ 17 fun v286 =>
     .exI fun i287 =>
     .exI fun i288 =>
     .exI fun i289 =>
     .exI fun i290 =>
     .exI fun i291 =>
     .exI fun i292 =>
     .exS fun a293 n293 c293 =>
     .exS fun a294 n294 c294 =>
     .exI fun i295 =>
     .exI fun i296 =>
     .exI fun i297 =>
     .exS fun a298 n298 c298 =>
     .exS fun a299 n299 c299 =>
     .exS fun a300 n300 c300 =>
     .exS fun a301 n301 c301 =>
     .exI fun i302 =>
     .exS fun a303 n303 c303 =>
     .isL v286 [.int .u64 i287, .int .i64 i288, .int .i64 i289, .int .i64 i290, .int .u64 i291, .int .u64 i292, .slice a293 n293 c293, .slice a294 n294 c294, .int .u64 i295, .int .i64 i296, .int .i64 i297, .slice a298 n298 c298, .slice a299 n299 c299, .slice a300 n300 c300, .slice a301 n301 c301, .int .u64 i302, .slice a303 n303 c303] <|
     .call 41 ([.agg #[.int .u64 i287, .int .i64 i288, .int .i64 i289, .int .i64 i290, .int .u64 i291, .int .u64 i292, .slice a293 n293 c293, .slice a294 n294 c294, .int .u64 i295, .int .i64 i296, .int .i64 i297, .slice a298 n298 c298, .slice a299 n299 c299, .slice a300 n300 c300, .slice a301 n301 c301, .int .u64 i302, .slice a303 n303 c303]]) fun v304 =>
     .exI fun i305 =>
     .exI fun i306 =>
     .exI fun i307 =>
     .exI fun i308 =>
     .exI fun i309 =>
     .exI fun i310 =>
     .exS fun a311 n311 c311 =>
     .exS fun a312 n312 c312 =>
     .exI fun i313 =>
     .exI fun i314 =>
     .exI fun i315 =>
     .exS fun a316 n316 c316 =>
     .exS fun a317 n317 c317 =>
     .exS fun a318 n318 c318 =>
     .exS fun a319 n319 c319 =>
     .exI fun i320 =>
     .exS fun a321 n321 c321 =>
     .exS fun a322 n322 c322 =>
     .exS fun a323 n323 c323 =>
     .exS fun a324 n324 c324 =>
     .isL [v304] [.tuple #[.agg #[.int .u64 i305, .int .i64 i306, .int .i64 i307, .int .i64 i308, .int .u64 i309, .int .u64 i310, .slice a311 n311 c311, .slice a312 n312 c312, .int .u64 i313, .int .i64 i314, .int .i64 i315, .slice a316 n316 c316, .slice a317 n317 c317, .slice a318 n318 c318, .slice a319 n319 c319, .int .u64 i320, .slice a321 n321 c321], .agg #[.slice a322 n322 c322, .slice a323 n323 c323, .slice a324 n324 c324]]] <|
     .store ⟨p45, 0, none⟩ [.int .u64 i305, .int .i64 i306, .int .i64 i307, .int .i64 i308, .int .u64 i309, .int .u64 i310, .slice a311 n311 c311, .slice a312 n312 c312, .int .u64 i313, .int .i64 i314, .int .i64 i315, .slice a316 n316 c316, .slice a317 n317 c317, .slice a318 n318 c318, .slice a319 n319 c319, .int .u64 i320, .slice a321 n321 c321] <|
     .store ⟨p143, 0, none⟩ [.slice a322 n322 c322, .slice a323 n323 c323, .slice a324 n324 c324] <|
     .load ⟨p143, 1, none⟩ 1 fun v325 =>
     .exS fun a326 n326 c326 =>
     .isL v325 [.slice a326 n326 c326] <|
     bif ((↑n326 : Int) != 1) then
      (.ret (.bool false))
     else
     (.draw <|
     .load ⟨p64, 0, none⟩ 17 fun v327 =>
     .exI fun i328 =>
     .exI fun i329 =>
     .exI fun i330 =>
     .exI fun i331 =>
     .exI fun i332 =>
     .exI fun i333 =>
     .exS fun a334 n334 c334 =>
     .exS fun a335 n335 c335 =>
     .exI fun i336 =>
     .exI fun i337 =>
     .exI fun i338 =>
     .exS fun a339 n339 c339 =>
     .exS fun a340 n340 c340 =>
     .exS fun a341 n341 c341 =>
     .exS fun a342 n342 c342 =>
     .exI fun i343 =>
     .exS fun a344 n344 c344 =>
     .isL v327 [.int .u64 i328, .int .i64 i329, .int .i64 i330, .int .i64 i331, .int .u64 i332, .int .u64 i333, .slice a334 n334 c334, .slice a335 n335 c335, .int .u64 i336, .int .i64 i337, .int .i64 i338, .slice a339 n339 c339, .slice a340 n340 c340, .slice a341 n341 c341, .slice a342 n342 c342, .int .u64 i343, .slice a344 n344 c344] <|
     .load ⟨p143, 1, none⟩ 1 fun v345 =>
     .exS fun a346 n346 c346 =>
     .isL v345 [.slice a346 n346 c346] <|
     .some a346 fun x347 =>
     .need ((0 : Int) ≤ 0 ∧ 0 < (↑n346 : Int)) <|
     .load x347 21 fun v348 =>
     .exI fun i349 =>
     .exI fun i350 =>
     .exI fun i351 =>
     .exI fun i352 =>
     .exI fun i353 =>
     .exI fun i354 =>
     .exS fun a355 n355 c355 =>
     .exI fun i356 =>
     .exI fun i357 =>
     .exB fun b358 =>
     .exI fun i359 =>
     .exI fun i360 =>
     .exS fun a361 n361 c361 =>
     .exI fun i362 =>
     .exI fun i363 =>
     .exI fun i364 =>
     .exT fun s365 =>
     .exT fun s366 =>
     .exI fun i367 =>
     .exI fun i368 =>
     .exT fun s369 =>
     .isL v348 [.int .i64 i349, .int .i64 i350, .int .i64 i351, .int .u64 i352, .int .u64 i353, .int .u64 i354, .slice a355 n355 c355, .int .u64 i356, .int .u64 i357, .bool b358, .int .u64 i359, .int .u64 i360, .slice a361 n361 c361, .int .i64 i362, .int .i64 i363, .int .u64 i364, .string s365, .string s366, .int .u64 i367, .int .i64 i368, .string s369] <|
     .call 38 ([.agg #[.int .u64 i328, .int .i64 i329, .int .i64 i330, .int .i64 i331, .int .u64 i332, .int .u64 i333, .slice a334 n334 c334, .slice a335 n335 c335, .int .u64 i336, .int .i64 i337, .int .i64 i338, .slice a339 n339 c339, .slice a340 n340 c340, .slice a341 n341 c341, .slice a342 n342 c342, .int .u64 i343, .slice a344 n344 c344], .agg #[.int .i64 i349, .int .i64 i350, .int .i64 i351, .int .u64 i352, .int .u64 i353, .int .u64 i354, .slice a355 n355 c355, .int .u64 i356, .int .u64 i357, .bool b358, .int .u64 i359, .int .u64 i360, .slice a361 n361 c361, .int .i64 i362, .int .i64 i363, .int .u64 i364, .string s365, .string s366, .int .u64 i367, .int .i64 i368, .string s369]]) fun v370 =>
     .exI fun i371 =>
     .exI fun i372 =>
     .exI fun i373 =>
     .exI fun i374 =>
     .exI fun i375 =>
     .exI fun i376 =>
     .exS fun a377 n377 c377 =>
     .exS fun a378 n378 c378 =>
     .exI fun i379 =>
     .exI fun i380 =>
     .exI fun i381 =>
     .exS fun a382 n382 c382 =>
     .exS fun a383 n383 c383 =>
     .exS fun a384 n384 c384 =>
     .exS fun a385 n385 c385 =>
     .exI fun i386 =>
     .exS fun a387 n387 c387 =>
     .exS fun a388 n388 c388 =>
     .exS fun a389 n389 c389 =>
     .exS fun a390 n390 c390 =>
     .isL [v370] [.tuple #[.agg #[.int .u64 i371, .int .i64 i372, .int .i64 i373, .int .i64 i374, .int .u64 i375, .int .u64 i376, .slice a377 n377 c377, .slice a378 n378 c378, .int .u64 i379, .int .i64 i380, .int .i64 i381, .slice a382 n382 c382, .slice a383 n383 c383, .slice a384 n384 c384, .slice a385 n385 c385, .int .u64 i386, .slice a387 n387 c387], .agg #[.slice a388 n388 c388, .slice a389 n389 c389, .slice a390 n390 c390]]] <|
     .store ⟨p64, 0, none⟩ [.int .u64 i371, .int .i64 i372, .int .i64 i373, .int .i64 i374, .int .u64 i375, .int .u64 i376, .slice a377 n377 c377, .slice a378 n378 c378, .int .u64 i379, .int .i64 i380, .int .i64 i381, .slice a382 n382 c382, .slice a383 n383 c383, .slice a384 n384 c384, .slice a385 n385 c385, .int .u64 i386, .slice a387 n387 c387] <|
     .load ⟨p45, 7, none⟩ 1 fun v391 =>
     .exS fun a392 n392 c392 =>
     .isL v391 [.slice a392 n392 c392] <|
     .load ⟨p64, 7, none⟩ 1 fun v393 =>
     .exS fun a394 n394 c394 =>
     .isL v393 [.slice a394 n394 c394] <|
     .call 48 ([.slice a392 n392 c392, .slice a394 n394 c394]) fun v395 =>
     .exB fun b396 =>
     .isL [v395] [.bool b396] <|
     bif b396 then
      (.load ⟨p45, 8, none⟩ 1 fun v397 =>
      .exI fun i398 =>
      .isL v397 [.int .u64 i398] <|
      bif (i398 == IntKind.u64.wrap (IntKind.u64.wrap (↑ln : Int) + 1)) then
       (.load ⟨p64, 8, none⟩ 1 fun v399 =>
       .exI fun i400 =>
       .isL v399 [.int .u64 i400] <|
       bif (i400 == IntKind.u64.wrap (IntKind.u64.wrap (↑ln : Int) + 1)) then
        (.load ⟨p45, 7, none⟩ 1 fun v401 =>
        .exS fun a402 n402 c402 =>
        .isL v401 [.slice a402 n402 c402] <|
        .ret (.bool ((↑n402 : Int) == IntKind.i64.wrap ((↑ln : Int) + 1))))
       else
       (.ret (.bool false)))
      else
      (.ret (.bool false)))
     else
     (.ret (.bool false)))))
    else
    (.load ⟨p45, 0, none⟩ 17 fun v403 =>
    .exI fun i404 =>
    .exI fun i405 =>
    .exI fun i406 =>
    .exI fun i407 =>
    .exI fun i408 =>
    .exI fun i409 =>
    .exS fun a410 n410 c410 =>
    .exS fun a411 n411 c411 =>
    .exI fun i412 =>
    .exI fun i413 =>
    .exI fun i414 =>
    .exS fun a415 n415 c415 =>
    .exS fun a416 n416 c416 =>
    .exS fun a417 n417 c417 =>
    .exS fun a418 n418 c418 =>
    .exI fun i419 =>
    .exS fun a420 n420 c420 =>
    .isL v403 [.int .u64 i404, .int .i64 i405, .int .i64 i406, .int .i64 i407, .int .u64 i408, .int .u64 i409, .slice a410 n410 c410, .slice a411 n411 c411, .int .u64 i412, .int .i64 i413, .int .i64 i414, .slice a415 n415 c415, .slice a416 n416 c416, .slice a417 n417 c417, .slice a418 n418 c418, .int .u64 i419, .slice a420 n420 c420] <|
    .call 41 ([.agg #[.int .u64 i404, .int .i64 i405, .int .i64 i406, .int .i64 i407, .int .u64 i408, .int .u64 i409, .slice a410 n410 c410, .slice a411 n411 c411, .int .u64 i412, .int .i64 i413, .int .i64 i414, .slice a415 n415 c415, .slice a416 n416 c416, .slice a417 n417 c417, .slice a418 n418 c418, .int .u64 i419, .slice a420 n420 c420]]) fun v421 =>
    .exI fun i422 =>
    .exI fun i423 =>
    .exI fun i424 =>
    .exI fun i425 =>
    .exI fun i426 =>
    .exI fun i427 =>
    .exS fun a428 n428 c428 =>
    .exS fun a429 n429 c429 =>
    .exI fun i430 =>
    .exI fun i431 =>
    .exI fun i432 =>
    .exS fun a433 n433 c433 =>
    .exS fun a434 n434 c434 =>
    .exS fun a435 n435 c435 =>
    .exS fun a436 n436 c436 =>
    .exI fun i437 =>
    .exS fun a438 n438 c438 =>
    .exS fun a439 n439 c439 =>
    .exS fun a440 n440 c440 =>
    .exS fun a441 n441 c441 =>
    .isL [v421] [.tuple #[.agg #[.int .u64 i422, .int .i64 i423, .int .i64 i424, .int .i64 i425, .int .u64 i426, .int .u64 i427, .slice a428 n428 c428, .slice a429 n429 c429, .int .u64 i430, .int .i64 i431, .int .i64 i432, .slice a433 n433 c433, .slice a434 n434 c434, .slice a435 n435 c435, .slice a436 n436 c436, .int .u64 i437, .slice a438 n438 c438], .agg #[.slice a439 n439 c439, .slice a440 n440 c440, .slice a441 n441 c441]]] <|
    .store ⟨p45, 0, none⟩ [.int .u64 i422, .int .i64 i423, .int .i64 i424, .int .i64 i425, .int .u64 i426, .int .u64 i427, .slice a428 n428 c428, .slice a429 n429 c429, .int .u64 i430, .int .i64 i431, .int .i64 i432, .slice a433 n433 c433, .slice a434 n434 c434, .slice a435 n435 c435, .slice a436 n436 c436, .int .u64 i437, .slice a438 n438 c438] <|
    .store ⟨p143, 0, none⟩ [.slice a439 n439 c439, .slice a440 n440 c440, .slice a441 n441 c441] <|
    .load ⟨p143, 1, none⟩ 1 fun v442 =>
    .exS fun a443 n443 c443 =>
    .isL v442 [.slice a443 n443 c443] <|
    bif ((↑n443 : Int) != 1) then
     (.ret (.bool false))
    else
    (.draw <|
    .load ⟨p64, 0, none⟩ 17 fun v444 =>
    .exI fun i445 =>
    .exI fun i446 =>
    .exI fun i447 =>
    .exI fun i448 =>
    .exI fun i449 =>
    .exI fun i450 =>
    .exS fun a451 n451 c451 =>
    .exS fun a452 n452 c452 =>
    .exI fun i453 =>
    .exI fun i454 =>
    .exI fun i455 =>
    .exS fun a456 n456 c456 =>
    .exS fun a457 n457 c457 =>
    .exS fun a458 n458 c458 =>
    .exS fun a459 n459 c459 =>
    .exI fun i460 =>
    .exS fun a461 n461 c461 =>
    .isL v444 [.int .u64 i445, .int .i64 i446, .int .i64 i447, .int .i64 i448, .int .u64 i449, .int .u64 i450, .slice a451 n451 c451, .slice a452 n452 c452, .int .u64 i453, .int .i64 i454, .int .i64 i455, .slice a456 n456 c456, .slice a457 n457 c457, .slice a458 n458 c458, .slice a459 n459 c459, .int .u64 i460, .slice a461 n461 c461] <|
    .load ⟨p143, 1, none⟩ 1 fun v462 =>
    .exS fun a463 n463 c463 =>
    .isL v462 [.slice a463 n463 c463] <|
    .some a463 fun x464 =>
    .need ((0 : Int) ≤ 0 ∧ 0 < (↑n463 : Int)) <|
    .load x464 21 fun v465 =>
    .exI fun i466 =>
    .exI fun i467 =>
    .exI fun i468 =>
    .exI fun i469 =>
    .exI fun i470 =>
    .exI fun i471 =>
    .exS fun a472 n472 c472 =>
    .exI fun i473 =>
    .exI fun i474 =>
    .exB fun b475 =>
    .exI fun i476 =>
    .exI fun i477 =>
    .exS fun a478 n478 c478 =>
    .exI fun i479 =>
    .exI fun i480 =>
    .exI fun i481 =>
    .exT fun s482 =>
    .exT fun s483 =>
    .exI fun i484 =>
    .exI fun i485 =>
    .exT fun s486 =>
    .isL v465 [.int .i64 i466, .int .i64 i467, .int .i64 i468, .int .u64 i469, .int .u64 i470, .int .u64 i471, .slice a472 n472 c472, .int .u64 i473, .int .u64 i474, .bool b475, .int .u64 i476, .int .u64 i477, .slice a478 n478 c478, .int .i64 i479, .int .i64 i480, .int .u64 i481, .string s482, .string s483, .int .u64 i484, .int .i64 i485, .string s486] <|
    .call 38 ([.agg #[.int .u64 i445, .int .i64 i446, .int .i64 i447, .int .i64 i448, .int .u64 i449, .int .u64 i450, .slice a451 n451 c451, .slice a452 n452 c452, .int .u64 i453, .int .i64 i454, .int .i64 i455, .slice a456 n456 c456, .slice a457 n457 c457, .slice a458 n458 c458, .slice a459 n459 c459, .int .u64 i460, .slice a461 n461 c461], .agg #[.int .i64 i466, .int .i64 i467, .int .i64 i468, .int .u64 i469, .int .u64 i470, .int .u64 i471, .slice a472 n472 c472, .int .u64 i473, .int .u64 i474, .bool b475, .int .u64 i476, .int .u64 i477, .slice a478 n478 c478, .int .i64 i479, .int .i64 i480, .int .u64 i481, .string s482, .string s483, .int .u64 i484, .int .i64 i485, .string s486]]) fun v487 =>
    .exI fun i488 =>
    .exI fun i489 =>
    .exI fun i490 =>
    .exI fun i491 =>
    .exI fun i492 =>
    .exI fun i493 =>
    .exS fun a494 n494 c494 =>
    .exS fun a495 n495 c495 =>
    .exI fun i496 =>
    .exI fun i497 =>
    .exI fun i498 =>
    .exS fun a499 n499 c499 =>
    .exS fun a500 n500 c500 =>
    .exS fun a501 n501 c501 =>
    .exS fun a502 n502 c502 =>
    .exI fun i503 =>
    .exS fun a504 n504 c504 =>
    .exS fun a505 n505 c505 =>
    .exS fun a506 n506 c506 =>
    .exS fun a507 n507 c507 =>
    .isL [v487] [.tuple #[.agg #[.int .u64 i488, .int .i64 i489, .int .i64 i490, .int .i64 i491, .int .u64 i492, .int .u64 i493, .slice a494 n494 c494, .slice a495 n495 c495, .int .u64 i496, .int .i64 i497, .int .i64 i498, .slice a499 n499 c499, .slice a500 n500 c500, .slice a501 n501 c501, .slice a502 n502 c502, .int .u64 i503, .slice a504 n504 c504], .agg #[.slice a505 n505 c505, .slice a506 n506 c506, .slice a507 n507 c507]]] <|
    .store ⟨p64, 0, none⟩ [.int .u64 i488, .int .i64 i489, .int .i64 i490, .int .i64 i491, .int .u64 i492, .int .u64 i493, .slice a494 n494 c494, .slice a495 n495 c495, .int .u64 i496, .int .i64 i497, .int .i64 i498, .slice a499 n499 c499, .slice a500 n500 c500, .slice a501 n501 c501, .slice a502 n502 c502, .int .u64 i503, .slice a504 n504 c504] <|
    .load ⟨p45, 7, none⟩ 1 fun v508 =>
    .exS fun a509 n509 c509 =>
    .isL v508 [.slice a509 n509 c509] <|
    .load ⟨p64, 7, none⟩ 1 fun v510 =>
    .exS fun a511 n511 c511 =>
    .isL v510 [.slice a511 n511 c511] <|
    .call 48 ([.slice a509 n509 c509, .slice a511 n511 c511]) fun v512 =>
    .exB fun b513 =>
    .isL [v512] [.bool b513] <|
    bif b513 then
     (.load ⟨p45, 8, none⟩ 1 fun v514 =>
     .exI fun i515 =>
     .isL v514 [.int .u64 i515] <|
     bif (i515 == IntKind.u64.wrap (IntKind.u64.wrap (↑ln : Int) + 1)) then
      (.load ⟨p64, 8, none⟩ 1 fun v516 =>
      .exI fun i517 =>
      .isL v516 [.int .u64 i517] <|
      bif (i517 == IntKind.u64.wrap (IntKind.u64.wrap (↑ln : Int) + 1)) then
       (.load ⟨p45, 7, none⟩ 1 fun v518 =>
       .exS fun a519 n519 c519 =>
       .isL v518 [.slice a519 n519 c519] <|
       .ret (.bool ((↑n519 : Int) == IntKind.i64.wrap ((↑ln : Int) + 1))))
      else
      (.ret (.bool false)))
     else
     (.ret (.bool false)))
    else
    (.ret (.bool false)))))))))))))
theorem e19 (la : Option Addr) (ln : Nat) (lc : Nat) (ma : Option Addr) (mn : Nat) (mc : Nat) : genFn Try.prog lv19 noM Try.f19 [.slice la ln lc, .slice ma mn mc] = t19 la ln lc ma mn mc := by kernel_rfl
theorem r19 (la : Option Addr) (ln : Nat) (lc : Nat) (ma : Option Addr) (mn : Nat) (mc : Nat) {R : Value → World → Prop} {w : World} (h : (t19 la ln lc ma mn mc).wp Try.prog R (fun _ _ _ => False) w) : Runs Try.prog 19 [.slice la ln lc, .slice ma mn mc] w R :=
 genFn_runs mixed lv19 noM Try.func19 (by kernel_rfl) (by rw [e19]; exact h)
end Go.Proofs.Ytnbfffmdplcajaa
