/- The trees of verification conditions of functions 5: printed by a program of mine, checked here. -/
import Derived.Test.YtnbfffmdplcajaaTree0
set_option linter.unusedVariables false
set_option maxRecDepth 100000
namespace Go.Proofs.Ytnbfffmdplcajaa
open Go.Vc
def lv5 : Marks := (fun | some 7 => some [(7, .int .i64 0)] | _ => none)
def ct5 : Marks := (fun | some 10 => some [(8, .pointer none), (9, .pointer none), (10, .bool false)] | _ => none)
def t5 (la : Option Addr) (ln : Nat) (lc : Nat) (id : Int) : VC :=
 .call 22 ([]) fun v1 =>
 .exB fun b2 =>
 .isL [v1] [.bool b2] <|
 bif !b2 then
  (.ret (.bool false))
 else
 (bif (decide ((↑ln : Int) > 10)) then
  (.ret (.bool true))
 else
 (.call 23 ([.int .i64 1, .int .i64 1, .agg #[.int .u64 0, .int .i64 0, .int .u64 0, .int .u64 0, .slice none 0 0, .slice none 0 0]]) fun v3 =>
 .exI fun i4 =>
 .exI fun i5 =>
 .exI fun i6 =>
 .exI fun i7 =>
 .exI fun i8 =>
 .exI fun i9 =>
 .exS fun a10 n10 c10 =>
 .exS fun a11 n11 c11 =>
 .exI fun i12 =>
 .exI fun i13 =>
 .exI fun i14 =>
 .exS fun a15 n15 c15 =>
 .exS fun a16 n16 c16 =>
 .exS fun a17 n17 c17 =>
 .exS fun a18 n18 c18 =>
 .exI fun i19 =>
 .exS fun a20 n20 c20 =>
 .isL [v3] [.agg #[.int .u64 i4, .int .i64 i5, .int .i64 i6, .int .i64 i7, .int .u64 i8, .int .u64 i9, .slice a10 n10 c10, .slice a11 n11 c11, .int .u64 i12, .int .i64 i13, .int .i64 i14, .slice a15 n15 c15, .slice a16 n16 c16, .slice a17 n17 c17, .slice a18 n18 c18, .int .u64 i19, .slice a20 n20 c20]] <|
 .call 32 ([.agg #[.int .u64 i4, .int .i64 i5, .int .i64 i6, .int .i64 i7, .int .u64 i8, .int .u64 i9, .slice a10 n10 c10, .slice a11 n11 c11, .int .u64 i12, .int .i64 i13, .int .i64 i14, .slice a15 n15 c15, .slice a16 n16 c16, .slice a17 n17 c17, .slice a18 n18 c18, .int .u64 i19, .slice a20 n20 c20]]) fun v21 =>
 .exI fun i22 =>
 .exI fun i23 =>
 .exI fun i24 =>
 .exI fun i25 =>
 .exI fun i26 =>
 .exI fun i27 =>
 .exS fun a28 n28 c28 =>
 .exS fun a29 n29 c29 =>
 .exI fun i30 =>
 .exI fun i31 =>
 .exI fun i32 =>
 .exS fun a33 n33 c33 =>
 .exS fun a34 n34 c34 =>
 .exS fun a35 n35 c35 =>
 .exS fun a36 n36 c36 =>
 .exI fun i37 =>
 .exS fun a38 n38 c38 =>
 .exS fun a39 n39 c39 =>
 .exS fun a40 n40 c40 =>
 .exS fun a41 n41 c41 =>
 .isL [v21] [.tuple #[.agg #[.int .u64 i22, .int .i64 i23, .int .i64 i24, .int .i64 i25, .int .u64 i26, .int .u64 i27, .slice a28 n28 c28, .slice a29 n29 c29, .int .u64 i30, .int .i64 i31, .int .i64 i32, .slice a33 n33 c33, .slice a34 n34 c34, .slice a35 n35 c35, .slice a36 n36 c36, .int .u64 i37, .slice a38 n38 c38], .agg #[.slice a39 n39 c39, .slice a40 n40 c40, .slice a41 n41 c41]]] <|
 .new 36 [.int .u64 0, .int .i64 0, .int .i64 0, .int .i64 0, .int .u64 0, .int .u64 0, .slice none 0 0, .slice none 0 0, .int .u64 0, .int .i64 0, .int .i64 0, .slice none 0 0, .slice none 0 0, .slice none 0 0, .slice none 0 0, .int .u64 0, .slice none 0 0] fun p42 =>
 .new 48 [.slice none 0 0, .slice none 0 0, .slice none 0 0] fun p43 =>
 .store ⟨p42, 0, none⟩ [.int .u64 i22, .int .i64 i23, .int .i64 i24, .int .i64 i25, .int .u64 i26, .int .u64 i27, .slice a28 n28 c28, .slice a29 n29 c29, .int .u64 i30, .int .i64 i31, .int .i64 i32, .slice a33 n33 c33, .slice a34 n34 c34, .slice a35 n35 c35, .slice a36 n36 c36, .int .u64 i37, .slice a38 n38 c38] <|
 .store ⟨p43, 0, none⟩ [.slice a39 n39 c39, .slice a40 n40 c40, .slice a41 n41 c41] <|
 .loop 0 [.int .i64 0] (fun v44 =>
  .exI fun i45 =>
  .isL v44 [.int .i64 i45] <|
  bif (decide (i45 < (↑ln : Int))) then
   (.cut 1 (.draw <|
    .load ⟨p42, 0, none⟩ 17 fun v46 =>
    .exI fun i47 =>
    .exI fun i48 =>
    .exI fun i49 =>
    .exI fun i50 =>
    .exI fun i51 =>
    .exI fun i52 =>
    .exS fun a53 n53 c53 =>
    .exS fun a54 n54 c54 =>
    .exI fun i55 =>
    .exI fun i56 =>
    .exI fun i57 =>
    .exS fun a58 n58 c58 =>
    .exS fun a59 n59 c59 =>
    .exS fun a60 n60 c60 =>
    .exS fun a61 n61 c61 =>
    .exI fun i62 =>
    .exS fun a63 n63 c63 =>
    .isL v46 [.int .u64 i47, .int .i64 i48, .int .i64 i49, .int .i64 i50, .int .u64 i51, .int .u64 i52, .slice a53 n53 c53, .slice a54 n54 c54, .int .u64 i55, .int .i64 i56, .int .i64 i57, .slice a58 n58 c58, .slice a59 n59 c59, .slice a60 n60 c60, .slice a61 n61 c61, .int .u64 i62, .slice a63 n63 c63] <|
    .some la fun x64 =>
    .need ((0 : Int) ≤ i45 ∧ i45 < (↑ln : Int)) <|
    .load (x64.add (i45.toNat * 1)) 1 fun v65 =>
    .exS fun a66 n66 c66 =>
    .isL v65 [.slice a66 n66 c66] <|
    .both
     (.call 33 ([.agg #[.int .u64 i47, .int .i64 i48, .int .i64 i49, .int .i64 i50, .int .u64 i51, .int .u64 i52, .slice a53 n53 c53, .slice a54 n54 c54, .int .u64 i55, .int .i64 i56, .int .i64 i57, .slice a58 n58 c58, .slice a59 n59 c59, .slice a60 n60 c60, .slice a61 n61 c61, .int .u64 i62, .slice a63 n63 c63], .slice a66 n66 c66]) fun v67 =>
     .exI fun i68 =>
     .exI fun i69 =>
     .exI fun i70 =>
     .exI fun i71 =>
     .exI fun i72 =>
     .exI fun i73 =>
     .exS fun a74 n74 c74 =>
     .exS fun a75 n75 c75 =>
     .exI fun i76 =>
     .exI fun i77 =>
     .exI fun i78 =>
     .exS fun a79 n79 c79 =>
     .exS fun a80 n80 c80 =>
     .exS fun a81 n81 c81 =>
     .exS fun a82 n82 c82 =>
     .exI fun i83 =>
     .exS fun a84 n84 c84 =>
     .exS fun a85 n85 c85 =>
     .exS fun a86 n86 c86 =>
     .exS fun a87 n87 c87 =>
     .exB fun b88 =>
     .isL [v67] [.tuple #[.agg #[.int .u64 i68, .int .i64 i69, .int .i64 i70, .int .i64 i71, .int .u64 i72, .int .u64 i73, .slice a74 n74 c74, .slice a75 n75 c75, .int .u64 i76, .int .i64 i77, .int .i64 i78, .slice a79 n79 c79, .slice a80 n80 c80, .slice a81 n81 c81, .slice a82 n82 c82, .int .u64 i83, .slice a84 n84 c84], .agg #[.slice a85 n85 c85, .slice a86 n86 c86, .slice a87 n87 c87], .bool b88]] <|
     .both
      (.new 36 [.int .u64 0, .int .i64 0, .int .i64 0, .int .i64 0, .int .u64 0, .int .u64 0, .slice none 0 0, .slice none 0 0, .int .u64 0, .int .i64 0, .int .i64 0, .slice none 0 0, .slice none 0 0, .slice none 0 0, .slice none 0 0, .int .u64 0, .slice none 0 0] fun p89 =>
      .new 48 [.slice none 0 0, .slice none 0 0, .slice none 0 0] fun p90 =>
      .store ⟨p89, 0, none⟩ [.int .u64 i68, .int .i64 i69, .int .i64 i70, .int .i64 i71, .int .u64 i72, .int .u64 i73, .slice a74 n74 c74, .slice a75 n75 c75, .int .u64 i76, .int .i64 i77, .int .i64 i78, .slice a79 n79 c79, .slice a80 n80 c80, .slice a81 n81 c81, .slice a82 n82 c82, .int .u64 i83, .slice a84 n84 c84] <|
      .store ⟨p90, 0, none⟩ [.slice a85 n85 c85, .slice a86 n86 c86, .slice a87 n87 c87] <|
      .again 1 [.pointer (some ⟨p89, 0, none⟩), .pointer (some ⟨p90, 0, none⟩), .bool b88])
     (.new 48 [.slice none 0 0, .slice none 0 0, .slice none 0 0] fun p91 =>
     .new 36 [.int .u64 0, .int .i64 0, .int .i64 0, .int .i64 0, .int .u64 0, .int .u64 0, .slice none 0 0, .slice none 0 0, .int .u64 0, .int .i64 0, .int .i64 0, .slice none 0 0, .slice none 0 0, .slice none 0 0, .slice none 0 0, .int .u64 0, .slice none 0 0] fun p92 =>
     .store ⟨p92, 0, none⟩ [.int .u64 i68, .int .i64 i69, .int .i64 i70, .int .i64 i71, .int .u64 i72, .int .u64 i73, .slice a74 n74 c74, .slice a75 n75 c75, .int .u64 i76, .int .i64 i77, .int .i64 i78, .slice a79 n79 c79, .slice a80 n80 c80, .slice a81 n81 c81, .slice a82 n82 c82, .int .u64 i83, .slice a84 n84 c84] <|
     .store ⟨p91, 0, none⟩ [.slice a85 n85 c85, .slice a86 n86 c86, .slice a87 n87 c87] <|
     .again 1 [.pointer (some ⟨p92, 0, none⟩), .pointer (some ⟨p91, 0, none⟩), .bool b88]))
    (.both
     (.new 36 [.int .u64 0, .int .i64 0, .int .i64 0, .int .i64 0, .int .u64 0, .int .u64 0, .slice none 0 0, .slice none 0 0, .int .u64 0, .int .i64 0, .int .i64 0, .slice none 0 0, .slice none 0 0, .slice none 0 0, .slice none 0 0, .int .u64 0, .slice none 0 0] fun p93 =>
     .both
      (.call 33 ([.agg #[.int .u64 i47, .int .i64 i48, .int .i64 i49, .int .i64 i50, .int .u64 i51, .int .u64 i52, .slice a53 n53 c53, .slice a54 n54 c54, .int .u64 i55, .int .i64 i56, .int .i64 i57, .slice a58 n58 c58, .slice a59 n59 c59, .slice a60 n60 c60, .slice a61 n61 c61, .int .u64 i62, .slice a63 n63 c63], .slice a66 n66 c66]) fun v94 =>
      .exI fun i95 =>
      .exI fun i96 =>
      .exI fun i97 =>
      .exI fun i98 =>
      .exI fun i99 =>
      .exI fun i100 =>
      .exS fun a101 n101 c101 =>
      .exS fun a102 n102 c102 =>
      .exI fun i103 =>
      .exI fun i104 =>
      .exI fun i105 =>
      .exS fun a106 n106 c106 =>
      .exS fun a107 n107 c107 =>
      .exS fun a108 n108 c108 =>
      .exS fun a109 n109 c109 =>
      .exI fun i110 =>
      .exS fun a111 n111 c111 =>
      .exS fun a112 n112 c112 =>
      .exS fun a113 n113 c113 =>
      .exS fun a114 n114 c114 =>
      .exB fun b115 =>
      .isL [v94] [.tuple #[.agg #[.int .u64 i95, .int .i64 i96, .int .i64 i97, .int .i64 i98, .int .u64 i99, .int .u64 i100, .slice a101 n101 c101, .slice a102 n102 c102, .int .u64 i103, .int .i64 i104, .int .i64 i105, .slice a106 n106 c106, .slice a107 n107 c107, .slice a108 n108 c108, .slice a109 n109 c109, .int .u64 i110, .slice a111 n111 c111], .agg #[.slice a112 n112 c112, .slice a113 n113 c113, .slice a114 n114 c114], .bool b115]] <|
      .new 48 [.slice none 0 0, .slice none 0 0, .slice none 0 0] fun p116 =>
      .store ⟨p93, 0, none⟩ [.int .u64 i95, .int .i64 i96, .int .i64 i97, .int .i64 i98, .int .u64 i99, .int .u64 i100, .slice a101 n101 c101, .slice a102 n102 c102, .int .u64 i103, .int .i64 i104, .int .i64 i105, .slice a106 n106 c106, .slice a107 n107 c107, .slice a108 n108 c108, .slice a109 n109 c109, .int .u64 i110, .slice a111 n111 c111] <|
      .store ⟨p116, 0, none⟩ [.slice a112 n112 c112, .slice a113 n113 c113, .slice a114 n114 c114] <|
      .again 1 [.pointer (some ⟨p93, 0, none⟩), .pointer (some ⟨p116, 0, none⟩), .bool b115])
     (.new 48 [.slice none 0 0, .slice none 0 0, .slice none 0 0] fun p117 =>
     .call 33 ([.agg #[.int .u64 i47, .int .i64 i48, .int .i64 i49, .int .i64 i50, .int .u64 i51, .int .u64 i52, .slice a53 n53 c53, .slice a54 n54 c54, .int .u64 i55, .int .i64 i56, .int .i64 i57, .slice a58 n58 c58, .slice a59 n59 c59, .slice a60 n60 c60, .slice a61 n61 c61, .int .u64 i62, .slice a63 n63 c63], .slice a66 n66 c66]) fun v118 =>
     .exI fun i119 =>
     .exI fun i120 =>
     .exI fun i121 =>
     .exI fun i122 =>
     .exI fun i123 =>
     .exI fun i124 =>
     .exS fun a125 n125 c125 =>
     .exS fun a126 n126 c126 =>
     .exI fun i127 =>
     .exI fun i128 =>
     .exI fun i129 =>
     .exS fun a130 n130 c130 =>
     .exS fun a131 n131 c131 =>
     .exS fun a132 n132 c132 =>
     .exS fun a133 n133 c133 =>
     .exI fun i134 =>
     .exS fun a135 n135 c135 =>
     .exS fun a136 n136 c136 =>
     .exS fun a137 n137 c137 =>
     .exS fun a138 n138 c138 =>
     .exB fun b139 =>
     .isL [v118] [.tuple #[.agg #[.int .u64 i119, .int .i64 i120, .int .i64 i121, .int .i64 i122, .int .u64 i123, .int .u64 i124, .slice a125 n125 c125, .slice a126 n126 c126, .int .u64 i127, .int .i64 i128, .int .i64 i129, .slice a130 n130 c130, .slice a131 n131 c131, .slice a132 n132 c132, .slice a133 n133 c133, .int .u64 i134, .slice a135 n135 c135], .agg #[.slice a136 n136 c136, .slice a137 n137 c137, .slice a138 n138 c138], .bool b139]] <|
     .store ⟨p93, 0, none⟩ [.int .u64 i119, .int .i64 i120, .int .i64 i121, .int .i64 i122, .int .u64 i123, .int .u64 i124, .slice a125 n125 c125, .slice a126 n126 c126, .int .u64 i127, .int .i64 i128, .int .i64 i129, .slice a130 n130 c130, .slice a131 n131 c131, .slice a132 n132 c132, .slice a133 n133 c133, .int .u64 i134, .slice a135 n135 c135] <|
     .store ⟨p117, 0, none⟩ [.slice a136 n136 c136, .slice a137 n137 c137, .slice a138 n138 c138] <|
     .again 1 [.pointer (some ⟨p93, 0, none⟩), .pointer (some ⟨p117, 0, none⟩), .bool b139]))
    (.new 48 [.slice none 0 0, .slice none 0 0, .slice none 0 0] fun p140 =>
    .both
     (.call 33 ([.agg #[.int .u64 i47, .int .i64 i48, .int .i64 i49, .int .i64 i50, .int .u64 i51, .int .u64 i52, .slice a53 n53 c53, .slice a54 n54 c54, .int .u64 i55, .int .i64 i56, .int .i64 i57, .slice a58 n58 c58, .slice a59 n59 c59, .slice a60 n60 c60, .slice a61 n61 c61, .int .u64 i62, .slice a63 n63 c63], .slice a66 n66 c66]) fun v141 =>
     .exI fun i142 =>
     .exI fun i143 =>
     .exI fun i144 =>
     .exI fun i145 =>
     .exI fun i146 =>
     .exI fun i147 =>
     .exS fun a148 n148 c148 =>
     .exS fun a149 n149 c149 =>
     .exI fun i150 =>
     .exI fun i151 =>
     .exI fun i152 =>
     .exS fun a153 n153 c153 =>
     .exS fun a154 n154 c154 =>
     .exS fun a155 n155 c155 =>
     .exS fun a156 n156 c156 =>
     .exI fun i157 =>
     .exS fun a158 n158 c158 =>
     .exS fun a159 n159 c159 =>
     .exS fun a160 n160 c160 =>
     .exS fun a161 n161 c161 =>
     .exB fun b162 =>
     .isL [v141] [.tuple #[.agg #[.int .u64 i142, .int .i64 i143, .int .i64 i144, .int .i64 i145, .int .u64 i146, .int .u64 i147, .slice a148 n148 c148, .slice a149 n149 c149, .int .u64 i150, .int .i64 i151, .int .i64 i152, .slice a153 n153 c153, .slice a154 n154 c154, .slice a155 n155 c155, .slice a156 n156 c156, .int .u64 i157, .slice a158 n158 c158], .agg #[.slice a159 n159 c159, .slice a160 n160 c160, .slice a161 n161 c161], .bool b162]] <|
     .new 36 [.int .u64 0, .int .i64 0, .int .i64 0, .int .i64 0, .int .u64 0, .int .u64 0, .slice none 0 0, .slice none 0 0, .int .u64 0, .int .i64 0, .int .i64 0, .slice none 0 0, .slice none 0 0, .slice none 0 0, .slice none 0 0, .int .u64 0, .slice none 0 0] fun p163 =>
     .store ⟨p163, 0, none⟩ [.int .u64 i142, .int .i64 i143, .int .i64 i144, .int .i64 i145, .int .u64 i146, .int .u64 i147, .slice a148 n148 c148, .slice a149 n149 c149, .int .u64 i150, .int .i64 i151, .int .i64 i152, .slice a153 n153 c153, .slice a154 n154 c154, .slice a155 n155 c155, .slice a156 n156 c156, .int .u64 i157, .slice a158 n158 c158] <|
     .store ⟨p140, 0, none⟩ [.slice a159 n159 c159, .slice a160 n160 c160, .slice a161 n161 c161] <|
     .again 1 [.pointer (some ⟨p163, 0, none⟩), .pointer (some ⟨p140, 0, none⟩), .bool b162])
    (.new 36 [.int .u64 0, .int .i64 0, .int .i64 0, .int .i64 0, .int .u64 0, .int .u64 0, .slice none 0 0, .slice none 0 0, .int .u64 0, .int .i64 0, .int .i64 0, .slice none 0 0, .slice none 0 0, .slice none 0 0, .slice none 0 0, .int .u64 0, .slice none 0 0] fun p164 =>
    .call 33 ([.agg #[.int .u64 i47, .int .i64 i48, .int .i64 i49, .int .i64 i50, .int .u64 i51, .int .u64 i52, .slice a53 n53 c53, .slice a54 n54 c54, .int .u64 i55, .int .i64 i56, .int .i64 i57, .slice a58 n58 c58, .slice a59 n59 c59, .slice a60 n60 c60, .slice a61 n61 c61, .int .u64 i62, .slice a63 n63 c63], .slice a66 n66 c66]) fun v165 =>
    .exI fun i166 =>
    .exI fun i167 =>
    .exI fun i168 =>
    .exI fun i169 =>
    .exI fun i170 =>
    .exI fun i171 =>
    .exS fun a172 n172 c172 =>
    .exS fun a173 n173 c173 =>
    .exI fun i174 =>
    .exI fun i175 =>
    .exI fun i176 =>
    .exS fun a177 n177 c177 =>
    .exS fun a178 n178 c178 =>
    .exS fun a179 n179 c179 =>
    .exS fun a180 n180 c180 =>
    .exI fun i181 =>
    .exS fun a182 n182 c182 =>
    .exS fun a183 n183 c183 =>
    .exS fun a184 n184 c184 =>
    .exS fun a185 n185 c185 =>
    .exB fun b186 =>
    .isL [v165] [.tuple #[.agg #[.int .u64 i166, .int .i64 i167, .int .i64 i168, .int .i64 i169, .int .u64 i170, .int .u64 i171, .slice a172 n172 c172, .slice a173 n173 c173, .int .u64 i174, .int .i64 i175, .int .i64 i176, .slice a177 n177 c177, .slice a178 n178 c178, .slice a179 n179 c179, .slice a180 n180 c180, .int .u64 i181, .slice a182 n182 c182], .agg #[.slice a183 n183 c183, .slice a184 n184 c184, .slice a185 n185 c185], .bool b186]] <|
    .store ⟨p164, 0, none⟩ [.int .u64 i166, .int .i64 i167, .int .i64 i168, .int .i64 i169, .int .u64 i170, .int .u64 i171, .slice a172 n172 c172, .slice a173 n173 c173, .int .u64 i174, .int .i64 i175, .int .i64 i176, .slice a177 n177 c177, .slice a178 n178 c178, .slice a179 n179 c179, .slice a180 n180 c180, .int .u64 i181, .slice a182 n182 c182] <|
    .store ⟨p140, 0, none⟩ [.slice a183 n183 c183, .slice a184 n184 c184, .slice a185 n185 c185] <|
    .again 1 [.pointer (some ⟨p164, 0, none⟩), .pointer (some ⟨p140, 0, none⟩), .bool b186])))) (fun v1046 =>
   .exN fun p188 =>
   .exN fun p189 =>
   .exB fun b190 =>
   .isL v1046 [.pointer (some ⟨p188, 0, none⟩), .pointer (some ⟨p189, 0, none⟩), .bool b190] <|
   .draw <|
   bif !b190 then
    (.ret (.bool false))
   else
   (.load ⟨p188, 8, none⟩ 1 fun v191 =>
   .exI fun i192 =>
   .isL v191 [.int .u64 i192] <|
   bif (i192 != IntKind.u64.wrap (IntKind.u64.wrap i45 + 2)) then
    (.ret (.bool false))
   else
   (.load ⟨p189, 0, none⟩ 1 fun v193 =>
   .exS fun a194 n194 c194 =>
   .isL v193 [.slice a194 n194 c194] <|
   bif ((↑n194 : Int) != 1) then
    (.ret (.bool false))
   else
   (.load ⟨p189, 0, none⟩ 1 fun v195 =>
   .exS fun a196 n196 c196 =>
   .isL v195 [.slice a196 n196 c196] <|
   .some a196 fun x197 =>
   .need ((0 : Int) ≤ 0 ∧ 0 < (↑n196 : Int)) <|
   .load ((x197.add 3).add 1) 1 fun v198 =>
   .exS fun a199 n199 c199 =>
   .isL v198 [.slice a199 n199 c199] <|
   .bytes a199 n199 fun s200 =>
   .some la fun x201 =>
   .need ((0 : Int) ≤ i45 ∧ i45 < (↑ln : Int)) <|
   .load (x201.add (i45.toNat * 1)) 1 fun v202 =>
   .exS fun a203 n203 c203 =>
   .isL v202 [.slice a203 n203 c203] <|
   .bytes a203 n203 fun s204 =>
   bif (!s200.toList == s204.toList) then
    (.ret (.bool false))
   else
   (.load ⟨p189, 1, none⟩ 1 fun v205 =>
   .exS fun a206 n206 c206 =>
   .isL v205 [.slice a206 n206 c206] <|
   bif ((↑n206 : Int) != 0) then
    (.ret (.bool false))
   else
   (.load ⟨p188, 0, none⟩ 17 fun v207 =>
   .exI fun i208 =>
   .exI fun i209 =>
   .exI fun i210 =>
   .exI fun i211 =>
   .exI fun i212 =>
   .exI fun i213 =>
   .exS fun a214 n214 c214 =>
   .exS fun a215 n215 c215 =>
   .exI fun i216 =>
   .exI fun i217 =>
   .exI fun i218 =>
   .exS fun a219 n219 c219 =>
   .exS fun a220 n220 c220 =>
   .exS fun a221 n221 c221 =>
   .exS fun a222 n222 c222 =>
   .exI fun i223 =>
   .exS fun a224 n224 c224 =>
   .isL v207 [.int .u64 i208, .int .i64 i209, .int .i64 i210, .int .i64 i211, .int .u64 i212, .int .u64 i213, .slice a214 n214 c214, .slice a215 n215 c215, .int .u64 i216, .int .i64 i217, .int .i64 i218, .slice a219 n219 c219, .slice a220 n220 c220, .slice a221 n221 c221, .slice a222 n222 c222, .int .u64 i223, .slice a224 n224 c224] <|
   .call 34 ([.agg #[.int .u64 i208, .int .i64 i209, .int .i64 i210, .int .i64 i211, .int .u64 i212, .int .u64 i213, .slice a214 n214 c214, .slice a215 n215 c215, .int .u64 i216, .int .i64 i217, .int .i64 i218, .slice a219 n219 c219, .slice a220 n220 c220, .slice a221 n221 c221, .slice a222 n222 c222, .int .u64 i223, .slice a224 n224 c224], .int .u64 id]) fun v225 =>
   .exI fun i226 =>
   .exI fun i227 =>
   .exI fun i228 =>
   .exI fun i229 =>
   .exI fun i230 =>
   .exI fun i231 =>
   .exS fun a232 n232 c232 =>
   .exS fun a233 n233 c233 =>
   .exI fun i234 =>
   .exI fun i235 =>
   .exI fun i236 =>
   .exS fun a237 n237 c237 =>
   .exS fun a238 n238 c238 =>
   .exS fun a239 n239 c239 =>
   .exS fun a240 n240 c240 =>
   .exI fun i241 =>
   .exS fun a242 n242 c242 =>
   .exS fun a243 n243 c243 =>
   .exS fun a244 n244 c244 =>
   .exS fun a245 n245 c245 =>
   .exB fun b246 =>
   .isL [v225] [.tuple #[.agg #[.int .u64 i226, .int .i64 i227, .int .i64 i228, .int .i64 i229, .int .u64 i230, .int .u64 i231, .slice a232 n232 c232, .slice a233 n233 c233, .int .u64 i234, .int .i64 i235, .int .i64 i236, .slice a237 n237 c237, .slice a238 n238 c238, .slice a239 n239 c239, .slice a240 n240 c240, .int .u64 i241, .slice a242 n242 c242], .agg #[.slice a243 n243 c243, .slice a244 n244 c244, .slice a245 n245 c245], .bool b246]] <|
   .new 36 [.int .u64 0, .int .i64 0, .int .i64 0, .int .i64 0, .int .u64 0, .int .u64 0, .slice none 0 0, .slice none 0 0, .int .u64 0, .int .i64 0, .int .i64 0, .slice none 0 0, .slice none 0 0, .slice none 0 0, .slice none 0 0, .int .u64 0, .slice none 0 0] fun p247 =>
   .new 48 [.slice none 0 0, .slice none 0 0, .slice none 0 0] fun p248 =>
   .store ⟨p247, 0, none⟩ [.int .u64 i226, .int .i64 i227, .int .i64 i228, .int .i64 i229, .int .u64 i230, .int .u64 i231, .slice a232 n232 c232, .slice a233 n233 c233, .int .u64 i234, .int .i64 i235, .int .i64 i236, .slice a237 n237 c237, .slice a238 n238 c238, .slice a239 n239 c239, .slice a240 n240 c240, .int .u64 i241, .slice a242 n242 c242] <|
   .store ⟨p248, 0, none⟩ [.slice a243 n243 c243, .slice a244 n244 c244, .slice a245 n245 c245] <|
   .draw <|
   bif !b246 then
    (.ret (.bool false))
   else
   (.load ⟨p248, 2, none⟩ 1 fun v249 =>
   .exS fun a250 n250 c250 =>
   .isL v249 [.slice a250 n250 c250] <|
   bif ((↑n250 : Int) != 1) then
    (.ret (.bool false))
   else
   (.load ⟨p248, 2, none⟩ 1 fun v251 =>
   .exS fun a252 n252 c252 =>
   .isL v251 [.slice a252 n252 c252] <|
   .some a252 fun x253 =>
   .need ((0 : Int) ≤ 0 ∧ 0 < (↑n252 : Int)) <|
   .load x253 1 fun v254 =>
   .exI fun i255 =>
   .isL v254 [.int .u64 i255] <|
   bif (i255 != id) then
    (.ret (.bool false))
   else
   (.load ⟨p248, 2, none⟩ 1 fun v256 =>
   .exS fun a257 n257 c257 =>
   .isL v256 [.slice a257 n257 c257] <|
   .some a257 fun x258 =>
   .need ((0 : Int) ≤ 0 ∧ 0 < (↑n257 : Int)) <|
   .load (x258.add 1) 1 fun v259 =>
   .exI fun i260 =>
   .isL v259 [.int .u64 i260] <|
   .load ⟨p188, 8, none⟩ 1 fun v261 =>
   .exI fun i262 =>
   .isL v261 [.int .u64 i262] <|
   bif (i260 != i262) then
    (.ret (.bool false))
   else
   (.load ⟨p247, 16, none⟩ 1 fun v263 =>
   .exS fun a264 n264 c264 =>
   .isL v263 [.slice a264 n264 c264] <|
   bif ((↑n264 : Int) != 0) then
    (.ret (.bool false))
   else
   (.load ⟨p247, 0, none⟩ 17 fun v265 =>
   .exI fun i266 =>
   .exI fun i267 =>
   .exI fun i268 =>
   .exI fun i269 =>
   .exI fun i270 =>
   .exI fun i271 =>
   .exS fun a272 n272 c272 =>
   .exS fun a273 n273 c273 =>
   .exI fun i274 =>
   .exI fun i275 =>
   .exI fun i276 =>
   .exS fun a277 n277 c277 =>
   .exS fun a278 n278 c278 =>
   .exS fun a279 n279 c279 =>
   .exS fun a280 n280 c280 =>
   .exI fun i281 =>
   .exS fun a282 n282 c282 =>
   .isL v265 [.int .u64 i266, .int .i64 i267, .int .i64 i268, .int .i64 i269, .int .u64 i270, .int .u64 i271, .slice a272 n272 c272, .slice a273 n273 c273, .int .u64 i274, .int .i64 i275, .int .i64 i276, .slice a277 n277 c277, .slice a278 n278 c278, .slice a279 n279 c279, .slice a280 n280 c280, .int .u64 i281, .slice a282 n282 c282] <|
   .store ⟨p42, 0, none⟩ [.int .u64 i266, .int .i64 i267, .int .i64 i268, .int .i64 i269, .int .u64 i270, .int .u64 i271, .slice a272 n272 c272, .slice a273 n273 c273, .int .u64 i274, .int .i64 i275, .int .i64 i276, .slice a277 n277 c277, .slice a278 n278 c278, .slice a279 n279 c279, .slice a280 n280 c280, .int .u64 i281, .slice a282 n282 c282] <|
   .again 0 [.int .i64 (IntKind.i64.wrap (i45 + 1))]))))))))))))
  else
  (.load ⟨p42, 0, none⟩ 17 fun v283 =>
  .exI fun i284 =>
  .exI fun i285 =>
  .exI fun i286 =>
  .exI fun i287 =>
  .exI fun i288 =>
  .exI fun i289 =>
  .exS fun a290 n290 c290 =>
  .exS fun a291 n291 c291 =>
  .exI fun i292 =>
  .exI fun i293 =>
  .exI fun i294 =>
  .exS fun a295 n295 c295 =>
  .exS fun a296 n296 c296 =>
  .exS fun a297 n297 c297 =>
  .exS fun a298 n298 c298 =>
  .exI fun i299 =>
  .exS fun a300 n300 c300 =>
  .isL v283 [.int .u64 i284, .int .i64 i285, .int .i64 i286, .int .i64 i287, .int .u64 i288, .int .u64 i289, .slice a290 n290 c290, .slice a291 n291 c291, .int .u64 i292, .int .i64 i293, .int .i64 i294, .slice a295 n295 c295, .slice a296 n296 c296, .slice a297 n297 c297, .slice a298 n298 c298, .int .u64 i299, .slice a300 n300 c300] <|
  .new 5 [.int .u8 115] fun p301 =>
  .mark ⟨p301, 0, none⟩ <|
  .call 31 ([.agg #[.int .u64 i284, .int .i64 i285, .int .i64 i286, .int .i64 i287, .int .u64 i288, .int .u64 i289, .slice a290 n290 c290, .slice a291 n291 c291, .int .u64 i292, .int .i64 i293, .int .i64 i294, .slice a295 n295 c295, .slice a296 n296 c296, .slice a297 n297 c297, .slice a298 n298 c298, .int .u64 i299, .slice a300 n300 c300], .slice (some ⟨p301, 0, none⟩) 1 1]) fun v302 =>
  .exI fun i303 =>
  .exI fun i304 =>
  .exI fun i305 =>
  .exI fun i306 =>
  .exI fun i307 =>
  .exI fun i308 =>
  .exS fun a309 n309 c309 =>
  .exS fun a310 n310 c310 =>
  .exI fun i311 =>
  .exI fun i312 =>
  .exI fun i313 =>
  .exS fun a314 n314 c314 =>
  .exS fun a315 n315 c315 =>
  .exS fun a316 n316 c316 =>
  .exS fun a317 n317 c317 =>
  .exI fun i318 =>
  .exS fun a319 n319 c319 =>
  .exS fun a320 n320 c320 =>
  .exS fun a321 n321 c321 =>
  .exS fun a322 n322 c322 =>
  .isL [v302] [.tuple #[.agg #[.int .u64 i303, .int .i64 i304, .int .i64 i305, .int .i64 i306, .int .u64 i307, .int .u64 i308, .slice a309 n309 c309, .slice a310 n310 c310, .int .u64 i311, .int .i64 i312, .int .i64 i313, .slice a314 n314 c314, .slice a315 n315 c315, .slice a316 n316 c316, .slice a317 n317 c317, .int .u64 i318, .slice a319 n319 c319], .agg #[.slice a320 n320 c320, .slice a321 n321 c321, .slice a322 n322 c322]]] <|
  .new 36 [.int .u64 0, .int .i64 0, .int .i64 0, .int .i64 0, .int .u64 0, .int .u64 0, .slice none 0 0, .slice none 0 0, .int .u64 0, .int .i64 0, .int .i64 0, .slice none 0 0, .slice none 0 0, .slice none 0 0, .slice none 0 0, .int .u64 0, .slice none 0 0] fun p323 =>
  .new 48 [.slice none 0 0, .slice none 0 0, .slice none 0 0] fun p324 =>
  .store ⟨p323, 0, none⟩ [.int .u64 i303, .int .i64 i304, .int .i64 i305, .int .i64 i306, .int .u64 i307, .int .u64 i308, .slice a309 n309 c309, .slice a310 n310 c310, .int .u64 i311, .int .i64 i312, .int .i64 i313, .slice a314 n314 c314, .slice a315 n315 c315, .slice a316 n316 c316, .slice a317 n317 c317, .int .u64 i318, .slice a319 n319 c319] <|
  .store ⟨p324, 0, none⟩ [.slice a320 n320 c320, .slice a321 n321 c321, .slice a322 n322 c322] <|
  .load ⟨p323, 4, none⟩ 1 fun v325 =>
  .exI fun i326 =>
  .isL v325 [.int .u64 i326] <|
  .load ⟨p42, 8, none⟩ 1 fun v327 =>
  .exI fun i328 =>
  .isL v327 [.int .u64 i328] <|
  bif (i326 == i328) then
   (.load ⟨p323, 7, none⟩ 1 fun v329 =>
   .exS fun a330 n330 c330 =>
   .isL v329 [.slice a330 n330 c330] <|
   bif ((↑n330 : Int) == 0) then
    (.load ⟨p324, 0, none⟩ 1 fun v331 =>
    .exS fun a332 n332 c332 =>
    .isL v331 [.slice a332 n332 c332] <|
    bif ((↑n332 : Int) == 1) then
     (.load ⟨p323, 0, none⟩ 1 fun v333 =>
     .exI fun i334 =>
     .isL v333 [.int .u64 i334] <|
     bif (i334 == 1) then
      (.load ⟨p323, 9, none⟩ 1 fun v335 =>
      .exI fun i336 =>
      .isL v335 [.int .i64 i336] <|
      .ret (.bool (i336 == 2)))
     else
     (.ret (.bool false)))
    else
    (.ret (.bool false)))
   else
   (.ret (.bool false)))
  else
  (.ret (.bool false))))))
theorem e5 (la : Option Addr) (ln : Nat) (lc : Nat) (id : Int) : genFn Try.prog lv5 ct5 Try.f5 [.slice la ln lc, .int .u64 id] = t5 la ln lc id := by kernel_rfl
theorem r5 (la : Option Addr) (ln : Nat) (lc : Nat) (id : Int) {R : Value → World → Prop} {w : World} (h : (t5 la ln lc id).wp Try.prog R (fun _ _ _ => False) w) : Runs Try.prog 5 [.slice la ln lc, .int .u64 id] w R :=
 genFn_runs mixed lv5 ct5 Try.func5 (by kernel_rfl) (by rw [e5]; exact h)
end Go.Proofs.Ytnbfffmdplcajaa
