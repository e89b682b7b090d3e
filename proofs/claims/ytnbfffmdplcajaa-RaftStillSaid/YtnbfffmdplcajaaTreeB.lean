/- The trees of verification conditions of functions 30-35,37,38,41,74-76: printed by a program of mine, checked here. -/
import Derived.Test.YtnbfffmdplcajaaTree0
set_option linter.unusedVariables false
set_option maxRecDepth 100000
namespace Go.Proofs.Ytnbfffmdplcajaa
open Go.Vc
def lv30 : Marks := (fun | some 11 => some [(5, .int .i64 0)] | _ => none)
def t30 (r0 : Int) (r1 : Int) (r2 : Int) (r3 : Int) (r4 : Int) (r5 : Int) (r6a : Option Addr) (r6n : Nat) (r6c : Nat) (r7a : Option Addr) (r7n : Nat) (r7c : Nat) (r8 : Int) (r9 : Int) (r10 : Int) (r11a : Option Addr) (r11n : Nat) (r11c : Nat) (r12a : Option Addr) (r12n : Nat) (r12c : Nat) (r13a : Option Addr) (r13n : Nat) (r13c : Nat) (r14a : Option Addr) (r14n : Nat) (r14c : Nat) (r15 : Int) (r16a : Option Addr) (r16n : Nat) (r16c : Nat) : VC :=
 .new 36 [.int .u64 r0, .int .i64 r1, .int .i64 r2, .int .i64 r3, .int .u64 r4, .int .u64 r5, .slice r6a r6n r6c, .slice r7a r7n r7c, .int .u64 r8, .int .i64 r9, .int .i64 r10, .slice r11a r11n r11c, .slice r12a r12n r12c, .slice r13a r13n r13c, .slice r14a r14n r14c, .int .u64 r15, .slice r16a r16n r16c] fun p1 =>
 .load ⟨p1, 0, none⟩ 17 fun v2 =>
 .exI fun i3 =>
 .exI fun i4 =>
 .exI fun i5 =>
 .exI fun i6 =>
 .exI fun i7 =>
 .exI fun i8 =>
 .exS fun a9 n9 c9 =>
 .exS fun a10 n10 c10 =>
 .exI fun i11 =>
 .exI fun i12 =>
 .exI fun i13 =>
 .exS fun a14 n14 c14 =>
 .exS fun a15 n15 c15 =>
 .exS fun a16 n16 c16 =>
 .exS fun a17 n17 c17 =>
 .exI fun i18 =>
 .exS fun a19 n19 c19 =>
 .isL v2 [.int .u64 i3, .int .i64 i4, .int .i64 i5, .int .i64 i6, .int .u64 i7, .int .u64 i8, .slice a9 n9 c9, .slice a10 n10 c10, .int .u64 i11, .int .i64 i12, .int .i64 i13, .slice a14 n14 c14, .slice a15 n15 c15, .slice a16 n16 c16, .slice a17 n17 c17, .int .u64 i18, .slice a19 n19 c19] <|
 .call 26 ([.agg #[.int .u64 i3, .int .i64 i4, .int .i64 i5, .int .i64 i6, .int .u64 i7, .int .u64 i8, .slice a9 n9 c9, .slice a10 n10 c10, .int .u64 i11, .int .i64 i12, .int .i64 i13, .slice a14 n14 c14, .slice a15 n15 c15, .slice a16 n16 c16, .slice a17 n17 c17, .int .u64 i18, .slice a19 n19 c19]]) fun v20 =>
 .exI fun i21 =>
 .exI fun i22 =>
 .isL [v20] [.tuple #[.int .u64 i21, .int .u64 i22]] <|
 .load ⟨p1, 3, none⟩ 1 fun v23 =>
 .exI fun i24 =>
 .isL v23 [.int .i64 i24] <|
 bif (decide (i24 < 1)) then
  (.ret (.bool false))
 else
 (.load ⟨p1, 3, none⟩ 1 fun v25 =>
 .exI fun i26 =>
 .isL v25 [.int .i64 i26] <|
 bif (decide (i26 > 7)) then
  (.ret (.bool false))
 else
 (.load ⟨p1, 2, none⟩ 1 fun v27 =>
 .exI fun i28 =>
 .isL v27 [.int .i64 i28] <|
 bif (decide (i28 < 1)) then
  (.ret (.bool false))
 else
 (.load ⟨p1, 2, none⟩ 1 fun v29 =>
 .exI fun i30 =>
 .isL v29 [.int .i64 i30] <|
 .load ⟨p1, 3, none⟩ 1 fun v31 =>
 .exI fun i32 =>
 .isL v31 [.int .i64 i32] <|
 bif (decide (i30 > i32)) then
  (.ret (.bool false))
 else
 (.load ⟨p1, 1, none⟩ 1 fun v33 =>
 .exI fun i34 =>
 .isL v33 [.int .i64 i34] <|
 bif (decide (i34 < 0)) then
  (.ret (.bool false))
 else
 (.load ⟨p1, 1, none⟩ 1 fun v35 =>
 .exI fun i36 =>
 .isL v35 [.int .i64 i36] <|
 .load ⟨p1, 3, none⟩ 1 fun v37 =>
 .exI fun i38 =>
 .isL v37 [.int .i64 i38] <|
 bif (decide (i36 > i38)) then
  (.ret (.bool false))
 else
 (.load ⟨p1, 9, none⟩ 1 fun v39 =>
 .exI fun i40 =>
 .isL v39 [.int .i64 i40] <|
 bif (decide (i40 < 0)) then
  (.ret (.bool false))
 else
 (.load ⟨p1, 9, none⟩ 1 fun v41 =>
 .exI fun i42 =>
 .isL v41 [.int .i64 i42] <|
 bif (decide (i42 > 2)) then
  (.ret (.bool false))
 else
 (.load ⟨p1, 8, none⟩ 1 fun v43 =>
 .exI fun i44 =>
 .isL v43 [.int .u64 i44] <|
 .load ⟨p1, 4, none⟩ 1 fun v45 =>
 .exI fun i46 =>
 .isL v45 [.int .u64 i46] <|
 bif (decide (i44 < i46)) then
  (.ret (.bool false))
 else
 (.load ⟨p1, 8, none⟩ 1 fun v47 =>
 .exI fun i48 =>
 .isL v47 [.int .u64 i48] <|
 bif (decide (i48 > i21)) then
  (.ret (.bool false))
 else
 (.load ⟨p1, 4, none⟩ 1 fun v49 =>
 .exI fun i50 =>
 .isL v49 [.int .u64 i50] <|
 bif (decide (i50 > 1099511627776)) then
  (.ret (.bool false))
 else
 (.load ⟨p1, 7, none⟩ 1 fun v51 =>
 .exS fun a52 n52 c52 =>
 .isL v51 [.slice a52 n52 c52] <|
 bif (decide ((↑n52 : Int) > 100)) then
  (.ret (.bool false))
 else
 (.load ⟨p1, 16, none⟩ 1 fun v53 =>
 .exS fun a54 n54 c54 =>
 .isL v53 [.slice a54 n54 c54] <|
 bif (decide ((↑n54 : Int) > 20)) then
  (.ret (.bool false))
 else
 (.load ⟨p1, 0, none⟩ 1 fun v55 =>
 .exI fun i56 =>
 .isL v55 [.int .u64 i56] <|
 bif (decide (i56 > 1125899906842624)) then
  (.ret (.bool false))
 else
 (.load ⟨p1, 15, none⟩ 1 fun v57 =>
 .exI fun i58 =>
 .isL v57 [.int .u64 i58] <|
 bif (decide (i58 > 1125899906842624)) then
  (.ret (.bool false))
 else
 (.load ⟨p1, 10, none⟩ 1 fun v59 =>
 .exI fun i60 =>
 .isL v59 [.int .i64 i60] <|
 bif (decide (i60 < 0)) then
  (.ret (.bool false))
 else
 (.load ⟨p1, 10, none⟩ 1 fun v61 =>
 .exI fun i62 =>
 .isL v61 [.int .i64 i62] <|
 .load ⟨p1, 3, none⟩ 1 fun v63 =>
 .exI fun i64 =>
 .isL v63 [.int .i64 i64] <|
 bif (decide (i62 > i64)) then
  (.ret (.bool false))
 else
 (.load ⟨p1, 9, none⟩ 1 fun v65 =>
 .exI fun i66 =>
 .isL v65 [.int .i64 i66] <|
 bif (i66 == 1) then
  (.load ⟨p1, 11, none⟩ 1 fun v67 =>
  .exS fun a68 n68 c68 =>
  .isL v67 [.slice a68 n68 c68] <|
  .load ⟨p1, 3, none⟩ 1 fun v69 =>
  .exI fun i70 =>
  .isL v69 [.int .i64 i70] <|
  bif ((↑n68 : Int) != i70) then
   (.ret (.bool false))
  else
  (.load ⟨p1, 9, none⟩ 1 fun v71 =>
  .exI fun i72 =>
  .isL v71 [.int .i64 i72] <|
  bif (i72 != 1) then
   (.load ⟨p1, 11, none⟩ 1 fun v73 =>
   .exS fun a74 n74 c74 =>
   .isL v73 [.slice a74 n74 c74] <|
   bif ((↑n74 : Int) != 0) then
    (.ret (.bool false))
   else
   (.load ⟨p1, 9, none⟩ 1 fun v75 =>
   .exI fun i76 =>
   .isL v75 [.int .i64 i76] <|
   bif (i76 != 2) then
    (.load ⟨p1, 12, none⟩ 1 fun v77 =>
    .exS fun a78 n78 c78 =>
    .isL v77 [.slice a78 n78 c78] <|
    .load ⟨p1, 13, none⟩ 1 fun v79 =>
    .exS fun a80 n80 c80 =>
    .isL v79 [.slice a80 n80 c80] <|
    .load ⟨p1, 14, none⟩ 1 fun v81 =>
    .exS fun a82 n82 c82 =>
    .isL v81 [.slice a82 n82 c82] <|
    .load ⟨p1, 16, none⟩ 1 fun v83 =>
    .exS fun a84 n84 c84 =>
    .isL v83 [.slice a84 n84 c84] <|
    .ret (.bool (IntKind.i64.wrap (IntKind.i64.wrap (IntKind.i64.wrap ((↑n78 : Int) + (↑n80 : Int)) + (↑n82 : Int)) + (↑n84 : Int)) == 0)))
   else
   (.load ⟨p1, 12, none⟩ 1 fun v85 =>
   .exS fun a86 n86 c86 =>
   .isL v85 [.slice a86 n86 c86] <|
   .load ⟨p1, 3, none⟩ 1 fun v87 =>
   .exI fun i88 =>
   .isL v87 [.int .i64 i88] <|
   bif ((↑n86 : Int) != i88) then
    (.ret (.bool false))
   else
   (.load ⟨p1, 13, none⟩ 1 fun v89 =>
   .exS fun a90 n90 c90 =>
   .isL v89 [.slice a90 n90 c90] <|
   .load ⟨p1, 3, none⟩ 1 fun v91 =>
   .exI fun i92 =>
   .isL v91 [.int .i64 i92] <|
   bif ((↑n90 : Int) != i92) then
    (.ret (.bool false))
   else
   (.load ⟨p1, 14, none⟩ 1 fun v93 =>
   .exS fun a94 n94 c94 =>
   .isL v93 [.slice a94 n94 c94] <|
   .load ⟨p1, 3, none⟩ 1 fun v95 =>
   .exI fun i96 =>
   .isL v95 [.int .i64 i96] <|
   bif ((↑n94 : Int) != i96) then
    (.ret (.bool false))
   else
   (.loop 0 [.int .i64 0] (fun v97 =>
    .exI fun i98 =>
    .isL v97 [.int .i64 i98] <|
    .load ⟨p1, 3, none⟩ 1 fun v99 =>
    .exI fun i100 =>
    .isL v99 [.int .i64 i100] <|
    bif (decide (i98 < i100)) then
     (.draw <|
     .load ⟨p1, 12, none⟩ 1 fun v101 =>
     .exS fun a102 n102 c102 =>
     .isL v101 [.slice a102 n102 c102] <|
     .some a102 fun x103 =>
     .need ((0 : Int) ≤ i98 ∧ i98 < (↑n102 : Int)) <|
     .load (x103.add (i98.toNat * 1)) 1 fun v104 =>
     .exI fun i105 =>
     .isL v104 [.int .u64 i105] <|
     bif (decide (i105 < 1)) then
      (.ret (.bool false))
     else
     (.load ⟨p1, 12, none⟩ 1 fun v106 =>
     .exS fun a107 n107 c107 =>
     .isL v106 [.slice a107 n107 c107] <|
     .some a107 fun x108 =>
     .need ((0 : Int) ≤ i98 ∧ i98 < (↑n107 : Int)) <|
     .load (x108.add (i98.toNat * 1)) 1 fun v109 =>
     .exI fun i110 =>
     .isL v109 [.int .u64 i110] <|
     bif (decide (i110 > IntKind.u64.wrap (i21 + 1))) then
      (.ret (.bool false))
     else
     (.load ⟨p1, 13, none⟩ 1 fun v111 =>
     .exS fun a112 n112 c112 =>
     .isL v111 [.slice a112 n112 c112] <|
     .some a112 fun x113 =>
     .need ((0 : Int) ≤ i98 ∧ i98 < (↑n112 : Int)) <|
     .load (x113.add (i98.toNat * 1)) 1 fun v114 =>
     .exI fun i115 =>
     .isL v114 [.int .u64 i115] <|
     .load ⟨p1, 12, none⟩ 1 fun v116 =>
     .exS fun a117 n117 c117 =>
     .isL v116 [.slice a117 n117 c117] <|
     .some a117 fun x118 =>
     .need ((0 : Int) ≤ i98 ∧ i98 < (↑n117 : Int)) <|
     .load (x118.add (i98.toNat * 1)) 1 fun v119 =>
     .exI fun i120 =>
     .isL v119 [.int .u64 i120] <|
     bif (decide (i115 ≥ i120)) then
      (.ret (.bool false))
     else
     (.again 0 [.int .i64 (IntKind.i64.wrap (i98 + 1))]))))
    else
    (.ret (.bool true)))))))))
  else
  (.load ⟨p1, 9, none⟩ 1 fun v121 =>
  .exI fun i122 =>
  .isL v121 [.int .i64 i122] <|
  bif (i122 != 2) then
   (.load ⟨p1, 12, none⟩ 1 fun v123 =>
   .exS fun a124 n124 c124 =>
   .isL v123 [.slice a124 n124 c124] <|
   .load ⟨p1, 13, none⟩ 1 fun v125 =>
   .exS fun a126 n126 c126 =>
   .isL v125 [.slice a126 n126 c126] <|
   .load ⟨p1, 14, none⟩ 1 fun v127 =>
   .exS fun a128 n128 c128 =>
   .isL v127 [.slice a128 n128 c128] <|
   .load ⟨p1, 16, none⟩ 1 fun v129 =>
   .exS fun a130 n130 c130 =>
   .isL v129 [.slice a130 n130 c130] <|
   .ret (.bool (IntKind.i64.wrap (IntKind.i64.wrap (IntKind.i64.wrap ((↑n124 : Int) + (↑n126 : Int)) + (↑n128 : Int)) + (↑n130 : Int)) == 0)))
  else
  (.load ⟨p1, 12, none⟩ 1 fun v131 =>
  .exS fun a132 n132 c132 =>
  .isL v131 [.slice a132 n132 c132] <|
  .load ⟨p1, 3, none⟩ 1 fun v133 =>
  .exI fun i134 =>
  .isL v133 [.int .i64 i134] <|
  bif ((↑n132 : Int) != i134) then
   (.ret (.bool false))
  else
  (.load ⟨p1, 13, none⟩ 1 fun v135 =>
  .exS fun a136 n136 c136 =>
  .isL v135 [.slice a136 n136 c136] <|
  .load ⟨p1, 3, none⟩ 1 fun v137 =>
  .exI fun i138 =>
  .isL v137 [.int .i64 i138] <|
  bif ((↑n136 : Int) != i138) then
   (.ret (.bool false))
  else
  (.load ⟨p1, 14, none⟩ 1 fun v139 =>
  .exS fun a140 n140 c140 =>
  .isL v139 [.slice a140 n140 c140] <|
  .load ⟨p1, 3, none⟩ 1 fun v141 =>
  .exI fun i142 =>
  .isL v141 [.int .i64 i142] <|
  bif ((↑n140 : Int) != i142) then
   (.ret (.bool false))
  else
  (.loop 0 [.int .i64 0] (fun v143 =>
   .exI fun i144 =>
   .isL v143 [.int .i64 i144] <|
   .load ⟨p1, 3, none⟩ 1 fun v145 =>
   .exI fun i146 =>
   .isL v145 [.int .i64 i146] <|
   bif (decide (i144 < i146)) then
    (.draw <|
    .load ⟨p1, 12, none⟩ 1 fun v147 =>
    .exS fun a148 n148 c148 =>
    .isL v147 [.slice a148 n148 c148] <|
    .some a148 fun x149 =>
    .need ((0 : Int) ≤ i144 ∧ i144 < (↑n148 : Int)) <|
    .load (x149.add (i144.toNat * 1)) 1 fun v150 =>
    .exI fun i151 =>
    .isL v150 [.int .u64 i151] <|
    bif (decide (i151 < 1)) then
     (.ret (.bool false))
    else
    (.load ⟨p1, 12, none⟩ 1 fun v152 =>
    .exS fun a153 n153 c153 =>
    .isL v152 [.slice a153 n153 c153] <|
    .some a153 fun x154 =>
    .need ((0 : Int) ≤ i144 ∧ i144 < (↑n153 : Int)) <|
    .load (x154.add (i144.toNat * 1)) 1 fun v155 =>
    .exI fun i156 =>
    .isL v155 [.int .u64 i156] <|
    bif (decide (i156 > IntKind.u64.wrap (i21 + 1))) then
     (.ret (.bool false))
    else
    (.load ⟨p1, 13, none⟩ 1 fun v157 =>
    .exS fun a158 n158 c158 =>
    .isL v157 [.slice a158 n158 c158] <|
    .some a158 fun x159 =>
    .need ((0 : Int) ≤ i144 ∧ i144 < (↑n158 : Int)) <|
    .load (x159.add (i144.toNat * 1)) 1 fun v160 =>
    .exI fun i161 =>
    .isL v160 [.int .u64 i161] <|
    .load ⟨p1, 12, none⟩ 1 fun v162 =>
    .exS fun a163 n163 c163 =>
    .isL v162 [.slice a163 n163 c163] <|
    .some a163 fun x164 =>
    .need ((0 : Int) ≤ i144 ∧ i144 < (↑n163 : Int)) <|
    .load (x164.add (i144.toNat * 1)) 1 fun v165 =>
    .exI fun i166 =>
    .isL v165 [.int .u64 i166] <|
    bif (decide (i161 ≥ i166)) then
     (.ret (.bool false))
    else
    (.again 0 [.int .i64 (IntKind.i64.wrap (i144 + 1))]))))
   else
   (.ret (.bool true))))))))))
 else
 (.load ⟨p1, 9, none⟩ 1 fun v167 =>
 .exI fun i168 =>
 .isL v167 [.int .i64 i168] <|
 bif (i168 != 1) then
  (.load ⟨p1, 11, none⟩ 1 fun v169 =>
  .exS fun a170 n170 c170 =>
  .isL v169 [.slice a170 n170 c170] <|
  bif ((↑n170 : Int) != 0) then
   (.ret (.bool false))
  else
  (.load ⟨p1, 9, none⟩ 1 fun v171 =>
  .exI fun i172 =>
  .isL v171 [.int .i64 i172] <|
  bif (i172 != 2) then
   (.load ⟨p1, 12, none⟩ 1 fun v173 =>
   .exS fun a174 n174 c174 =>
   .isL v173 [.slice a174 n174 c174] <|
   .load ⟨p1, 13, none⟩ 1 fun v175 =>
   .exS fun a176 n176 c176 =>
   .isL v175 [.slice a176 n176 c176] <|
   .load ⟨p1, 14, none⟩ 1 fun v177 =>
   .exS fun a178 n178 c178 =>
   .isL v177 [.slice a178 n178 c178] <|
   .load ⟨p1, 16, none⟩ 1 fun v179 =>
   .exS fun a180 n180 c180 =>
   .isL v179 [.slice a180 n180 c180] <|
   .ret (.bool (IntKind.i64.wrap (IntKind.i64.wrap (IntKind.i64.wrap ((↑n174 : Int) + (↑n176 : Int)) + (↑n178 : Int)) + (↑n180 : Int)) == 0)))
  else
  (.load ⟨p1, 12, none⟩ 1 fun v181 =>
  .exS fun a182 n182 c182 =>
  .isL v181 [.slice a182 n182 c182] <|
  .load ⟨p1, 3, none⟩ 1 fun v183 =>
  .exI fun i184 =>
  .isL v183 [.int .i64 i184] <|
  bif ((↑n182 : Int) != i184) then
   (.ret (.bool false))
  else
  (.load ⟨p1, 13, none⟩ 1 fun v185 =>
  .exS fun a186 n186 c186 =>
  .isL v185 [.slice a186 n186 c186] <|
  .load ⟨p1, 3, none⟩ 1 fun v187 =>
  .exI fun i188 =>
  .isL v187 [.int .i64 i188] <|
  bif ((↑n186 : Int) != i188) then
   (.ret (.bool false))
  else
  (.load ⟨p1, 14, none⟩ 1 fun v189 =>
  .exS fun a190 n190 c190 =>
  .isL v189 [.slice a190 n190 c190] <|
  .load ⟨p1, 3, none⟩ 1 fun v191 =>
  .exI fun i192 =>
  .isL v191 [.int .i64 i192] <|
  bif ((↑n190 : Int) != i192) then
   (.ret (.bool false))
  else
  (.loop 0 [.int .i64 0] (fun v193 =>
   .exI fun i194 =>
   .isL v193 [.int .i64 i194] <|
   .load ⟨p1, 3, none⟩ 1 fun v195 =>
   .exI fun i196 =>
   .isL v195 [.int .i64 i196] <|
   bif (decide (i194 < i196)) then
    (.draw <|
    .load ⟨p1, 12, none⟩ 1 fun v197 =>
    .exS fun a198 n198 c198 =>
    .isL v197 [.slice a198 n198 c198] <|
    .some a198 fun x199 =>
    .need ((0 : Int) ≤ i194 ∧ i194 < (↑n198 : Int)) <|
    .load (x199.add (i194.toNat * 1)) 1 fun v200 =>
    .exI fun i201 =>
    .isL v200 [.int .u64 i201] <|
    bif (decide (i201 < 1)) then
     (.ret (.bool false))
    else
    (.load ⟨p1, 12, none⟩ 1 fun v202 =>
    .exS fun a203 n203 c203 =>
    .isL v202 [.slice a203 n203 c203] <|
    .some a203 fun x204 =>
    .need ((0 : Int) ≤ i194 ∧ i194 < (↑n203 : Int)) <|
    .load (x204.add (i194.toNat * 1)) 1 fun v205 =>
    .exI fun i206 =>
    .isL v205 [.int .u64 i206] <|
    bif (decide (i206 > IntKind.u64.wrap (i21 + 1))) then
     (.ret (.bool false))
    else
    (.load ⟨p1, 13, none⟩ 1 fun v207 =>
    .exS fun a208 n208 c208 =>
    .isL v207 [.slice a208 n208 c208] <|
    .some a208 fun x209 =>
    .need ((0 : Int) ≤ i194 ∧ i194 < (↑n208 : Int)) <|
    .load (x209.add (i194.toNat * 1)) 1 fun v210 =>
    .exI fun i211 =>
    .isL v210 [.int .u64 i211] <|
    .load ⟨p1, 12, none⟩ 1 fun v212 =>
    .exS fun a213 n213 c213 =>
    .isL v212 [.slice a213 n213 c213] <|
    .some a213 fun x214 =>
    .need ((0 : Int) ≤ i194 ∧ i194 < (↑n213 : Int)) <|
    .load (x214.add (i194.toNat * 1)) 1 fun v215 =>
    .exI fun i216 =>
    .isL v215 [.int .u64 i216] <|
    bif (decide (i211 ≥ i216)) then
     (.ret (.bool false))
    else
    (.again 0 [.int .i64 (IntKind.i64.wrap (i194 + 1))]))))
   else
   (.ret (.bool true)))))))))
 else
 (.load ⟨p1, 9, none⟩ 1 fun v217 =>
 .exI fun i218 =>
 .isL v217 [.int .i64 i218] <|
 bif (i218 != 2) then
  (.load ⟨p1, 12, none⟩ 1 fun v219 =>
  .exS fun a220 n220 c220 =>
  .isL v219 [.slice a220 n220 c220] <|
  .load ⟨p1, 13, none⟩ 1 fun v221 =>
  .exS fun a222 n222 c222 =>
  .isL v221 [.slice a222 n222 c222] <|
  .load ⟨p1, 14, none⟩ 1 fun v223 =>
  .exS fun a224 n224 c224 =>
  .isL v223 [.slice a224 n224 c224] <|
  .load ⟨p1, 16, none⟩ 1 fun v225 =>
  .exS fun a226 n226 c226 =>
  .isL v225 [.slice a226 n226 c226] <|
  .ret (.bool (IntKind.i64.wrap (IntKind.i64.wrap (IntKind.i64.wrap ((↑n220 : Int) + (↑n222 : Int)) + (↑n224 : Int)) + (↑n226 : Int)) == 0)))
 else
 (.load ⟨p1, 12, none⟩ 1 fun v227 =>
 .exS fun a228 n228 c228 =>
 .isL v227 [.slice a228 n228 c228] <|
 .load ⟨p1, 3, none⟩ 1 fun v229 =>
 .exI fun i230 =>
 .isL v229 [.int .i64 i230] <|
 bif ((↑n228 : Int) != i230) then
  (.ret (.bool false))
 else
 (.load ⟨p1, 13, none⟩ 1 fun v231 =>
 .exS fun a232 n232 c232 =>
 .isL v231 [.slice a232 n232 c232] <|
 .load ⟨p1, 3, none⟩ 1 fun v233 =>
 .exI fun i234 =>
 .isL v233 [.int .i64 i234] <|
 bif ((↑n232 : Int) != i234) then
  (.ret (.bool false))
 else
 (.load ⟨p1, 14, none⟩ 1 fun v235 =>
 .exS fun a236 n236 c236 =>
 .isL v235 [.slice a236 n236 c236] <|
 .load ⟨p1, 3, none⟩ 1 fun v237 =>
 .exI fun i238 =>
 .isL v237 [.int .i64 i238] <|
 bif ((↑n236 : Int) != i238) then
  (.ret (.bool false))
 else
 (.loop 0 [.int .i64 0] (fun v239 =>
  .exI fun i240 =>
  .isL v239 [.int .i64 i240] <|
  .load ⟨p1, 3, none⟩ 1 fun v241 =>
  .exI fun i242 =>
  .isL v241 [.int .i64 i242] <|
  bif (decide (i240 < i242)) then
   (.draw <|
   .load ⟨p1, 12, none⟩ 1 fun v243 =>
   .exS fun a244 n244 c244 =>
   .isL v243 [.slice a244 n244 c244] <|
   .some a244 fun x245 =>
   .need ((0 : Int) ≤ i240 ∧ i240 < (↑n244 : Int)) <|
   .load (x245.add (i240.toNat * 1)) 1 fun v246 =>
   .exI fun i247 =>
   .isL v246 [.int .u64 i247] <|
   bif (decide (i247 < 1)) then
    (.ret (.bool false))
   else
   (.load ⟨p1, 12, none⟩ 1 fun v248 =>
   .exS fun a249 n249 c249 =>
   .isL v248 [.slice a249 n249 c249] <|
   .some a249 fun x250 =>
   .need ((0 : Int) ≤ i240 ∧ i240 < (↑n249 : Int)) <|
   .load (x250.add (i240.toNat * 1)) 1 fun v251 =>
   .exI fun i252 =>
   .isL v251 [.int .u64 i252] <|
   bif (decide (i252 > IntKind.u64.wrap (i21 + 1))) then
    (.ret (.bool false))
   else
   (.load ⟨p1, 13, none⟩ 1 fun v253 =>
   .exS fun a254 n254 c254 =>
   .isL v253 [.slice a254 n254 c254] <|
   .some a254 fun x255 =>
   .need ((0 : Int) ≤ i240 ∧ i240 < (↑n254 : Int)) <|
   .load (x255.add (i240.toNat * 1)) 1 fun v256 =>
   .exI fun i257 =>
   .isL v256 [.int .u64 i257] <|
   .load ⟨p1, 12, none⟩ 1 fun v258 =>
   .exS fun a259 n259 c259 =>
   .isL v258 [.slice a259 n259 c259] <|
   .some a259 fun x260 =>
   .need ((0 : Int) ≤ i240 ∧ i240 < (↑n259 : Int)) <|
   .load (x260.add (i240.toNat * 1)) 1 fun v261 =>
   .exI fun i262 =>
   .isL v261 [.int .u64 i262] <|
   bif (decide (i257 ≥ i262)) then
    (.ret (.bool false))
   else
   (.again 0 [.int .i64 (IntKind.i64.wrap (i240 + 1))]))))
  else
  (.ret (.bool true))))))))))))))))))))))))))
theorem e30 (r0 : Int) (r1 : Int) (r2 : Int) (r3 : Int) (r4 : Int) (r5 : Int) (r6a : Option Addr) (r6n : Nat) (r6c : Nat) (r7a : Option Addr) (r7n : Nat) (r7c : Nat) (r8 : Int) (r9 : Int) (r10 : Int) (r11a : Option Addr) (r11n : Nat) (r11c : Nat) (r12a : Option Addr) (r12n : Nat) (r12c : Nat) (r13a : Option Addr) (r13n : Nat) (r13c : Nat) (r14a : Option Addr) (r14n : Nat) (r14c : Nat) (r15 : Int) (r16a : Option Addr) (r16n : Nat) (r16c : Nat) : genFn Try.prog lv30 noM Try.f30 [.agg #[.int .u64 r0, .int .i64 r1, .int .i64 r2, .int .i64 r3, .int .u64 r4, .int .u64 r5, .slice r6a r6n r6c, .slice r7a r7n r7c, .int .u64 r8, .int .i64 r9, .int .i64 r10, .slice r11a r11n r11c, .slice r12a r12n r12c, .slice r13a r13n r13c, .slice r14a r14n r14c, .int .u64 r15, .slice r16a r16n r16c]] = t30 r0 r1 r2 r3 r4 r5 r6a r6n r6c r7a r7n r7c r8 r9 r10 r11a r11n r11c r12a r12n r12c r13a r13n r13c r14a r14n r14c r15 r16a r16n r16c := by kernel_rfl
theorem r30 (r0 : Int) (r1 : Int) (r2 : Int) (r3 : Int) (r4 : Int) (r5 : Int) (r6a : Option Addr) (r6n : Nat) (r6c : Nat) (r7a : Option Addr) (r7n : Nat) (r7c : Nat) (r8 : Int) (r9 : Int) (r10 : Int) (r11a : Option Addr) (r11n : Nat) (r11c : Nat) (r12a : Option Addr) (r12n : Nat) (r12c : Nat) (r13a : Option Addr) (r13n : Nat) (r13c : Nat) (r14a : Option Addr) (r14n : Nat) (r14c : Nat) (r15 : Int) (r16a : Option Addr) (r16n : Nat) (r16c : Nat) {R : Value → World → Prop} {w : World} (h : (t30 r0 r1 r2 r3 r4 r5 r6a r6n r6c r7a r7n r7c r8 r9 r10 r11a r11n r11c r12a r12n r12c r13a r13n r13c r14a r14n r14c r15 r16a r16n r16c).wp Try.prog R (fun _ _ _ => False) w) : Runs Try.prog 30 [.agg #[.int .u64 r0, .int .i64 r1, .int .i64 r2, .int .i64 r3, .int .u64 r4, .int .u64 r5, .slice r6a r6n r6c, .slice r7a r7n r7c, .int .u64 r8, .int .i64 r9, .int .i64 r10, .slice r11a r11n r11c, .slice r12a r12n r12c, .slice r13a r13n r13c, .slice r14a r14n r14c, .int .u64 r15, .slice r16a r16n r16c]] w R :=
 genFn_runs mixed lv30 noM Try.func30 (by kernel_rfl) (by rw [e30]; exact h)
def t31 (r0 : Int) (r1 : Int) (r2 : Int) (r3 : Int) (r4 : Int) (r5 : Int) (r6a : Option Addr) (r6n : Nat) (r6c : Nat) (r7a : Option Addr) (r7n : Nat) (r7c : Nat) (r8 : Int) (r9 : Int) (r10 : Int) (r11a : Option Addr) (r11n : Nat) (r11c : Nat) (r12a : Option Addr) (r12n : Nat) (r12c : Nat) (r13a : Option Addr) (r13n : Nat) (r13c : Nat) (r14a : Option Addr) (r14n : Nat) (r14c : Nat) (r15 : Int) (r16a : Option Addr) (r16n : Nat) (r16c : Nat) (statea : Option Addr) (staten : Nat) (statec : Nat) : VC :=
 .new 36 [.int .u64 r0, .int .i64 r1, .int .i64 r2, .int .i64 r3, .int .u64 r4, .int .u64 r5, .slice r6a r6n r6c, .slice r7a r7n r7c, .int .u64 r8, .int .i64 r9, .int .i64 r10, .slice r11a r11n r11c, .slice r12a r12n r12c, .slice r13a r13n r13c, .slice r14a r14n r14c, .int .u64 r15, .slice r16a r16n r16c] fun p1 =>
 .new 36 [.int .u64 0, .int .i64 0, .int .i64 0, .int .i64 0, .int .u64 0, .int .u64 0, .slice none 0 0, .slice none 0 0, .int .u64 0, .int .i64 0, .int .i64 0, .slice none 0 0, .slice none 0 0, .slice none 0 0, .slice none 0 0, .int .u64 0, .slice none 0 0] fun p2 =>
 .new 48 [.slice none 0 0, .slice none 0 0, .slice none 0 0] fun p3 =>
 .load ⟨p1, 0, none⟩ 17 fun v4 =>
 .exI fun i5 =>
 .exI fun i6 =>
 .exI fun i7 =>
 .exI fun i8 =>
 .exI fun i9 =>
 .exI fun i10 =>
 .exS fun a11 n11 c11 =>
 .exS fun a12 n12 c12 =>
 .exI fun i13 =>
 .exI fun i14 =>
 .exI fun i15 =>
 .exS fun a16 n16 c16 =>
 .exS fun a17 n17 c17 =>
 .exS fun a18 n18 c18 =>
 .exS fun a19 n19 c19 =>
 .exI fun i20 =>
 .exS fun a21 n21 c21 =>
 .isL v4 [.int .u64 i5, .int .i64 i6, .int .i64 i7, .int .i64 i8, .int .u64 i9, .int .u64 i10, .slice a11 n11 c11, .slice a12 n12 c12, .int .u64 i13, .int .i64 i14, .int .i64 i15, .slice a16 n16 c16, .slice a17 n17 c17, .slice a18 n18 c18, .slice a19 n19 c19, .int .u64 i20, .slice a21 n21 c21] <|
 .call 53 ([.agg #[.int .u64 i5, .int .i64 i6, .int .i64 i7, .int .i64 i8, .int .u64 i9, .int .u64 i10, .slice a11 n11 c11, .slice a12 n12 c12, .int .u64 i13, .int .i64 i14, .int .i64 i15, .slice a16 n16 c16, .slice a17 n17 c17, .slice a18 n18 c18, .slice a19 n19 c19, .int .u64 i20, .slice a21 n21 c21]]) fun v22 =>
 .exN fun p23 =>
 .isL [v22] [.pointer (some ⟨p23, 0, none⟩)] <|
 .draw <|
 .load ⟨p23, 8, none⟩ 1 fun v24 =>
 .exI fun i25 =>
 .isL v24 [.int .u64 i25] <|
 .load ⟨p23, 4, none⟩ 1 fun v26 =>
 .exI fun i27 =>
 .isL v26 [.int .u64 i27] <|
 bif (decide (i25 > i27)) then
  (.draw <|
  .load ⟨p23, 0, none⟩ 17 fun v28 =>
  .exI fun i29 =>
  .exI fun i30 =>
  .exI fun i31 =>
  .exI fun i32 =>
  .exI fun i33 =>
  .exI fun i34 =>
  .exS fun a35 n35 c35 =>
  .exS fun a36 n36 c36 =>
  .exI fun i37 =>
  .exI fun i38 =>
  .exI fun i39 =>
  .exS fun a40 n40 c40 =>
  .exS fun a41 n41 c41 =>
  .exS fun a42 n42 c42 =>
  .exS fun a43 n43 c43 =>
  .exI fun i44 =>
  .exS fun a45 n45 c45 =>
  .isL v28 [.int .u64 i29, .int .i64 i30, .int .i64 i31, .int .i64 i32, .int .u64 i33, .int .u64 i34, .slice a35 n35 c35, .slice a36 n36 c36, .int .u64 i37, .int .i64 i38, .int .i64 i39, .slice a40 n40 c40, .slice a41 n41 c41, .slice a42 n42 c42, .slice a43 n43 c43, .int .u64 i44, .slice a45 n45 c45] <|
  .load ⟨p23, 8, none⟩ 1 fun v46 =>
  .exI fun i47 =>
  .isL v46 [.int .u64 i47] <|
  .call 27 ([.agg #[.int .u64 i29, .int .i64 i30, .int .i64 i31, .int .i64 i32, .int .u64 i33, .int .u64 i34, .slice a35 n35 c35, .slice a36 n36 c36, .int .u64 i37, .int .i64 i38, .int .i64 i39, .slice a40 n40 c40, .slice a41 n41 c41, .slice a42 n42 c42, .slice a43 n43 c43, .int .u64 i44, .slice a45 n45 c45], .int .u64 i47]) fun v48 =>
  .exI fun i49 =>
  .exB fun b50 =>
  .isL [v48] [.tuple #[.int .u64 i49, .bool b50]] <|
  .draw <|
  .load ⟨p23, 8, none⟩ 1 fun v51 =>
  .exI fun i52 =>
  .isL v51 [.int .u64 i52] <|
  .both
   (.call 54 ([.slice statea staten statec]) fun v53 =>
   .exS fun a54 n54 c54 =>
   .isL [v53] [.slice a54 n54 c54] <|
   .hold [(⟨p23, 8, none⟩, [.int .u64 i52])] <|
   .new 27 [.int .u64 0, .int .u64 0, .slice none 0 0] fun p55 =>
   .store ⟨p55, 0, none⟩ [.int .u64 i52, .int .u64 i49, .slice a54 n54 c54] <|
   .load ⟨p55, 0, none⟩ 3 fun v56 =>
   .exI fun i57 =>
   .exI fun i58 =>
   .exS fun a59 n59 c59 =>
   .isL v56 [.int .u64 i57, .int .u64 i58, .slice a59 n59 c59] <|
   .call 55 ([.pointer (some ⟨p23, 0, none⟩), .agg #[.int .u64 i57, .int .u64 i58, .slice a59 n59 c59]]) fun v60 =>
   .isL [v60] [.tuple #[]] <|
   .load ⟨p55, 0, none⟩ 3 fun v61 =>
   .exI fun i62 =>
   .exI fun i63 =>
   .exS fun a64 n64 c64 =>
   .isL v61 [.int .u64 i62, .int .u64 i63, .slice a64 n64 c64] <|
   .call 57 ([.agg #[.int .u64 i62, .int .u64 i63, .slice a64 n64 c64]]) fun v65 =>
   .exI fun i66 =>
   .exI fun i67 =>
   .exS fun a68 n68 c68 =>
   .isL [v65] [.agg #[.int .u64 i66, .int .u64 i67, .slice a68 n68 c68]] <|
   .new 59 [.int .i64 4, .int .u64 0, .int .i64 0, .int .u64 0, .slice none 0 0, .int .u64 0, .int .u64 i66, .int .u64 i67, .slice a68 n68 c68] fun p69 =>
   .call 56 ([.pointer (some ⟨p23, 0, none⟩), .slice (some ⟨p69, 0, none⟩) 1 1]) fun v70 =>
   .isL [v70] [.tuple #[]] <|
   .call 58 ([.pointer (some ⟨p23, 0, none⟩)]) fun v71 =>
   .exI fun i72 =>
   .exI fun i73 =>
   .exI fun i74 =>
   .exI fun i75 =>
   .exI fun i76 =>
   .exI fun i77 =>
   .exS fun a78 n78 c78 =>
   .exS fun a79 n79 c79 =>
   .exI fun i80 =>
   .exI fun i81 =>
   .exI fun i82 =>
   .exS fun a83 n83 c83 =>
   .exS fun a84 n84 c84 =>
   .exS fun a85 n85 c85 =>
   .exS fun a86 n86 c86 =>
   .exI fun i87 =>
   .exS fun a88 n88 c88 =>
   .exS fun a89 n89 c89 =>
   .exS fun a90 n90 c90 =>
   .exS fun a91 n91 c91 =>
   .isL [v71] [.tuple #[.agg #[.int .u64 i72, .int .i64 i73, .int .i64 i74, .int .i64 i75, .int .u64 i76, .int .u64 i77, .slice a78 n78 c78, .slice a79 n79 c79, .int .u64 i80, .int .i64 i81, .int .i64 i82, .slice a83 n83 c83, .slice a84 n84 c84, .slice a85 n85 c85, .slice a86 n86 c86, .int .u64 i87, .slice a88 n88 c88], .agg #[.slice a89 n89 c89, .slice a90 n90 c90, .slice a91 n91 c91]]] <|
   .store ⟨p2, 0, none⟩ [.int .u64 i72, .int .i64 i73, .int .i64 i74, .int .i64 i75, .int .u64 i76, .int .u64 i77, .slice a78 n78 c78, .slice a79 n79 c79, .int .u64 i80, .int .i64 i81, .int .i64 i82, .slice a83 n83 c83, .slice a84 n84 c84, .slice a85 n85 c85, .slice a86 n86 c86, .int .u64 i87, .slice a88 n88 c88] <|
   .store ⟨p3, 0, none⟩ [.slice a89 n89 c89, .slice a90 n90 c90, .slice a91 n91 c91] <|
   .load ⟨p2, 0, none⟩ 17 fun v92 =>
   .exI fun i93 =>
   .exI fun i94 =>
   .exI fun i95 =>
   .exI fun i96 =>
   .exI fun i97 =>
   .exI fun i98 =>
   .exS fun a99 n99 c99 =>
   .exS fun a100 n100 c100 =>
   .exI fun i101 =>
   .exI fun i102 =>
   .exI fun i103 =>
   .exS fun a104 n104 c104 =>
   .exS fun a105 n105 c105 =>
   .exS fun a106 n106 c106 =>
   .exS fun a107 n107 c107 =>
   .exI fun i108 =>
   .exS fun a109 n109 c109 =>
   .isL v92 [.int .u64 i93, .int .i64 i94, .int .i64 i95, .int .i64 i96, .int .u64 i97, .int .u64 i98, .slice a99 n99 c99, .slice a100 n100 c100, .int .u64 i101, .int .i64 i102, .int .i64 i103, .slice a104 n104 c104, .slice a105 n105 c105, .slice a106 n106 c106, .slice a107 n107 c107, .int .u64 i108, .slice a109 n109 c109] <|
   .load ⟨p3, 0, none⟩ 3 fun v110 =>
   .exS fun a111 n111 c111 =>
   .exS fun a112 n112 c112 =>
   .exS fun a113 n113 c113 =>
   .isL v110 [.slice a111 n111 c111, .slice a112 n112 c112, .slice a113 n113 c113] <|
   .ret (.tuple #[.agg #[.int .u64 i93, .int .i64 i94, .int .i64 i95, .int .i64 i96, .int .u64 i97, .int .u64 i98, .slice a99 n99 c99, .slice a100 n100 c100, .int .u64 i101, .int .i64 i102, .int .i64 i103, .slice a104 n104 c104, .slice a105 n105 c105, .slice a106 n106 c106, .slice a107 n107 c107, .int .u64 i108, .slice a109 n109 c109], .agg #[.slice a111 n111 c111, .slice a112 n112 c112, .slice a113 n113 c113]]))
  (.new 27 [.int .u64 0, .int .u64 0, .slice none 0 0] fun p114 =>
  .call 54 ([.slice statea staten statec]) fun v115 =>
  .exS fun a116 n116 c116 =>
  .isL [v115] [.slice a116 n116 c116] <|
  .hold [(⟨p23, 8, none⟩, [.int .u64 i52])] <|
  .store ⟨p114, 0, none⟩ [.int .u64 i52, .int .u64 i49, .slice a116 n116 c116] <|
  .load ⟨p114, 0, none⟩ 3 fun v117 =>
  .exI fun i118 =>
  .exI fun i119 =>
  .exS fun a120 n120 c120 =>
  .isL v117 [.int .u64 i118, .int .u64 i119, .slice a120 n120 c120] <|
  .call 55 ([.pointer (some ⟨p23, 0, none⟩), .agg #[.int .u64 i118, .int .u64 i119, .slice a120 n120 c120]]) fun v121 =>
  .isL [v121] [.tuple #[]] <|
  .load ⟨p114, 0, none⟩ 3 fun v122 =>
  .exI fun i123 =>
  .exI fun i124 =>
  .exS fun a125 n125 c125 =>
  .isL v122 [.int .u64 i123, .int .u64 i124, .slice a125 n125 c125] <|
  .call 57 ([.agg #[.int .u64 i123, .int .u64 i124, .slice a125 n125 c125]]) fun v126 =>
  .exI fun i127 =>
  .exI fun i128 =>
  .exS fun a129 n129 c129 =>
  .isL [v126] [.agg #[.int .u64 i127, .int .u64 i128, .slice a129 n129 c129]] <|
  .new 59 [.int .i64 4, .int .u64 0, .int .i64 0, .int .u64 0, .slice none 0 0, .int .u64 0, .int .u64 i127, .int .u64 i128, .slice a129 n129 c129] fun p130 =>
  .call 56 ([.pointer (some ⟨p23, 0, none⟩), .slice (some ⟨p130, 0, none⟩) 1 1]) fun v131 =>
  .isL [v131] [.tuple #[]] <|
  .call 58 ([.pointer (some ⟨p23, 0, none⟩)]) fun v132 =>
  .exI fun i133 =>
  .exI fun i134 =>
  .exI fun i135 =>
  .exI fun i136 =>
  .exI fun i137 =>
  .exI fun i138 =>
  .exS fun a139 n139 c139 =>
  .exS fun a140 n140 c140 =>
  .exI fun i141 =>
  .exI fun i142 =>
  .exI fun i143 =>
  .exS fun a144 n144 c144 =>
  .exS fun a145 n145 c145 =>
  .exS fun a146 n146 c146 =>
  .exS fun a147 n147 c147 =>
  .exI fun i148 =>
  .exS fun a149 n149 c149 =>
  .exS fun a150 n150 c150 =>
  .exS fun a151 n151 c151 =>
  .exS fun a152 n152 c152 =>
  .isL [v132] [.tuple #[.agg #[.int .u64 i133, .int .i64 i134, .int .i64 i135, .int .i64 i136, .int .u64 i137, .int .u64 i138, .slice a139 n139 c139, .slice a140 n140 c140, .int .u64 i141, .int .i64 i142, .int .i64 i143, .slice a144 n144 c144, .slice a145 n145 c145, .slice a146 n146 c146, .slice a147 n147 c147, .int .u64 i148, .slice a149 n149 c149], .agg #[.slice a150 n150 c150, .slice a151 n151 c151, .slice a152 n152 c152]]] <|
  .store ⟨p2, 0, none⟩ [.int .u64 i133, .int .i64 i134, .int .i64 i135, .int .i64 i136, .int .u64 i137, .int .u64 i138, .slice a139 n139 c139, .slice a140 n140 c140, .int .u64 i141, .int .i64 i142, .int .i64 i143, .slice a144 n144 c144, .slice a145 n145 c145, .slice a146 n146 c146, .slice a147 n147 c147, .int .u64 i148, .slice a149 n149 c149] <|
  .store ⟨p3, 0, none⟩ [.slice a150 n150 c150, .slice a151 n151 c151, .slice a152 n152 c152] <|
  .load ⟨p2, 0, none⟩ 17 fun v153 =>
  .exI fun i154 =>
  .exI fun i155 =>
  .exI fun i156 =>
  .exI fun i157 =>
  .exI fun i158 =>
  .exI fun i159 =>
  .exS fun a160 n160 c160 =>
  .exS fun a161 n161 c161 =>
  .exI fun i162 =>
  .exI fun i163 =>
  .exI fun i164 =>
  .exS fun a165 n165 c165 =>
  .exS fun a166 n166 c166 =>
  .exS fun a167 n167 c167 =>
  .exS fun a168 n168 c168 =>
  .exI fun i169 =>
  .exS fun a170 n170 c170 =>
  .isL v153 [.int .u64 i154, .int .i64 i155, .int .i64 i156, .int .i64 i157, .int .u64 i158, .int .u64 i159, .slice a160 n160 c160, .slice a161 n161 c161, .int .u64 i162, .int .i64 i163, .int .i64 i164, .slice a165 n165 c165, .slice a166 n166 c166, .slice a167 n167 c167, .slice a168 n168 c168, .int .u64 i169, .slice a170 n170 c170] <|
  .load ⟨p3, 0, none⟩ 3 fun v171 =>
  .exS fun a172 n172 c172 =>
  .exS fun a173 n173 c173 =>
  .exS fun a174 n174 c174 =>
  .isL v171 [.slice a172 n172 c172, .slice a173 n173 c173, .slice a174 n174 c174] <|
  .ret (.tuple #[.agg #[.int .u64 i154, .int .i64 i155, .int .i64 i156, .int .i64 i157, .int .u64 i158, .int .u64 i159, .slice a160 n160 c160, .slice a161 n161 c161, .int .u64 i162, .int .i64 i163, .int .i64 i164, .slice a165 n165 c165, .slice a166 n166 c166, .slice a167 n167 c167, .slice a168 n168 c168, .int .u64 i169, .slice a170 n170 c170], .agg #[.slice a172 n172 c172, .slice a173 n173 c173, .slice a174 n174 c174]])))
 else
 (.call 58 ([.pointer (some ⟨p23, 0, none⟩)]) fun v175 =>
 .exI fun i176 =>
 .exI fun i177 =>
 .exI fun i178 =>
 .exI fun i179 =>
 .exI fun i180 =>
 .exI fun i181 =>
 .exS fun a182 n182 c182 =>
 .exS fun a183 n183 c183 =>
 .exI fun i184 =>
 .exI fun i185 =>
 .exI fun i186 =>
 .exS fun a187 n187 c187 =>
 .exS fun a188 n188 c188 =>
 .exS fun a189 n189 c189 =>
 .exS fun a190 n190 c190 =>
 .exI fun i191 =>
 .exS fun a192 n192 c192 =>
 .exS fun a193 n193 c193 =>
 .exS fun a194 n194 c194 =>
 .exS fun a195 n195 c195 =>
 .isL [v175] [.tuple #[.agg #[.int .u64 i176, .int .i64 i177, .int .i64 i178, .int .i64 i179, .int .u64 i180, .int .u64 i181, .slice a182 n182 c182, .slice a183 n183 c183, .int .u64 i184, .int .i64 i185, .int .i64 i186, .slice a187 n187 c187, .slice a188 n188 c188, .slice a189 n189 c189, .slice a190 n190 c190, .int .u64 i191, .slice a192 n192 c192], .agg #[.slice a193 n193 c193, .slice a194 n194 c194, .slice a195 n195 c195]]] <|
 .store ⟨p2, 0, none⟩ [.int .u64 i176, .int .i64 i177, .int .i64 i178, .int .i64 i179, .int .u64 i180, .int .u64 i181, .slice a182 n182 c182, .slice a183 n183 c183, .int .u64 i184, .int .i64 i185, .int .i64 i186, .slice a187 n187 c187, .slice a188 n188 c188, .slice a189 n189 c189, .slice a190 n190 c190, .int .u64 i191, .slice a192 n192 c192] <|
 .store ⟨p3, 0, none⟩ [.slice a193 n193 c193, .slice a194 n194 c194, .slice a195 n195 c195] <|
 .load ⟨p2, 0, none⟩ 17 fun v196 =>
 .exI fun i197 =>
 .exI fun i198 =>
 .exI fun i199 =>
 .exI fun i200 =>
 .exI fun i201 =>
 .exI fun i202 =>
 .exS fun a203 n203 c203 =>
 .exS fun a204 n204 c204 =>
 .exI fun i205 =>
 .exI fun i206 =>
 .exI fun i207 =>
 .exS fun a208 n208 c208 =>
 .exS fun a209 n209 c209 =>
 .exS fun a210 n210 c210 =>
 .exS fun a211 n211 c211 =>
 .exI fun i212 =>
 .exS fun a213 n213 c213 =>
 .isL v196 [.int .u64 i197, .int .i64 i198, .int .i64 i199, .int .i64 i200, .int .u64 i201, .int .u64 i202, .slice a203 n203 c203, .slice a204 n204 c204, .int .u64 i205, .int .i64 i206, .int .i64 i207, .slice a208 n208 c208, .slice a209 n209 c209, .slice a210 n210 c210, .slice a211 n211 c211, .int .u64 i212, .slice a213 n213 c213] <|
 .load ⟨p3, 0, none⟩ 3 fun v214 =>
 .exS fun a215 n215 c215 =>
 .exS fun a216 n216 c216 =>
 .exS fun a217 n217 c217 =>
 .isL v214 [.slice a215 n215 c215, .slice a216 n216 c216, .slice a217 n217 c217] <|
 .ret (.tuple #[.agg #[.int .u64 i197, .int .i64 i198, .int .i64 i199, .int .i64 i200, .int .u64 i201, .int .u64 i202, .slice a203 n203 c203, .slice a204 n204 c204, .int .u64 i205, .int .i64 i206, .int .i64 i207, .slice a208 n208 c208, .slice a209 n209 c209, .slice a210 n210 c210, .slice a211 n211 c211, .int .u64 i212, .slice a213 n213 c213], .agg #[.slice a215 n215 c215, .slice a216 n216 c216, .slice a217 n217 c217]]))
theorem e31 (r0 : Int) (r1 : Int) (r2 : Int) (r3 : Int) (r4 : Int) (r5 : Int) (r6a : Option Addr) (r6n : Nat) (r6c : Nat) (r7a : Option Addr) (r7n : Nat) (r7c : Nat) (r8 : Int) (r9 : Int) (r10 : Int) (r11a : Option Addr) (r11n : Nat) (r11c : Nat) (r12a : Option Addr) (r12n : Nat) (r12c : Nat) (r13a : Option Addr) (r13n : Nat) (r13c : Nat) (r14a : Option Addr) (r14n : Nat) (r14c : Nat) (r15 : Int) (r16a : Option Addr) (r16n : Nat) (r16c : Nat) (statea : Option Addr) (staten : Nat) (statec : Nat) : genFn Try.prog noM noM Try.f31 [.agg #[.int .u64 r0, .int .i64 r1, .int .i64 r2, .int .i64 r3, .int .u64 r4, .int .u64 r5, .slice r6a r6n r6c, .slice r7a r7n r7c, .int .u64 r8, .int .i64 r9, .int .i64 r10, .slice r11a r11n r11c, .slice r12a r12n r12c, .slice r13a r13n r13c, .slice r14a r14n r14c, .int .u64 r15, .slice r16a r16n r16c], .slice statea staten statec] = t31 r0 r1 r2 r3 r4 r5 r6a r6n r6c r7a r7n r7c r8 r9 r10 r11a r11n r11c r12a r12n r12c r13a r13n r13c r14a r14n r14c r15 r16a r16n r16c statea staten statec := by kernel_rfl
theorem r31 (r0 : Int) (r1 : Int) (r2 : Int) (r3 : Int) (r4 : Int) (r5 : Int) (r6a : Option Addr) (r6n : Nat) (r6c : Nat) (r7a : Option Addr) (r7n : Nat) (r7c : Nat) (r8 : Int) (r9 : Int) (r10 : Int) (r11a : Option Addr) (r11n : Nat) (r11c : Nat) (r12a : Option Addr) (r12n : Nat) (r12c : Nat) (r13a : Option Addr) (r13n : Nat) (r13c : Nat) (r14a : Option Addr) (r14n : Nat) (r14c : Nat) (r15 : Int) (r16a : Option Addr) (r16n : Nat) (r16c : Nat) (statea : Option Addr) (staten : Nat) (statec : Nat) {R : Value → World → Prop} {w : World} (h : (t31 r0 r1 r2 r3 r4 r5 r6a r6n r6c r7a r7n r7c r8 r9 r10 r11a r11n r11c r12a r12n r12c r13a r13n r13c r14a r14n r14c r15 r16a r16n r16c statea staten statec).wp Try.prog R (fun _ _ _ => False) w) : Runs Try.prog 31 [.agg #[.int .u64 r0, .int .i64 r1, .int .i64 r2, .int .i64 r3, .int .u64 r4, .int .u64 r5, .slice r6a r6n r6c, .slice r7a r7n r7c, .int .u64 r8, .int .i64 r9, .int .i64 r10, .slice r11a r11n r11c, .slice r12a r12n r12c, .slice r13a r13n r13c, .slice r14a r14n r14c, .int .u64 r15, .slice r16a r16n r16c], .slice statea staten statec] w R :=
 genFn_runs mixed noM noM Try.func31 (by kernel_rfl) (by rw [e31]; exact h)
def lv32 : Marks := (fun | some 14 => some [(96, .int .i64 0)] | _ => none)
def t32 (r0 : Int) (r1 : Int) (r2 : Int) (r3 : Int) (r4 : Int) (r5 : Int) (r6a : Option Addr) (r6n : Nat) (r6c : Nat) (r7a : Option Addr) (r7n : Nat) (r7c : Nat) (r8 : Int) (r9 : Int) (r10 : Int) (r11a : Option Addr) (r11n : Nat) (r11c : Nat) (r12a : Option Addr) (r12n : Nat) (r12c : Nat) (r13a : Option Addr) (r13n : Nat) (r13c : Nat) (r14a : Option Addr) (r14n : Nat) (r14c : Nat) (r15 : Int) (r16a : Option Addr) (r16n : Nat) (r16c : Nat) : VC :=
 .new 36 [.int .u64 r0, .int .i64 r1, .int .i64 r2, .int .i64 r3, .int .u64 r4, .int .u64 r5, .slice r6a r6n r6c, .slice r7a r7n r7c, .int .u64 r8, .int .i64 r9, .int .i64 r10, .slice r11a r11n r11c, .slice r12a r12n r12c, .slice r13a r13n r13c, .slice r14a r14n r14c, .int .u64 r15, .slice r16a r16n r16c] fun p1 =>
 .new 36 [.int .u64 0, .int .i64 0, .int .i64 0, .int .i64 0, .int .u64 0, .int .u64 0, .slice none 0 0, .slice none 0 0, .int .u64 0, .int .i64 0, .int .i64 0, .slice none 0 0, .slice none 0 0, .slice none 0 0, .slice none 0 0, .int .u64 0, .slice none 0 0] fun p2 =>
 .new 48 [.slice none 0 0, .slice none 0 0, .slice none 0 0] fun p3 =>
 .load ⟨p1, 0, none⟩ 17 fun v4 =>
 .exI fun i5 =>
 .exI fun i6 =>
 .exI fun i7 =>
 .exI fun i8 =>
 .exI fun i9 =>
 .exI fun i10 =>
 .exS fun a11 n11 c11 =>
 .exS fun a12 n12 c12 =>
 .exI fun i13 =>
 .exI fun i14 =>
 .exI fun i15 =>
 .exS fun a16 n16 c16 =>
 .exS fun a17 n17 c17 =>
 .exS fun a18 n18 c18 =>
 .exS fun a19 n19 c19 =>
 .exI fun i20 =>
 .exS fun a21 n21 c21 =>
 .isL v4 [.int .u64 i5, .int .i64 i6, .int .i64 i7, .int .i64 i8, .int .u64 i9, .int .u64 i10, .slice a11 n11 c11, .slice a12 n12 c12, .int .u64 i13, .int .i64 i14, .int .i64 i15, .slice a16 n16 c16, .slice a17 n17 c17, .slice a18 n18 c18, .slice a19 n19 c19, .int .u64 i20, .slice a21 n21 c21] <|
 .call 53 ([.agg #[.int .u64 i5, .int .i64 i6, .int .i64 i7, .int .i64 i8, .int .u64 i9, .int .u64 i10, .slice a11 n11 c11, .slice a12 n12 c12, .int .u64 i13, .int .i64 i14, .int .i64 i15, .slice a16 n16 c16, .slice a17 n17 c17, .slice a18 n18 c18, .slice a19 n19 c19, .int .u64 i20, .slice a21 n21 c21]]) fun v22 =>
 .exN fun p23 =>
 .isL [v22] [.pointer (some ⟨p23, 0, none⟩)] <|
 .load ⟨p23, 9, none⟩ 1 fun v24 =>
 .exI fun i25 =>
 .isL v24 [.int .i64 i25] <|
 bif (i25 == 2) then
  (.call 58 ([.pointer (some ⟨p23, 0, none⟩)]) fun v26 =>
  .exI fun i27 =>
  .exI fun i28 =>
  .exI fun i29 =>
  .exI fun i30 =>
  .exI fun i31 =>
  .exI fun i32 =>
  .exS fun a33 n33 c33 =>
  .exS fun a34 n34 c34 =>
  .exI fun i35 =>
  .exI fun i36 =>
  .exI fun i37 =>
  .exS fun a38 n38 c38 =>
  .exS fun a39 n39 c39 =>
  .exS fun a40 n40 c40 =>
  .exS fun a41 n41 c41 =>
  .exI fun i42 =>
  .exS fun a43 n43 c43 =>
  .exS fun a44 n44 c44 =>
  .exS fun a45 n45 c45 =>
  .exS fun a46 n46 c46 =>
  .isL [v26] [.tuple #[.agg #[.int .u64 i27, .int .i64 i28, .int .i64 i29, .int .i64 i30, .int .u64 i31, .int .u64 i32, .slice a33 n33 c33, .slice a34 n34 c34, .int .u64 i35, .int .i64 i36, .int .i64 i37, .slice a38 n38 c38, .slice a39 n39 c39, .slice a40 n40 c40, .slice a41 n41 c41, .int .u64 i42, .slice a43 n43 c43], .agg #[.slice a44 n44 c44, .slice a45 n45 c45, .slice a46 n46 c46]]] <|
  .store ⟨p2, 0, none⟩ [.int .u64 i27, .int .i64 i28, .int .i64 i29, .int .i64 i30, .int .u64 i31, .int .u64 i32, .slice a33 n33 c33, .slice a34 n34 c34, .int .u64 i35, .int .i64 i36, .int .i64 i37, .slice a38 n38 c38, .slice a39 n39 c39, .slice a40 n40 c40, .slice a41 n41 c41, .int .u64 i42, .slice a43 n43 c43] <|
  .store ⟨p3, 0, none⟩ [.slice a44 n44 c44, .slice a45 n45 c45, .slice a46 n46 c46] <|
  .load ⟨p2, 0, none⟩ 17 fun v47 =>
  .exI fun i48 =>
  .exI fun i49 =>
  .exI fun i50 =>
  .exI fun i51 =>
  .exI fun i52 =>
  .exI fun i53 =>
  .exS fun a54 n54 c54 =>
  .exS fun a55 n55 c55 =>
  .exI fun i56 =>
  .exI fun i57 =>
  .exI fun i58 =>
  .exS fun a59 n59 c59 =>
  .exS fun a60 n60 c60 =>
  .exS fun a61 n61 c61 =>
  .exS fun a62 n62 c62 =>
  .exI fun i63 =>
  .exS fun a64 n64 c64 =>
  .isL v47 [.int .u64 i48, .int .i64 i49, .int .i64 i50, .int .i64 i51, .int .u64 i52, .int .u64 i53, .slice a54 n54 c54, .slice a55 n55 c55, .int .u64 i56, .int .i64 i57, .int .i64 i58, .slice a59 n59 c59, .slice a60 n60 c60, .slice a61 n61 c61, .slice a62 n62 c62, .int .u64 i63, .slice a64 n64 c64] <|
  .load ⟨p3, 0, none⟩ 3 fun v65 =>
  .exS fun a66 n66 c66 =>
  .exS fun a67 n67 c67 =>
  .exS fun a68 n68 c68 =>
  .isL v65 [.slice a66 n66 c66, .slice a67 n67 c67, .slice a68 n68 c68] <|
  .ret (.tuple #[.agg #[.int .u64 i48, .int .i64 i49, .int .i64 i50, .int .i64 i51, .int .u64 i52, .int .u64 i53, .slice a54 n54 c54, .slice a55 n55 c55, .int .u64 i56, .int .i64 i57, .int .i64 i58, .slice a59 n59 c59, .slice a60 n60 c60, .slice a61 n61 c61, .slice a62 n62 c62, .int .u64 i63, .slice a64 n64 c64], .agg #[.slice a66 n66 c66, .slice a67 n67 c67, .slice a68 n68 c68]]))
 else
 (.load ⟨p1, 0, none⟩ 17 fun v69 =>
 .exI fun i70 =>
 .exI fun i71 =>
 .exI fun i72 =>
 .exI fun i73 =>
 .exI fun i74 =>
 .exI fun i75 =>
 .exS fun a76 n76 c76 =>
 .exS fun a77 n77 c77 =>
 .exI fun i78 =>
 .exI fun i79 =>
 .exI fun i80 =>
 .exS fun a81 n81 c81 =>
 .exS fun a82 n82 c82 =>
 .exS fun a83 n83 c83 =>
 .exS fun a84 n84 c84 =>
 .exI fun i85 =>
 .exS fun a86 n86 c86 =>
 .isL v69 [.int .u64 i70, .int .i64 i71, .int .i64 i72, .int .i64 i73, .int .u64 i74, .int .u64 i75, .slice a76 n76 c76, .slice a77 n77 c77, .int .u64 i78, .int .i64 i79, .int .i64 i80, .slice a81 n81 c81, .slice a82 n82 c82, .slice a83 n83 c83, .slice a84 n84 c84, .int .u64 i85, .slice a86 n86 c86] <|
 .call 59 ([.agg #[.int .u64 i70, .int .i64 i71, .int .i64 i72, .int .i64 i73, .int .u64 i74, .int .u64 i75, .slice a76 n76 c76, .slice a77 n77 c77, .int .u64 i78, .int .i64 i79, .int .i64 i80, .slice a81 n81 c81, .slice a82 n82 c82, .slice a83 n83 c83, .slice a84 n84 c84, .int .u64 i85, .slice a86 n86 c86]]) fun v87 =>
 .exB fun b88 =>
 .isL [v87] [.bool b88] <|
 bif !b88 then
  (.call 58 ([.pointer (some ⟨p23, 0, none⟩)]) fun v89 =>
  .exI fun i90 =>
  .exI fun i91 =>
  .exI fun i92 =>
  .exI fun i93 =>
  .exI fun i94 =>
  .exI fun i95 =>
  .exS fun a96 n96 c96 =>
  .exS fun a97 n97 c97 =>
  .exI fun i98 =>
  .exI fun i99 =>
  .exI fun i100 =>
  .exS fun a101 n101 c101 =>
  .exS fun a102 n102 c102 =>
  .exS fun a103 n103 c103 =>
  .exS fun a104 n104 c104 =>
  .exI fun i105 =>
  .exS fun a106 n106 c106 =>
  .exS fun a107 n107 c107 =>
  .exS fun a108 n108 c108 =>
  .exS fun a109 n109 c109 =>
  .isL [v89] [.tuple #[.agg #[.int .u64 i90, .int .i64 i91, .int .i64 i92, .int .i64 i93, .int .u64 i94, .int .u64 i95, .slice a96 n96 c96, .slice a97 n97 c97, .int .u64 i98, .int .i64 i99, .int .i64 i100, .slice a101 n101 c101, .slice a102 n102 c102, .slice a103 n103 c103, .slice a104 n104 c104, .int .u64 i105, .slice a106 n106 c106], .agg #[.slice a107 n107 c107, .slice a108 n108 c108, .slice a109 n109 c109]]] <|
  .store ⟨p2, 0, none⟩ [.int .u64 i90, .int .i64 i91, .int .i64 i92, .int .i64 i93, .int .u64 i94, .int .u64 i95, .slice a96 n96 c96, .slice a97 n97 c97, .int .u64 i98, .int .i64 i99, .int .i64 i100, .slice a101 n101 c101, .slice a102 n102 c102, .slice a103 n103 c103, .slice a104 n104 c104, .int .u64 i105, .slice a106 n106 c106] <|
  .store ⟨p3, 0, none⟩ [.slice a107 n107 c107, .slice a108 n108 c108, .slice a109 n109 c109] <|
  .load ⟨p2, 0, none⟩ 17 fun v110 =>
  .exI fun i111 =>
  .exI fun i112 =>
  .exI fun i113 =>
  .exI fun i114 =>
  .exI fun i115 =>
  .exI fun i116 =>
  .exS fun a117 n117 c117 =>
  .exS fun a118 n118 c118 =>
  .exI fun i119 =>
  .exI fun i120 =>
  .exI fun i121 =>
  .exS fun a122 n122 c122 =>
  .exS fun a123 n123 c123 =>
  .exS fun a124 n124 c124 =>
  .exS fun a125 n125 c125 =>
  .exI fun i126 =>
  .exS fun a127 n127 c127 =>
  .isL v110 [.int .u64 i111, .int .i64 i112, .int .i64 i113, .int .i64 i114, .int .u64 i115, .int .u64 i116, .slice a117 n117 c117, .slice a118 n118 c118, .int .u64 i119, .int .i64 i120, .int .i64 i121, .slice a122 n122 c122, .slice a123 n123 c123, .slice a124 n124 c124, .slice a125 n125 c125, .int .u64 i126, .slice a127 n127 c127] <|
  .load ⟨p3, 0, none⟩ 3 fun v128 =>
  .exS fun a129 n129 c129 =>
  .exS fun a130 n130 c130 =>
  .exS fun a131 n131 c131 =>
  .isL v128 [.slice a129 n129 c129, .slice a130 n130 c130, .slice a131 n131 c131] <|
  .ret (.tuple #[.agg #[.int .u64 i111, .int .i64 i112, .int .i64 i113, .int .i64 i114, .int .u64 i115, .int .u64 i116, .slice a117 n117 c117, .slice a118 n118 c118, .int .u64 i119, .int .i64 i120, .int .i64 i121, .slice a122 n122 c122, .slice a123 n123 c123, .slice a124 n124 c124, .slice a125 n125 c125, .int .u64 i126, .slice a127 n127 c127], .agg #[.slice a129 n129 c129, .slice a130 n130 c130, .slice a131 n131 c131]]))
 else
 (.draw <|
 .load ⟨p23, 0, none⟩ 1 fun v132 =>
 .exI fun i133 =>
 .isL v132 [.int .u64 i133] <|
 .load ⟨p23, 2, none⟩ 1 fun v134 =>
 .exI fun i135 =>
 .isL v134 [.int .i64 i135] <|
 .store ⟨p23, 0, none⟩ [.int .u64 (IntKind.u64.wrap (i133 + 1)), .int .i64 i135] <|
 .store ⟨p23, 9, none⟩ [.int .i64 1] <|
 .store ⟨p23, 10, none⟩ [.int .i64 0] <|
 .call 60 ([.pointer (some ⟨p23, 0, none⟩)]) fun v136 =>
 .isL [v136] [.tuple #[]] <|
 .load ⟨p23, 3, none⟩ 1 fun v137 =>
 .exI fun i138 =>
 .isL v137 [.int .i64 i138] <|
 .need (i138 = i138) <|
 .make 4 1 [.bool false] i138 fun p139 =>
 .store ⟨p23, 11, none⟩ [.slice (some ⟨p139, 0, none⟩) i138.toNat i138.toNat] <|
 .draw <|
 .load ⟨p23, 11, none⟩ 1 fun v140 =>
 .exS fun a141 n141 c141 =>
 .isL v140 [.slice a141 n141 c141] <|
 .load ⟨p23, 2, none⟩ 1 fun v142 =>
 .exI fun i143 =>
 .isL v142 [.int .i64 i143] <|
 .some a141 fun x144 =>
 .need ((0 : Int) ≤ IntKind.i64.wrap (i143 - 1) ∧ IntKind.i64.wrap (i143 - 1) < (↑n141 : Int)) <|
 .store (x144.add ((IntKind.i64.wrap (i143 - 1)).toNat * 1)) [.bool true] <|
 .call 61 ([.pointer (some ⟨p23, 0, none⟩)]) fun v145 =>
 .isL [v145] [.tuple #[]] <|
 .call 62 ([.pointer (some ⟨p23, 0, none⟩)]) fun v146 =>
 .isL [v146] [.tuple #[]] <|
 .load ⟨p23, 9, none⟩ 1 fun v147 =>
 .exI fun i148 =>
 .isL v147 [.int .i64 i148] <|
 bif (i148 != 2) then
  (.load ⟨p23, 0, none⟩ 17 fun v149 =>
  .exI fun i150 =>
  .exI fun i151 =>
  .exI fun i152 =>
  .exI fun i153 =>
  .exI fun i154 =>
  .exI fun i155 =>
  .exS fun a156 n156 c156 =>
  .exS fun a157 n157 c157 =>
  .exI fun i158 =>
  .exI fun i159 =>
  .exI fun i160 =>
  .exS fun a161 n161 c161 =>
  .exS fun a162 n162 c162 =>
  .exS fun a163 n163 c163 =>
  .exS fun a164 n164 c164 =>
  .exI fun i165 =>
  .exS fun a166 n166 c166 =>
  .isL v149 [.int .u64 i150, .int .i64 i151, .int .i64 i152, .int .i64 i153, .int .u64 i154, .int .u64 i155, .slice a156 n156 c156, .slice a157 n157 c157, .int .u64 i158, .int .i64 i159, .int .i64 i160, .slice a161 n161 c161, .slice a162 n162 c162, .slice a163 n163 c163, .slice a164 n164 c164, .int .u64 i165, .slice a166 n166 c166] <|
  .call 25 ([.agg #[.int .u64 i150, .int .i64 i151, .int .i64 i152, .int .i64 i153, .int .u64 i154, .int .u64 i155, .slice a156 n156 c156, .slice a157 n157 c157, .int .u64 i158, .int .i64 i159, .int .i64 i160, .slice a161 n161 c161, .slice a162 n162 c162, .slice a163 n163 c163, .slice a164 n164 c164, .int .u64 i165, .slice a166 n166 c166]]) fun v167 =>
  .exI fun i168 =>
  .exI fun i169 =>
  .isL [v167] [.tuple #[.int .u64 i168, .int .u64 i169]] <|
  .call 63 ([.pointer (some ⟨p23, 0, none⟩)]) fun v170 =>
  .exS fun a171 n171 c171 =>
  .isL [v170] [.slice a171 n171 c171] <|
  .loop 0 [.int .i64 0] (fun v172 =>
   .exI fun i173 =>
   .isL v172 [.int .i64 i173] <|
   bif (decide (i173 < (↑n171 : Int))) then
    (.some a171 fun x174 =>
    .need ((0 : Int) ≤ i173 ∧ i173 < (↑n171 : Int)) <|
    .load (x174.add (i173.toNat * 1)) 1 fun v175 =>
    .exI fun i176 =>
    .isL v175 [.int .i64 i176] <|
    .new 70 [.int .i64 1, .int .i64 0, .int .i64 i176, .int .u64 0, .int .u64 i168, .int .u64 i169, .slice none 0 0, .int .u64 0, .int .u64 0, .bool false, .int .u64 0, .int .u64 0, .slice none 0 0, .int .i64 0, .int .i64 0, .int .u64 0, .string ({ data := #[] }), .string ({ data := #[] }), .int .u64 0, .int .i64 0, .string ({ data := #[] })] fun p177 =>
    .call 64 ([.pointer (some ⟨p23, 0, none⟩), .slice (some ⟨p177, 0, none⟩) 1 1]) fun v178 =>
    .isL [v178] [.tuple #[]] <|
    .again 0 [.int .i64 (IntKind.i64.wrap (i173 + 1))])
   else
   (.call 58 ([.pointer (some ⟨p23, 0, none⟩)]) fun v179 =>
   .exI fun i180 =>
   .exI fun i181 =>
   .exI fun i182 =>
   .exI fun i183 =>
   .exI fun i184 =>
   .exI fun i185 =>
   .exS fun a186 n186 c186 =>
   .exS fun a187 n187 c187 =>
   .exI fun i188 =>
   .exI fun i189 =>
   .exI fun i190 =>
   .exS fun a191 n191 c191 =>
   .exS fun a192 n192 c192 =>
   .exS fun a193 n193 c193 =>
   .exS fun a194 n194 c194 =>
   .exI fun i195 =>
   .exS fun a196 n196 c196 =>
   .exS fun a197 n197 c197 =>
   .exS fun a198 n198 c198 =>
   .exS fun a199 n199 c199 =>
   .isL [v179] [.tuple #[.agg #[.int .u64 i180, .int .i64 i181, .int .i64 i182, .int .i64 i183, .int .u64 i184, .int .u64 i185, .slice a186 n186 c186, .slice a187 n187 c187, .int .u64 i188, .int .i64 i189, .int .i64 i190, .slice a191 n191 c191, .slice a192 n192 c192, .slice a193 n193 c193, .slice a194 n194 c194, .int .u64 i195, .slice a196 n196 c196], .agg #[.slice a197 n197 c197, .slice a198 n198 c198, .slice a199 n199 c199]]] <|
   .store ⟨p2, 0, none⟩ [.int .u64 i180, .int .i64 i181, .int .i64 i182, .int .i64 i183, .int .u64 i184, .int .u64 i185, .slice a186 n186 c186, .slice a187 n187 c187, .int .u64 i188, .int .i64 i189, .int .i64 i190, .slice a191 n191 c191, .slice a192 n192 c192, .slice a193 n193 c193, .slice a194 n194 c194, .int .u64 i195, .slice a196 n196 c196] <|
   .store ⟨p3, 0, none⟩ [.slice a197 n197 c197, .slice a198 n198 c198, .slice a199 n199 c199] <|
   .load ⟨p2, 0, none⟩ 17 fun v200 =>
   .exI fun i201 =>
   .exI fun i202 =>
   .exI fun i203 =>
   .exI fun i204 =>
   .exI fun i205 =>
   .exI fun i206 =>
   .exS fun a207 n207 c207 =>
   .exS fun a208 n208 c208 =>
   .exI fun i209 =>
   .exI fun i210 =>
   .exI fun i211 =>
   .exS fun a212 n212 c212 =>
   .exS fun a213 n213 c213 =>
   .exS fun a214 n214 c214 =>
   .exS fun a215 n215 c215 =>
   .exI fun i216 =>
   .exS fun a217 n217 c217 =>
   .isL v200 [.int .u64 i201, .int .i64 i202, .int .i64 i203, .int .i64 i204, .int .u64 i205, .int .u64 i206, .slice a207 n207 c207, .slice a208 n208 c208, .int .u64 i209, .int .i64 i210, .int .i64 i211, .slice a212 n212 c212, .slice a213 n213 c213, .slice a214 n214 c214, .slice a215 n215 c215, .int .u64 i216, .slice a217 n217 c217] <|
   .load ⟨p3, 0, none⟩ 3 fun v218 =>
   .exS fun a219 n219 c219 =>
   .exS fun a220 n220 c220 =>
   .exS fun a221 n221 c221 =>
   .isL v218 [.slice a219 n219 c219, .slice a220 n220 c220, .slice a221 n221 c221] <|
   .ret (.tuple #[.agg #[.int .u64 i201, .int .i64 i202, .int .i64 i203, .int .i64 i204, .int .u64 i205, .int .u64 i206, .slice a207 n207 c207, .slice a208 n208 c208, .int .u64 i209, .int .i64 i210, .int .i64 i211, .slice a212 n212 c212, .slice a213 n213 c213, .slice a214 n214 c214, .slice a215 n215 c215, .int .u64 i216, .slice a217 n217 c217], .agg #[.slice a219 n219 c219, .slice a220 n220 c220, .slice a221 n221 c221]]))))
 else
 (.call 58 ([.pointer (some ⟨p23, 0, none⟩)]) fun v222 =>
 .exI fun i223 =>
 .exI fun i224 =>
 .exI fun i225 =>
 .exI fun i226 =>
 .exI fun i227 =>
 .exI fun i228 =>
 .exS fun a229 n229 c229 =>
 .exS fun a230 n230 c230 =>
 .exI fun i231 =>
 .exI fun i232 =>
 .exI fun i233 =>
 .exS fun a234 n234 c234 =>
 .exS fun a235 n235 c235 =>
 .exS fun a236 n236 c236 =>
 .exS fun a237 n237 c237 =>
 .exI fun i238 =>
 .exS fun a239 n239 c239 =>
 .exS fun a240 n240 c240 =>
 .exS fun a241 n241 c241 =>
 .exS fun a242 n242 c242 =>
 .isL [v222] [.tuple #[.agg #[.int .u64 i223, .int .i64 i224, .int .i64 i225, .int .i64 i226, .int .u64 i227, .int .u64 i228, .slice a229 n229 c229, .slice a230 n230 c230, .int .u64 i231, .int .i64 i232, .int .i64 i233, .slice a234 n234 c234, .slice a235 n235 c235, .slice a236 n236 c236, .slice a237 n237 c237, .int .u64 i238, .slice a239 n239 c239], .agg #[.slice a240 n240 c240, .slice a241 n241 c241, .slice a242 n242 c242]]] <|
 .store ⟨p2, 0, none⟩ [.int .u64 i223, .int .i64 i224, .int .i64 i225, .int .i64 i226, .int .u64 i227, .int .u64 i228, .slice a229 n229 c229, .slice a230 n230 c230, .int .u64 i231, .int .i64 i232, .int .i64 i233, .slice a234 n234 c234, .slice a235 n235 c235, .slice a236 n236 c236, .slice a237 n237 c237, .int .u64 i238, .slice a239 n239 c239] <|
 .store ⟨p3, 0, none⟩ [.slice a240 n240 c240, .slice a241 n241 c241, .slice a242 n242 c242] <|
 .load ⟨p2, 0, none⟩ 17 fun v243 =>
 .exI fun i244 =>
 .exI fun i245 =>
 .exI fun i246 =>
 .exI fun i247 =>
 .exI fun i248 =>
 .exI fun i249 =>
 .exS fun a250 n250 c250 =>
 .exS fun a251 n251 c251 =>
 .exI fun i252 =>
 .exI fun i253 =>
 .exI fun i254 =>
 .exS fun a255 n255 c255 =>
 .exS fun a256 n256 c256 =>
 .exS fun a257 n257 c257 =>
 .exS fun a258 n258 c258 =>
 .exI fun i259 =>
 .exS fun a260 n260 c260 =>
 .isL v243 [.int .u64 i244, .int .i64 i245, .int .i64 i246, .int .i64 i247, .int .u64 i248, .int .u64 i249, .slice a250 n250 c250, .slice a251 n251 c251, .int .u64 i252, .int .i64 i253, .int .i64 i254, .slice a255 n255 c255, .slice a256 n256 c256, .slice a257 n257 c257, .slice a258 n258 c258, .int .u64 i259, .slice a260 n260 c260] <|
 .load ⟨p3, 0, none⟩ 3 fun v261 =>
 .exS fun a262 n262 c262 =>
 .exS fun a263 n263 c263 =>
 .exS fun a264 n264 c264 =>
 .isL v261 [.slice a262 n262 c262, .slice a263 n263 c263, .slice a264 n264 c264] <|
 .ret (.tuple #[.agg #[.int .u64 i244, .int .i64 i245, .int .i64 i246, .int .i64 i247, .int .u64 i248, .int .u64 i249, .slice a250 n250 c250, .slice a251 n251 c251, .int .u64 i252, .int .i64 i253, .int .i64 i254, .slice a255 n255 c255, .slice a256 n256 c256, .slice a257 n257 c257, .slice a258 n258 c258, .int .u64 i259, .slice a260 n260 c260], .agg #[.slice a262 n262 c262, .slice a263 n263 c263, .slice a264 n264 c264]]))))
theorem e32 (r0 : Int) (r1 : Int) (r2 : Int) (r3 : Int) (r4 : Int) (r5 : Int) (r6a : Option Addr) (r6n : Nat) (r6c : Nat) (r7a : Option Addr) (r7n : Nat) (r7c : Nat) (r8 : Int) (r9 : Int) (r10 : Int) (r11a : Option Addr) (r11n : Nat) (r11c : Nat) (r12a : Option Addr) (r12n : Nat) (r12c : Nat) (r13a : Option Addr) (r13n : Nat) (r13c : Nat) (r14a : Option Addr) (r14n : Nat) (r14c : Nat) (r15 : Int) (r16a : Option Addr) (r16n : Nat) (r16c : Nat) : genFn Try.prog lv32 noM Try.f32 [.agg #[.int .u64 r0, .int .i64 r1, .int .i64 r2, .int .i64 r3, .int .u64 r4, .int .u64 r5, .slice r6a r6n r6c, .slice r7a r7n r7c, .int .u64 r8, .int .i64 r9, .int .i64 r10, .slice r11a r11n r11c, .slice r12a r12n r12c, .slice r13a r13n r13c, .slice r14a r14n r14c, .int .u64 r15, .slice r16a r16n r16c]] = t32 r0 r1 r2 r3 r4 r5 r6a r6n r6c r7a r7n r7c r8 r9 r10 r11a r11n r11c r12a r12n r12c r13a r13n r13c r14a r14n r14c r15 r16a r16n r16c := by kernel_rfl
theorem r32 (r0 : Int) (r1 : Int) (r2 : Int) (r3 : Int) (r4 : Int) (r5 : Int) (r6a : Option Addr) (r6n : Nat) (r6c : Nat) (r7a : Option Addr) (r7n : Nat) (r7c : Nat) (r8 : Int) (r9 : Int) (r10 : Int) (r11a : Option Addr) (r11n : Nat) (r11c : Nat) (r12a : Option Addr) (r12n : Nat) (r12c : Nat) (r13a : Option Addr) (r13n : Nat) (r13c : Nat) (r14a : Option Addr) (r14n : Nat) (r14c : Nat) (r15 : Int) (r16a : Option Addr) (r16n : Nat) (r16c : Nat) {R : Value → World → Prop} {w : World} (h : (t32 r0 r1 r2 r3 r4 r5 r6a r6n r6c r7a r7n r7c r8 r9 r10 r11a r11n r11c r12a r12n r12c r13a r13n r13c r14a r14n r14c r15 r16a r16n r16c).wp Try.prog R (fun _ _ _ => False) w) : Runs Try.prog 32 [.agg #[.int .u64 r0, .int .i64 r1, .int .i64 r2, .int .i64 r3, .int .u64 r4, .int .u64 r5, .slice r6a r6n r6c, .slice r7a r7n r7c, .int .u64 r8, .int .i64 r9, .int .i64 r10, .slice r11a r11n r11c, .slice r12a r12n r12c, .slice r13a r13n r13c, .slice r14a r14n r14c, .int .u64 r15, .slice r16a r16n r16c]] w R :=
 genFn_runs mixed lv32 noM Try.func32 (by kernel_rfl) (by rw [e32]; exact h)
def t33 (r0 : Int) (r1 : Int) (r2 : Int) (r3 : Int) (r4 : Int) (r5 : Int) (r6a : Option Addr) (r6n : Nat) (r6c : Nat) (r7a : Option Addr) (r7n : Nat) (r7c : Nat) (r8 : Int) (r9 : Int) (r10 : Int) (r11a : Option Addr) (r11n : Nat) (r11c : Nat) (r12a : Option Addr) (r12n : Nat) (r12c : Nat) (r13a : Option Addr) (r13n : Nat) (r13c : Nat) (r14a : Option Addr) (r14n : Nat) (r14c : Nat) (r15 : Int) (r16a : Option Addr) (r16n : Nat) (r16c : Nat) (dataa : Option Addr) (datan : Nat) (datac : Nat) : VC :=
 .new 36 [.int .u64 r0, .int .i64 r1, .int .i64 r2, .int .i64 r3, .int .u64 r4, .int .u64 r5, .slice r6a r6n r6c, .slice r7a r7n r7c, .int .u64 r8, .int .i64 r9, .int .i64 r10, .slice r11a r11n r11c, .slice r12a r12n r12c, .slice r13a r13n r13c, .slice r14a r14n r14c, .int .u64 r15, .slice r16a r16n r16c] fun p1 =>
 .new 36 [.int .u64 0, .int .i64 0, .int .i64 0, .int .i64 0, .int .u64 0, .int .u64 0, .slice none 0 0, .slice none 0 0, .int .u64 0, .int .i64 0, .int .i64 0, .slice none 0 0, .slice none 0 0, .slice none 0 0, .slice none 0 0, .int .u64 0, .slice none 0 0] fun p2 =>
 .new 48 [.slice none 0 0, .slice none 0 0, .slice none 0 0] fun p3 =>
 .load ⟨p1, 0, none⟩ 17 fun v4 =>
 .exI fun i5 =>
 .exI fun i6 =>
 .exI fun i7 =>
 .exI fun i8 =>
 .exI fun i9 =>
 .exI fun i10 =>
 .exS fun a11 n11 c11 =>
 .exS fun a12 n12 c12 =>
 .exI fun i13 =>
 .exI fun i14 =>
 .exI fun i15 =>
 .exS fun a16 n16 c16 =>
 .exS fun a17 n17 c17 =>
 .exS fun a18 n18 c18 =>
 .exS fun a19 n19 c19 =>
 .exI fun i20 =>
 .exS fun a21 n21 c21 =>
 .isL v4 [.int .u64 i5, .int .i64 i6, .int .i64 i7, .int .i64 i8, .int .u64 i9, .int .u64 i10, .slice a11 n11 c11, .slice a12 n12 c12, .int .u64 i13, .int .i64 i14, .int .i64 i15, .slice a16 n16 c16, .slice a17 n17 c17, .slice a18 n18 c18, .slice a19 n19 c19, .int .u64 i20, .slice a21 n21 c21] <|
 .call 53 ([.agg #[.int .u64 i5, .int .i64 i6, .int .i64 i7, .int .i64 i8, .int .u64 i9, .int .u64 i10, .slice a11 n11 c11, .slice a12 n12 c12, .int .u64 i13, .int .i64 i14, .int .i64 i15, .slice a16 n16 c16, .slice a17 n17 c17, .slice a18 n18 c18, .slice a19 n19 c19, .int .u64 i20, .slice a21 n21 c21]]) fun v22 =>
 .exN fun p23 =>
 .isL [v22] [.pointer (some ⟨p23, 0, none⟩)] <|
 .load ⟨p23, 9, none⟩ 1 fun v24 =>
 .exI fun i25 =>
 .isL v24 [.int .i64 i25] <|
 bif (i25 != 2) then
  (.store ⟨p2, 0, none⟩ [.int .u64 0, .int .i64 0, .int .i64 0, .int .i64 0, .int .u64 0, .int .u64 0, .slice none 0 0, .slice none 0 0, .int .u64 0, .int .i64 0, .int .i64 0, .slice none 0 0, .slice none 0 0, .slice none 0 0, .slice none 0 0, .int .u64 0, .slice none 0 0] <|
  .store ⟨p3, 0, none⟩ [.slice none 0 0, .slice none 0 0, .slice none 0 0] <|
  .load ⟨p2, 0, none⟩ 17 fun v26 =>
  .exI fun i27 =>
  .exI fun i28 =>
  .exI fun i29 =>
  .exI fun i30 =>
  .exI fun i31 =>
  .exI fun i32 =>
  .exS fun a33 n33 c33 =>
  .exS fun a34 n34 c34 =>
  .exI fun i35 =>
  .exI fun i36 =>
  .exI fun i37 =>
  .exS fun a38 n38 c38 =>
  .exS fun a39 n39 c39 =>
  .exS fun a40 n40 c40 =>
  .exS fun a41 n41 c41 =>
  .exI fun i42 =>
  .exS fun a43 n43 c43 =>
  .isL v26 [.int .u64 i27, .int .i64 i28, .int .i64 i29, .int .i64 i30, .int .u64 i31, .int .u64 i32, .slice a33 n33 c33, .slice a34 n34 c34, .int .u64 i35, .int .i64 i36, .int .i64 i37, .slice a38 n38 c38, .slice a39 n39 c39, .slice a40 n40 c40, .slice a41 n41 c41, .int .u64 i42, .slice a43 n43 c43] <|
  .load ⟨p3, 0, none⟩ 3 fun v44 =>
  .exS fun a45 n45 c45 =>
  .exS fun a46 n46 c46 =>
  .exS fun a47 n47 c47 =>
  .isL v44 [.slice a45 n45 c45, .slice a46 n46 c46, .slice a47 n47 c47] <|
  .ret (.tuple #[.agg #[.int .u64 i27, .int .i64 i28, .int .i64 i29, .int .i64 i30, .int .u64 i31, .int .u64 i32, .slice a33 n33 c33, .slice a34 n34 c34, .int .u64 i35, .int .i64 i36, .int .i64 i37, .slice a38 n38 c38, .slice a39 n39 c39, .slice a40 n40 c40, .slice a41 n41 c41, .int .u64 i42, .slice a43 n43 c43], .agg #[.slice a45 n45 c45, .slice a46 n46 c46, .slice a47 n47 c47], .bool false]))
 else
 (.load ⟨p1, 0, none⟩ 17 fun v48 =>
 .exI fun i49 =>
 .exI fun i50 =>
 .exI fun i51 =>
 .exI fun i52 =>
 .exI fun i53 =>
 .exI fun i54 =>
 .exS fun a55 n55 c55 =>
 .exS fun a56 n56 c56 =>
 .exI fun i57 =>
 .exI fun i58 =>
 .exI fun i59 =>
 .exS fun a60 n60 c60 =>
 .exS fun a61 n61 c61 =>
 .exS fun a62 n62 c62 =>
 .exS fun a63 n63 c63 =>
 .exI fun i64 =>
 .exS fun a65 n65 c65 =>
 .isL v48 [.int .u64 i49, .int .i64 i50, .int .i64 i51, .int .i64 i52, .int .u64 i53, .int .u64 i54, .slice a55 n55 c55, .slice a56 n56 c56, .int .u64 i57, .int .i64 i58, .int .i64 i59, .slice a60 n60 c60, .slice a61 n61 c61, .slice a62 n62 c62, .slice a63 n63 c63, .int .u64 i64, .slice a65 n65 c65] <|
 .call 59 ([.agg #[.int .u64 i49, .int .i64 i50, .int .i64 i51, .int .i64 i52, .int .u64 i53, .int .u64 i54, .slice a55 n55 c55, .slice a56 n56 c56, .int .u64 i57, .int .i64 i58, .int .i64 i59, .slice a60 n60 c60, .slice a61 n61 c61, .slice a62 n62 c62, .slice a63 n63 c63, .int .u64 i64, .slice a65 n65 c65]]) fun v66 =>
 .exB fun b67 =>
 .isL [v66] [.bool b67] <|
 bif !b67 then
  (.store ⟨p2, 0, none⟩ [.int .u64 0, .int .i64 0, .int .i64 0, .int .i64 0, .int .u64 0, .int .u64 0, .slice none 0 0, .slice none 0 0, .int .u64 0, .int .i64 0, .int .i64 0, .slice none 0 0, .slice none 0 0, .slice none 0 0, .slice none 0 0, .int .u64 0, .slice none 0 0] <|
  .store ⟨p3, 0, none⟩ [.slice none 0 0, .slice none 0 0, .slice none 0 0] <|
  .load ⟨p2, 0, none⟩ 17 fun v68 =>
  .exI fun i69 =>
  .exI fun i70 =>
  .exI fun i71 =>
  .exI fun i72 =>
  .exI fun i73 =>
  .exI fun i74 =>
  .exS fun a75 n75 c75 =>
  .exS fun a76 n76 c76 =>
  .exI fun i77 =>
  .exI fun i78 =>
  .exI fun i79 =>
  .exS fun a80 n80 c80 =>
  .exS fun a81 n81 c81 =>
  .exS fun a82 n82 c82 =>
  .exS fun a83 n83 c83 =>
  .exI fun i84 =>
  .exS fun a85 n85 c85 =>
  .isL v68 [.int .u64 i69, .int .i64 i70, .int .i64 i71, .int .i64 i72, .int .u64 i73, .int .u64 i74, .slice a75 n75 c75, .slice a76 n76 c76, .int .u64 i77, .int .i64 i78, .int .i64 i79, .slice a80 n80 c80, .slice a81 n81 c81, .slice a82 n82 c82, .slice a83 n83 c83, .int .u64 i84, .slice a85 n85 c85] <|
  .load ⟨p3, 0, none⟩ 3 fun v86 =>
  .exS fun a87 n87 c87 =>
  .exS fun a88 n88 c88 =>
  .exS fun a89 n89 c89 =>
  .isL v86 [.slice a87 n87 c87, .slice a88 n88 c88, .slice a89 n89 c89] <|
  .ret (.tuple #[.agg #[.int .u64 i69, .int .i64 i70, .int .i64 i71, .int .i64 i72, .int .u64 i73, .int .u64 i74, .slice a75 n75 c75, .slice a76 n76 c76, .int .u64 i77, .int .i64 i78, .int .i64 i79, .slice a80 n80 c80, .slice a81 n81 c81, .slice a82 n82 c82, .slice a83 n83 c83, .int .u64 i84, .slice a85 n85 c85], .agg #[.slice a87 n87 c87, .slice a88 n88 c88, .slice a89 n89 c89], .bool false]))
 else
 (.call 65 ([.pointer (some ⟨p23, 0, none⟩), .slice dataa datan datac]) fun v90 =>
 .isL [v90] [.tuple #[]] <|
 .call 66 ([.pointer (some ⟨p23, 0, none⟩)]) fun v91 =>
 .isL [v91] [.tuple #[]] <|
 .call 67 ([.pointer (some ⟨p23, 0, none⟩)]) fun v92 =>
 .isL [v92] [.tuple #[]] <|
 .draw <|
 .load ⟨p23, 0, none⟩ 17 fun v93 =>
 .exI fun i94 =>
 .exI fun i95 =>
 .exI fun i96 =>
 .exI fun i97 =>
 .exI fun i98 =>
 .exI fun i99 =>
 .exS fun a100 n100 c100 =>
 .exS fun a101 n101 c101 =>
 .exI fun i102 =>
 .exI fun i103 =>
 .exI fun i104 =>
 .exS fun a105 n105 c105 =>
 .exS fun a106 n106 c106 =>
 .exS fun a107 n107 c107 =>
 .exS fun a108 n108 c108 =>
 .exI fun i109 =>
 .exS fun a110 n110 c110 =>
 .isL v93 [.int .u64 i94, .int .i64 i95, .int .i64 i96, .int .i64 i97, .int .u64 i98, .int .u64 i99, .slice a100 n100 c100, .slice a101 n101 c101, .int .u64 i102, .int .i64 i103, .int .i64 i104, .slice a105 n105 c105, .slice a106 n106 c106, .slice a107 n107 c107, .slice a108 n108 c108, .int .u64 i109, .slice a110 n110 c110] <|
 .load ⟨p23, 17, none⟩ 3 fun v111 =>
 .exS fun a112 n112 c112 =>
 .exS fun a113 n113 c113 =>
 .exS fun a114 n114 c114 =>
 .isL v111 [.slice a112 n112 c112, .slice a113 n113 c113, .slice a114 n114 c114] <|
 .store ⟨p2, 0, none⟩ [.int .u64 i94, .int .i64 i95, .int .i64 i96, .int .i64 i97, .int .u64 i98, .int .u64 i99, .slice a100 n100 c100, .slice a101 n101 c101, .int .u64 i102, .int .i64 i103, .int .i64 i104, .slice a105 n105 c105, .slice a106 n106 c106, .slice a107 n107 c107, .slice a108 n108 c108, .int .u64 i109, .slice a110 n110 c110] <|
 .hold [(⟨p23, 17, none⟩, [.slice a112 n112 c112, .slice a113 n113 c113, .slice a114 n114 c114])] <|
 .store ⟨p3, 0, none⟩ [.slice a112 n112 c112, .slice a113 n113 c113, .slice a114 n114 c114] <|
 .load ⟨p2, 0, none⟩ 17 fun v115 =>
 .exI fun i116 =>
 .exI fun i117 =>
 .exI fun i118 =>
 .exI fun i119 =>
 .exI fun i120 =>
 .exI fun i121 =>
 .exS fun a122 n122 c122 =>
 .exS fun a123 n123 c123 =>
 .exI fun i124 =>
 .exI fun i125 =>
 .exI fun i126 =>
 .exS fun a127 n127 c127 =>
 .exS fun a128 n128 c128 =>
 .exS fun a129 n129 c129 =>
 .exS fun a130 n130 c130 =>
 .exI fun i131 =>
 .exS fun a132 n132 c132 =>
 .isL v115 [.int .u64 i116, .int .i64 i117, .int .i64 i118, .int .i64 i119, .int .u64 i120, .int .u64 i121, .slice a122 n122 c122, .slice a123 n123 c123, .int .u64 i124, .int .i64 i125, .int .i64 i126, .slice a127 n127 c127, .slice a128 n128 c128, .slice a129 n129 c129, .slice a130 n130 c130, .int .u64 i131, .slice a132 n132 c132] <|
 .load ⟨p3, 0, none⟩ 3 fun v133 =>
 .exS fun a134 n134 c134 =>
 .exS fun a135 n135 c135 =>
 .exS fun a136 n136 c136 =>
 .isL v133 [.slice a134 n134 c134, .slice a135 n135 c135, .slice a136 n136 c136] <|
 .ret (.tuple #[.agg #[.int .u64 i116, .int .i64 i117, .int .i64 i118, .int .i64 i119, .int .u64 i120, .int .u64 i121, .slice a122 n122 c122, .slice a123 n123 c123, .int .u64 i124, .int .i64 i125, .int .i64 i126, .slice a127 n127 c127, .slice a128 n128 c128, .slice a129 n129 c129, .slice a130 n130 c130, .int .u64 i131, .slice a132 n132 c132], .agg #[.slice a134 n134 c134, .slice a135 n135 c135, .slice a136 n136 c136], .bool true])))
theorem e33 (r0 : Int) (r1 : Int) (r2 : Int) (r3 : Int) (r4 : Int) (r5 : Int) (r6a : Option Addr) (r6n : Nat) (r6c : Nat) (r7a : Option Addr) (r7n : Nat) (r7c : Nat) (r8 : Int) (r9 : Int) (r10 : Int) (r11a : Option Addr) (r11n : Nat) (r11c : Nat) (r12a : Option Addr) (r12n : Nat) (r12c : Nat) (r13a : Option Addr) (r13n : Nat) (r13c : Nat) (r14a : Option Addr) (r14n : Nat) (r14c : Nat) (r15 : Int) (r16a : Option Addr) (r16n : Nat) (r16c : Nat) (dataa : Option Addr) (datan : Nat) (datac : Nat) : genFn Try.prog noM noM Try.f33 [.agg #[.int .u64 r0, .int .i64 r1, .int .i64 r2, .int .i64 r3, .int .u64 r4, .int .u64 r5, .slice r6a r6n r6c, .slice r7a r7n r7c, .int .u64 r8, .int .i64 r9, .int .i64 r10, .slice r11a r11n r11c, .slice r12a r12n r12c, .slice r13a r13n r13c, .slice r14a r14n r14c, .int .u64 r15, .slice r16a r16n r16c], .slice dataa datan datac] = t33 r0 r1 r2 r3 r4 r5 r6a r6n r6c r7a r7n r7c r8 r9 r10 r11a r11n r11c r12a r12n r12c r13a r13n r13c r14a r14n r14c r15 r16a r16n r16c dataa datan datac := by kernel_rfl
theorem r33 (r0 : Int) (r1 : Int) (r2 : Int) (r3 : Int) (r4 : Int) (r5 : Int) (r6a : Option Addr) (r6n : Nat) (r6c : Nat) (r7a : Option Addr) (r7n : Nat) (r7c : Nat) (r8 : Int) (r9 : Int) (r10 : Int) (r11a : Option Addr) (r11n : Nat) (r11c : Nat) (r12a : Option Addr) (r12n : Nat) (r12c : Nat) (r13a : Option Addr) (r13n : Nat) (r13c : Nat) (r14a : Option Addr) (r14n : Nat) (r14c : Nat) (r15 : Int) (r16a : Option Addr) (r16n : Nat) (r16c : Nat) (dataa : Option Addr) (datan : Nat) (datac : Nat) {R : Value → World → Prop} {w : World} (h : (t33 r0 r1 r2 r3 r4 r5 r6a r6n r6c r7a r7n r7c r8 r9 r10 r11a r11n r11c r12a r12n r12c r13a r13n r13c r14a r14n r14c r15 r16a r16n r16c dataa datan datac).wp Try.prog R (fun _ _ _ => False) w) : Runs Try.prog 33 [.agg #[.int .u64 r0, .int .i64 r1, .int .i64 r2, .int .i64 r3, .int .u64 r4, .int .u64 r5, .slice r6a r6n r6c, .slice r7a r7n r7c, .int .u64 r8, .int .i64 r9, .int .i64 r10, .slice r11a r11n r11c, .slice r12a r12n r12c, .slice r13a r13n r13c, .slice r14a r14n r14c, .int .u64 r15, .slice r16a r16n r16c], .slice dataa datan datac] w R :=
 genFn_runs mixed noM noM Try.func33 (by kernel_rfl) (by rw [e33]; exact h)
def t34 (r0 : Int) (r1 : Int) (r2 : Int) (r3 : Int) (r4 : Int) (r5 : Int) (r6a : Option Addr) (r6n : Nat) (r6c : Nat) (r7a : Option Addr) (r7n : Nat) (r7c : Nat) (r8 : Int) (r9 : Int) (r10 : Int) (r11a : Option Addr) (r11n : Nat) (r11c : Nat) (r12a : Option Addr) (r12n : Nat) (r12c : Nat) (r13a : Option Addr) (r13n : Nat) (r13c : Nat) (r14a : Option Addr) (r14n : Nat) (r14c : Nat) (r15 : Int) (r16a : Option Addr) (r16n : Nat) (r16c : Nat) (id : Int) : VC :=
 .new 36 [.int .u64 r0, .int .i64 r1, .int .i64 r2, .int .i64 r3, .int .u64 r4, .int .u64 r5, .slice r6a r6n r6c, .slice r7a r7n r7c, .int .u64 r8, .int .i64 r9, .int .i64 r10, .slice r11a r11n r11c, .slice r12a r12n r12c, .slice r13a r13n r13c, .slice r14a r14n r14c, .int .u64 r15, .slice r16a r16n r16c] fun p1 =>
 .new 36 [.int .u64 0, .int .i64 0, .int .i64 0, .int .i64 0, .int .u64 0, .int .u64 0, .slice none 0 0, .slice none 0 0, .int .u64 0, .int .i64 0, .int .i64 0, .slice none 0 0, .slice none 0 0, .slice none 0 0, .slice none 0 0, .int .u64 0, .slice none 0 0] fun p2 =>
 .new 48 [.slice none 0 0, .slice none 0 0, .slice none 0 0] fun p3 =>
 .load ⟨p1, 0, none⟩ 17 fun v4 =>
 .exI fun i5 =>
 .exI fun i6 =>
 .exI fun i7 =>
 .exI fun i8 =>
 .exI fun i9 =>
 .exI fun i10 =>
 .exS fun a11 n11 c11 =>
 .exS fun a12 n12 c12 =>
 .exI fun i13 =>
 .exI fun i14 =>
 .exI fun i15 =>
 .exS fun a16 n16 c16 =>
 .exS fun a17 n17 c17 =>
 .exS fun a18 n18 c18 =>
 .exS fun a19 n19 c19 =>
 .exI fun i20 =>
 .exS fun a21 n21 c21 =>
 .isL v4 [.int .u64 i5, .int .i64 i6, .int .i64 i7, .int .i64 i8, .int .u64 i9, .int .u64 i10, .slice a11 n11 c11, .slice a12 n12 c12, .int .u64 i13, .int .i64 i14, .int .i64 i15, .slice a16 n16 c16, .slice a17 n17 c17, .slice a18 n18 c18, .slice a19 n19 c19, .int .u64 i20, .slice a21 n21 c21] <|
 .call 53 ([.agg #[.int .u64 i5, .int .i64 i6, .int .i64 i7, .int .i64 i8, .int .u64 i9, .int .u64 i10, .slice a11 n11 c11, .slice a12 n12 c12, .int .u64 i13, .int .i64 i14, .int .i64 i15, .slice a16 n16 c16, .slice a17 n17 c17, .slice a18 n18 c18, .slice a19 n19 c19, .int .u64 i20, .slice a21 n21 c21]]) fun v22 =>
 .exN fun p23 =>
 .isL [v22] [.pointer (some ⟨p23, 0, none⟩)] <|
 .draw <|
 .load ⟨p23, 0, none⟩ 17 fun v24 =>
 .exI fun i25 =>
 .exI fun i26 =>
 .exI fun i27 =>
 .exI fun i28 =>
 .exI fun i29 =>
 .exI fun i30 =>
 .exS fun a31 n31 c31 =>
 .exS fun a32 n32 c32 =>
 .exI fun i33 =>
 .exI fun i34 =>
 .exI fun i35 =>
 .exS fun a36 n36 c36 =>
 .exS fun a37 n37 c37 =>
 .exS fun a38 n38 c38 =>
 .exS fun a39 n39 c39 =>
 .exI fun i40 =>
 .exS fun a41 n41 c41 =>
 .isL v24 [.int .u64 i25, .int .i64 i26, .int .i64 i27, .int .i64 i28, .int .u64 i29, .int .u64 i30, .slice a31 n31 c31, .slice a32 n32 c32, .int .u64 i33, .int .i64 i34, .int .i64 i35, .slice a36 n36 c36, .slice a37 n37 c37, .slice a38 n38 c38, .slice a39 n39 c39, .int .u64 i40, .slice a41 n41 c41] <|
 .load ⟨p23, 8, none⟩ 1 fun v42 =>
 .exI fun i43 =>
 .isL v42 [.int .u64 i43] <|
 .call 27 ([.agg #[.int .u64 i25, .int .i64 i26, .int .i64 i27, .int .i64 i28, .int .u64 i29, .int .u64 i30, .slice a31 n31 c31, .slice a32 n32 c32, .int .u64 i33, .int .i64 i34, .int .i64 i35, .slice a36 n36 c36, .slice a37 n37 c37, .slice a38 n38 c38, .slice a39 n39 c39, .int .u64 i40, .slice a41 n41 c41], .int .u64 i43]) fun v44 =>
 .exI fun i45 =>
 .exB fun b46 =>
 .isL [v44] [.tuple #[.int .u64 i45, .bool b46]] <|
 .load ⟨p23, 9, none⟩ 1 fun v47 =>
 .exI fun i48 =>
 .isL v47 [.int .i64 i48] <|
 bif (i48 != 2) then
  (.store ⟨p2, 0, none⟩ [.int .u64 0, .int .i64 0, .int .i64 0, .int .i64 0, .int .u64 0, .int .u64 0, .slice none 0 0, .slice none 0 0, .int .u64 0, .int .i64 0, .int .i64 0, .slice none 0 0, .slice none 0 0, .slice none 0 0, .slice none 0 0, .int .u64 0, .slice none 0 0] <|
  .store ⟨p3, 0, none⟩ [.slice none 0 0, .slice none 0 0, .slice none 0 0] <|
  .load ⟨p2, 0, none⟩ 17 fun v49 =>
  .exI fun i50 =>
  .exI fun i51 =>
  .exI fun i52 =>
  .exI fun i53 =>
  .exI fun i54 =>
  .exI fun i55 =>
  .exS fun a56 n56 c56 =>
  .exS fun a57 n57 c57 =>
  .exI fun i58 =>
  .exI fun i59 =>
  .exI fun i60 =>
  .exS fun a61 n61 c61 =>
  .exS fun a62 n62 c62 =>
  .exS fun a63 n63 c63 =>
  .exS fun a64 n64 c64 =>
  .exI fun i65 =>
  .exS fun a66 n66 c66 =>
  .isL v49 [.int .u64 i50, .int .i64 i51, .int .i64 i52, .int .i64 i53, .int .u64 i54, .int .u64 i55, .slice a56 n56 c56, .slice a57 n57 c57, .int .u64 i58, .int .i64 i59, .int .i64 i60, .slice a61 n61 c61, .slice a62 n62 c62, .slice a63 n63 c63, .slice a64 n64 c64, .int .u64 i65, .slice a66 n66 c66] <|
  .load ⟨p3, 0, none⟩ 3 fun v67 =>
  .exS fun a68 n68 c68 =>
  .exS fun a69 n69 c69 =>
  .exS fun a70 n70 c70 =>
  .isL v67 [.slice a68 n68 c68, .slice a69 n69 c69, .slice a70 n70 c70] <|
  .ret (.tuple #[.agg #[.int .u64 i50, .int .i64 i51, .int .i64 i52, .int .i64 i53, .int .u64 i54, .int .u64 i55, .slice a56 n56 c56, .slice a57 n57 c57, .int .u64 i58, .int .i64 i59, .int .i64 i60, .slice a61 n61 c61, .slice a62 n62 c62, .slice a63 n63 c63, .slice a64 n64 c64, .int .u64 i65, .slice a66 n66 c66], .agg #[.slice a68 n68 c68, .slice a69 n69 c69, .slice a70 n70 c70], .bool false]))
 else
 (.load ⟨p1, 0, none⟩ 17 fun v71 =>
 .exI fun i72 =>
 .exI fun i73 =>
 .exI fun i74 =>
 .exI fun i75 =>
 .exI fun i76 =>
 .exI fun i77 =>
 .exS fun a78 n78 c78 =>
 .exS fun a79 n79 c79 =>
 .exI fun i80 =>
 .exI fun i81 =>
 .exI fun i82 =>
 .exS fun a83 n83 c83 =>
 .exS fun a84 n84 c84 =>
 .exS fun a85 n85 c85 =>
 .exS fun a86 n86 c86 =>
 .exI fun i87 =>
 .exS fun a88 n88 c88 =>
 .isL v71 [.int .u64 i72, .int .i64 i73, .int .i64 i74, .int .i64 i75, .int .u64 i76, .int .u64 i77, .slice a78 n78 c78, .slice a79 n79 c79, .int .u64 i80, .int .i64 i81, .int .i64 i82, .slice a83 n83 c83, .slice a84 n84 c84, .slice a85 n85 c85, .slice a86 n86 c86, .int .u64 i87, .slice a88 n88 c88] <|
 .call 59 ([.agg #[.int .u64 i72, .int .i64 i73, .int .i64 i74, .int .i64 i75, .int .u64 i76, .int .u64 i77, .slice a78 n78 c78, .slice a79 n79 c79, .int .u64 i80, .int .i64 i81, .int .i64 i82, .slice a83 n83 c83, .slice a84 n84 c84, .slice a85 n85 c85, .slice a86 n86 c86, .int .u64 i87, .slice a88 n88 c88]]) fun v89 =>
 .exB fun b90 =>
 .isL [v89] [.bool b90] <|
 bif !b90 then
  (.store ⟨p2, 0, none⟩ [.int .u64 0, .int .i64 0, .int .i64 0, .int .i64 0, .int .u64 0, .int .u64 0, .slice none 0 0, .slice none 0 0, .int .u64 0, .int .i64 0, .int .i64 0, .slice none 0 0, .slice none 0 0, .slice none 0 0, .slice none 0 0, .int .u64 0, .slice none 0 0] <|
  .store ⟨p3, 0, none⟩ [.slice none 0 0, .slice none 0 0, .slice none 0 0] <|
  .load ⟨p2, 0, none⟩ 17 fun v91 =>
  .exI fun i92 =>
  .exI fun i93 =>
  .exI fun i94 =>
  .exI fun i95 =>
  .exI fun i96 =>
  .exI fun i97 =>
  .exS fun a98 n98 c98 =>
  .exS fun a99 n99 c99 =>
  .exI fun i100 =>
  .exI fun i101 =>
  .exI fun i102 =>
  .exS fun a103 n103 c103 =>
  .exS fun a104 n104 c104 =>
  .exS fun a105 n105 c105 =>
  .exS fun a106 n106 c106 =>
  .exI fun i107 =>
  .exS fun a108 n108 c108 =>
  .isL v91 [.int .u64 i92, .int .i64 i93, .int .i64 i94, .int .i64 i95, .int .u64 i96, .int .u64 i97, .slice a98 n98 c98, .slice a99 n99 c99, .int .u64 i100, .int .i64 i101, .int .i64 i102, .slice a103 n103 c103, .slice a104 n104 c104, .slice a105 n105 c105, .slice a106 n106 c106, .int .u64 i107, .slice a108 n108 c108] <|
  .load ⟨p3, 0, none⟩ 3 fun v109 =>
  .exS fun a110 n110 c110 =>
  .exS fun a111 n111 c111 =>
  .exS fun a112 n112 c112 =>
  .isL v109 [.slice a110 n110 c110, .slice a111 n111 c111, .slice a112 n112 c112] <|
  .ret (.tuple #[.agg #[.int .u64 i92, .int .i64 i93, .int .i64 i94, .int .i64 i95, .int .u64 i96, .int .u64 i97, .slice a98 n98 c98, .slice a99 n99 c99, .int .u64 i100, .int .i64 i101, .int .i64 i102, .slice a103 n103 c103, .slice a104 n104 c104, .slice a105 n105 c105, .slice a106 n106 c106, .int .u64 i107, .slice a108 n108 c108], .agg #[.slice a110 n110 c110, .slice a111 n111 c111, .slice a112 n112 c112], .bool false]))
 else
 (bif !b46 then
  (.store ⟨p2, 0, none⟩ [.int .u64 0, .int .i64 0, .int .i64 0, .int .i64 0, .int .u64 0, .int .u64 0, .slice none 0 0, .slice none 0 0, .int .u64 0, .int .i64 0, .int .i64 0, .slice none 0 0, .slice none 0 0, .slice none 0 0, .slice none 0 0, .int .u64 0, .slice none 0 0] <|
  .store ⟨p3, 0, none⟩ [.slice none 0 0, .slice none 0 0, .slice none 0 0] <|
  .load ⟨p2, 0, none⟩ 17 fun v113 =>
  .exI fun i114 =>
  .exI fun i115 =>
  .exI fun i116 =>
  .exI fun i117 =>
  .exI fun i118 =>
  .exI fun i119 =>
  .exS fun a120 n120 c120 =>
  .exS fun a121 n121 c121 =>
  .exI fun i122 =>
  .exI fun i123 =>
  .exI fun i124 =>
  .exS fun a125 n125 c125 =>
  .exS fun a126 n126 c126 =>
  .exS fun a127 n127 c127 =>
  .exS fun a128 n128 c128 =>
  .exI fun i129 =>
  .exS fun a130 n130 c130 =>
  .isL v113 [.int .u64 i114, .int .i64 i115, .int .i64 i116, .int .i64 i117, .int .u64 i118, .int .u64 i119, .slice a120 n120 c120, .slice a121 n121 c121, .int .u64 i122, .int .i64 i123, .int .i64 i124, .slice a125 n125 c125, .slice a126 n126 c126, .slice a127 n127 c127, .slice a128 n128 c128, .int .u64 i129, .slice a130 n130 c130] <|
  .load ⟨p3, 0, none⟩ 3 fun v131 =>
  .exS fun a132 n132 c132 =>
  .exS fun a133 n133 c133 =>
  .exS fun a134 n134 c134 =>
  .isL v131 [.slice a132 n132 c132, .slice a133 n133 c133, .slice a134 n134 c134] <|
  .ret (.tuple #[.agg #[.int .u64 i114, .int .i64 i115, .int .i64 i116, .int .i64 i117, .int .u64 i118, .int .u64 i119, .slice a120 n120 c120, .slice a121 n121 c121, .int .u64 i122, .int .i64 i123, .int .i64 i124, .slice a125 n125 c125, .slice a126 n126 c126, .slice a127 n127 c127, .slice a128 n128 c128, .int .u64 i129, .slice a130 n130 c130], .agg #[.slice a132 n132 c132, .slice a133 n133 c133, .slice a134 n134 c134], .bool false]))
 else
 (.load ⟨p23, 0, none⟩ 1 fun v135 =>
 .exI fun i136 =>
 .isL v135 [.int .u64 i136] <|
 bif (i45 != i136) then
  (.store ⟨p2, 0, none⟩ [.int .u64 0, .int .i64 0, .int .i64 0, .int .i64 0, .int .u64 0, .int .u64 0, .slice none 0 0, .slice none 0 0, .int .u64 0, .int .i64 0, .int .i64 0, .slice none 0 0, .slice none 0 0, .slice none 0 0, .slice none 0 0, .int .u64 0, .slice none 0 0] <|
  .store ⟨p3, 0, none⟩ [.slice none 0 0, .slice none 0 0, .slice none 0 0] <|
  .load ⟨p2, 0, none⟩ 17 fun v137 =>
  .exI fun i138 =>
  .exI fun i139 =>
  .exI fun i140 =>
  .exI fun i141 =>
  .exI fun i142 =>
  .exI fun i143 =>
  .exS fun a144 n144 c144 =>
  .exS fun a145 n145 c145 =>
  .exI fun i146 =>
  .exI fun i147 =>
  .exI fun i148 =>
  .exS fun a149 n149 c149 =>
  .exS fun a150 n150 c150 =>
  .exS fun a151 n151 c151 =>
  .exS fun a152 n152 c152 =>
  .exI fun i153 =>
  .exS fun a154 n154 c154 =>
  .isL v137 [.int .u64 i138, .int .i64 i139, .int .i64 i140, .int .i64 i141, .int .u64 i142, .int .u64 i143, .slice a144 n144 c144, .slice a145 n145 c145, .int .u64 i146, .int .i64 i147, .int .i64 i148, .slice a149 n149 c149, .slice a150 n150 c150, .slice a151 n151 c151, .slice a152 n152 c152, .int .u64 i153, .slice a154 n154 c154] <|
  .load ⟨p3, 0, none⟩ 3 fun v155 =>
  .exS fun a156 n156 c156 =>
  .exS fun a157 n157 c157 =>
  .exS fun a158 n158 c158 =>
  .isL v155 [.slice a156 n156 c156, .slice a157 n157 c157, .slice a158 n158 c158] <|
  .ret (.tuple #[.agg #[.int .u64 i138, .int .i64 i139, .int .i64 i140, .int .i64 i141, .int .u64 i142, .int .u64 i143, .slice a144 n144 c144, .slice a145 n145 c145, .int .u64 i146, .int .i64 i147, .int .i64 i148, .slice a149 n149 c149, .slice a150 n150 c150, .slice a151 n151 c151, .slice a152 n152 c152, .int .u64 i153, .slice a154 n154 c154], .agg #[.slice a156 n156 c156, .slice a157 n157 c157, .slice a158 n158 c158], .bool false]))
 else
 (.draw <|
 .load ⟨p23, 16, none⟩ 1 fun v159 =>
 .exS fun a160 n160 c160 =>
 .isL v159 [.slice a160 n160 c160] <|
 .load ⟨p23, 8, none⟩ 1 fun v161 =>
 .exI fun i162 =>
 .isL v161 [.int .u64 i162] <|
 .load ⟨p23, 15, none⟩ 1 fun v163 =>
 .exI fun i164 =>
 .isL v163 [.int .u64 i164] <|
 .new 62 [.int .u64 id, .int .u64 i162, .int .u64 (IntKind.u64.wrap (i164 + 1))] fun p165 =>
 .append 62 3 24 [.int .u64 0, .int .u64 0, .int .u64 0] a160 n160 c160 (some ⟨p165, 0, none⟩) 1 fun a166 n166 c166 =>
 .store ⟨p23, 16, none⟩ [.slice a166 n166 c166] <|
 .call 67 ([.pointer (some ⟨p23, 0, none⟩)]) fun v167 =>
 .isL [v167] [.tuple #[]] <|
 .draw <|
 .load ⟨p23, 0, none⟩ 17 fun v168 =>
 .exI fun i169 =>
 .exI fun i170 =>
 .exI fun i171 =>
 .exI fun i172 =>
 .exI fun i173 =>
 .exI fun i174 =>
 .exS fun a175 n175 c175 =>
 .exS fun a176 n176 c176 =>
 .exI fun i177 =>
 .exI fun i178 =>
 .exI fun i179 =>
 .exS fun a180 n180 c180 =>
 .exS fun a181 n181 c181 =>
 .exS fun a182 n182 c182 =>
 .exS fun a183 n183 c183 =>
 .exI fun i184 =>
 .exS fun a185 n185 c185 =>
 .isL v168 [.int .u64 i169, .int .i64 i170, .int .i64 i171, .int .i64 i172, .int .u64 i173, .int .u64 i174, .slice a175 n175 c175, .slice a176 n176 c176, .int .u64 i177, .int .i64 i178, .int .i64 i179, .slice a180 n180 c180, .slice a181 n181 c181, .slice a182 n182 c182, .slice a183 n183 c183, .int .u64 i184, .slice a185 n185 c185] <|
 .load ⟨p23, 17, none⟩ 3 fun v186 =>
 .exS fun a187 n187 c187 =>
 .exS fun a188 n188 c188 =>
 .exS fun a189 n189 c189 =>
 .isL v186 [.slice a187 n187 c187, .slice a188 n188 c188, .slice a189 n189 c189] <|
 .store ⟨p2, 0, none⟩ [.int .u64 i169, .int .i64 i170, .int .i64 i171, .int .i64 i172, .int .u64 i173, .int .u64 i174, .slice a175 n175 c175, .slice a176 n176 c176, .int .u64 i177, .int .i64 i178, .int .i64 i179, .slice a180 n180 c180, .slice a181 n181 c181, .slice a182 n182 c182, .slice a183 n183 c183, .int .u64 i184, .slice a185 n185 c185] <|
 .hold [(⟨p23, 17, none⟩, [.slice a187 n187 c187, .slice a188 n188 c188, .slice a189 n189 c189])] <|
 .store ⟨p3, 0, none⟩ [.slice a187 n187 c187, .slice a188 n188 c188, .slice a189 n189 c189] <|
 .load ⟨p2, 0, none⟩ 17 fun v190 =>
 .exI fun i191 =>
 .exI fun i192 =>
 .exI fun i193 =>
 .exI fun i194 =>
 .exI fun i195 =>
 .exI fun i196 =>
 .exS fun a197 n197 c197 =>
 .exS fun a198 n198 c198 =>
 .exI fun i199 =>
 .exI fun i200 =>
 .exI fun i201 =>
 .exS fun a202 n202 c202 =>
 .exS fun a203 n203 c203 =>
 .exS fun a204 n204 c204 =>
 .exS fun a205 n205 c205 =>
 .exI fun i206 =>
 .exS fun a207 n207 c207 =>
 .isL v190 [.int .u64 i191, .int .i64 i192, .int .i64 i193, .int .i64 i194, .int .u64 i195, .int .u64 i196, .slice a197 n197 c197, .slice a198 n198 c198, .int .u64 i199, .int .i64 i200, .int .i64 i201, .slice a202 n202 c202, .slice a203 n203 c203, .slice a204 n204 c204, .slice a205 n205 c205, .int .u64 i206, .slice a207 n207 c207] <|
 .load ⟨p3, 0, none⟩ 3 fun v208 =>
 .exS fun a209 n209 c209 =>
 .exS fun a210 n210 c210 =>
 .exS fun a211 n211 c211 =>
 .isL v208 [.slice a209 n209 c209, .slice a210 n210 c210, .slice a211 n211 c211] <|
 .ret (.tuple #[.agg #[.int .u64 i191, .int .i64 i192, .int .i64 i193, .int .i64 i194, .int .u64 i195, .int .u64 i196, .slice a197 n197 c197, .slice a198 n198 c198, .int .u64 i199, .int .i64 i200, .int .i64 i201, .slice a202 n202 c202, .slice a203 n203 c203, .slice a204 n204 c204, .slice a205 n205 c205, .int .u64 i206, .slice a207 n207 c207], .agg #[.slice a209 n209 c209, .slice a210 n210 c210, .slice a211 n211 c211], .bool true])))))
theorem e34 (r0 : Int) (r1 : Int) (r2 : Int) (r3 : Int) (r4 : Int) (r5 : Int) (r6a : Option Addr) (r6n : Nat) (r6c : Nat) (r7a : Option Addr) (r7n : Nat) (r7c : Nat) (r8 : Int) (r9 : Int) (r10 : Int) (r11a : Option Addr) (r11n : Nat) (r11c : Nat) (r12a : Option Addr) (r12n : Nat) (r12c : Nat) (r13a : Option Addr) (r13n : Nat) (r13c : Nat) (r14a : Option Addr) (r14n : Nat) (r14c : Nat) (r15 : Int) (r16a : Option Addr) (r16n : Nat) (r16c : Nat) (id : Int) : genFn Try.prog noM noM Try.f34 [.agg #[.int .u64 r0, .int .i64 r1, .int .i64 r2, .int .i64 r3, .int .u64 r4, .int .u64 r5, .slice r6a r6n r6c, .slice r7a r7n r7c, .int .u64 r8, .int .i64 r9, .int .i64 r10, .slice r11a r11n r11c, .slice r12a r12n r12c, .slice r13a r13n r13c, .slice r14a r14n r14c, .int .u64 r15, .slice r16a r16n r16c], .int .u64 id] = t34 r0 r1 r2 r3 r4 r5 r6a r6n r6c r7a r7n r7c r8 r9 r10 r11a r11n r11c r12a r12n r12c r13a r13n r13c r14a r14n r14c r15 r16a r16n r16c id := by kernel_rfl
theorem r34 (r0 : Int) (r1 : Int) (r2 : Int) (r3 : Int) (r4 : Int) (r5 : Int) (r6a : Option Addr) (r6n : Nat) (r6c : Nat) (r7a : Option Addr) (r7n : Nat) (r7c : Nat) (r8 : Int) (r9 : Int) (r10 : Int) (r11a : Option Addr) (r11n : Nat) (r11c : Nat) (r12a : Option Addr) (r12n : Nat) (r12c : Nat) (r13a : Option Addr) (r13n : Nat) (r13c : Nat) (r14a : Option Addr) (r14n : Nat) (r14c : Nat) (r15 : Int) (r16a : Option Addr) (r16n : Nat) (r16c : Nat) (id : Int) {R : Value → World → Prop} {w : World} (h : (t34 r0 r1 r2 r3 r4 r5 r6a r6n r6c r7a r7n r7c r8 r9 r10 r11a r11n r11c r12a r12n r12c r13a r13n r13c r14a r14n r14c r15 r16a r16n r16c id).wp Try.prog R (fun _ _ _ => False) w) : Runs Try.prog 34 [.agg #[.int .u64 r0, .int .i64 r1, .int .i64 r2, .int .i64 r3, .int .u64 r4, .int .u64 r5, .slice r6a r6n r6c, .slice r7a r7n r7c, .int .u64 r8, .int .i64 r9, .int .i64 r10, .slice r11a r11n r11c, .slice r12a r12n r12c, .slice r13a r13n r13c, .slice r14a r14n r14c, .int .u64 r15, .slice r16a r16n r16c], .int .u64 id] w R :=
 genFn_runs mixed noM noM Try.func34 (by kernel_rfl) (by rw [e34]; exact h)
def t35 (m0 : Int) (m1 : Int) (m2 : Int) (m3 : Int) (m4 : Int) (m5 : Int) (m6a : Option Addr) (m6n : Nat) (m6c : Nat) (m7 : Int) (m8 : Int) (m9 : Bool) (m10 : Int) (m11 : Int) (m12a : Option Addr) (m12n : Nat) (m12c : Nat) (m13 : Int) (m14 : Int) (m15 : Int) (m16 : ByteArray) (m17 : ByteArray) (m18 : Int) (m19 : Int) (m20 : ByteArray) : VC :=
 .new 70 [.int .i64 m0, .int .i64 m1, .int .i64 m2, .int .u64 m3, .int .u64 m4, .int .u64 m5, .slice m6a m6n m6c, .int .u64 m7, .int .u64 m8, .bool m9, .int .u64 m10, .int .u64 m11, .slice m12a m12n m12c, .int .i64 m13, .int .i64 m14, .int .u64 m15, .string m16, .string m17, .int .u64 m18, .int .i64 m19, .string m20] fun p1 =>
 .load ⟨p1, 0, none⟩ 21 fun v2 =>
 .exI fun i3 =>
 .exI fun i4 =>
 .exI fun i5 =>
 .exI fun i6 =>
 .exI fun i7 =>
 .exI fun i8 =>
 .exS fun a9 n9 c9 =>
 .exI fun i10 =>
 .exI fun i11 =>
 .exB fun b12 =>
 .exI fun i13 =>
 .exI fun i14 =>
 .exS fun a15 n15 c15 =>
 .exI fun i16 =>
 .exI fun i17 =>
 .exI fun i18 =>
 .exT fun s19 =>
 .exT fun s20 =>
 .exI fun i21 =>
 .exI fun i22 =>
 .exT fun s23 =>
 .isL v2 [.int .i64 i3, .int .i64 i4, .int .i64 i5, .int .u64 i6, .int .u64 i7, .int .u64 i8, .slice a9 n9 c9, .int .u64 i10, .int .u64 i11, .bool b12, .int .u64 i13, .int .u64 i14, .slice a15 n15 c15, .int .i64 i16, .int .i64 i17, .int .u64 i18, .string s19, .string s20, .int .u64 i21, .int .i64 i22, .string s23] <|
 .call 68 ([.agg #[.int .i64 i3, .int .i64 i4, .int .i64 i5, .int .u64 i6, .int .u64 i7, .int .u64 i8, .slice a9 n9 c9, .int .u64 i10, .int .u64 i11, .bool b12, .int .u64 i13, .int .u64 i14, .slice a15 n15 c15, .int .i64 i16, .int .i64 i17, .int .u64 i18, .string s19, .string s20, .int .u64 i21, .int .i64 i22, .string s23]]) fun v24 =>
 .exB fun b25 =>
 .isL [v24] [.bool b25] <|
 bif b25 then
  (.load ⟨p1, 3, none⟩ 1 fun v26 =>
  .exI fun i27 =>
  .isL v26 [.int .u64 i27] <|
  bif (decide (i27 < 1125899906842624)) then
   (.load ⟨p1, 4, none⟩ 1 fun v28 =>
   .exI fun i29 =>
   .isL v28 [.int .u64 i29] <|
   bif (decide (i29 < 1099511627776)) then
    (.load ⟨p1, 7, none⟩ 1 fun v30 =>
    .exI fun i31 =>
    .isL v30 [.int .u64 i31] <|
    bif (decide (i31 < 1099511627776)) then
     (.load ⟨p1, 8, none⟩ 1 fun v32 =>
     .exI fun i33 =>
     .isL v32 [.int .u64 i33] <|
     bif (decide (i33 < 1125899906842624)) then
      (.load ⟨p1, 10, none⟩ 1 fun v34 =>
      .exI fun i35 =>
      .isL v34 [.int .u64 i35] <|
      .ret (.bool (decide (i35 < 1099511627776))))
     else
     (.ret (.bool false)))
    else
    (.ret (.bool false)))
   else
   (.ret (.bool false)))
  else
  (.ret (.bool false)))
 else
 (.ret (.bool false))
theorem e35 (m0 : Int) (m1 : Int) (m2 : Int) (m3 : Int) (m4 : Int) (m5 : Int) (m6a : Option Addr) (m6n : Nat) (m6c : Nat) (m7 : Int) (m8 : Int) (m9 : Bool) (m10 : Int) (m11 : Int) (m12a : Option Addr) (m12n : Nat) (m12c : Nat) (m13 : Int) (m14 : Int) (m15 : Int) (m16 : ByteArray) (m17 : ByteArray) (m18 : Int) (m19 : Int) (m20 : ByteArray) : genFn Try.prog noM noM Try.f35 [.agg #[.int .i64 m0, .int .i64 m1, .int .i64 m2, .int .u64 m3, .int .u64 m4, .int .u64 m5, .slice m6a m6n m6c, .int .u64 m7, .int .u64 m8, .bool m9, .int .u64 m10, .int .u64 m11, .slice m12a m12n m12c, .int .i64 m13, .int .i64 m14, .int .u64 m15, .string m16, .string m17, .int .u64 m18, .int .i64 m19, .string m20]] = t35 m0 m1 m2 m3 m4 m5 m6a m6n m6c m7 m8 m9 m10 m11 m12a m12n m12c m13 m14 m15 m16 m17 m18 m19 m20 := by kernel_rfl
theorem r35 (m0 : Int) (m1 : Int) (m2 : Int) (m3 : Int) (m4 : Int) (m5 : Int) (m6a : Option Addr) (m6n : Nat) (m6c : Nat) (m7 : Int) (m8 : Int) (m9 : Bool) (m10 : Int) (m11 : Int) (m12a : Option Addr) (m12n : Nat) (m12c : Nat) (m13 : Int) (m14 : Int) (m15 : Int) (m16 : ByteArray) (m17 : ByteArray) (m18 : Int) (m19 : Int) (m20 : ByteArray) {R : Value → World → Prop} {w : World} (h : (t35 m0 m1 m2 m3 m4 m5 m6a m6n m6c m7 m8 m9 m10 m11 m12a m12n m12c m13 m14 m15 m16 m17 m18 m19 m20).wp Try.prog R (fun _ _ _ => False) w) : Runs Try.prog 35 [.agg #[.int .i64 m0, .int .i64 m1, .int .i64 m2, .int .u64 m3, .int .u64 m4, .int .u64 m5, .slice m6a m6n m6c, .int .u64 m7, .int .u64 m8, .bool m9, .int .u64 m10, .int .u64 m11, .slice m12a m12n m12c, .int .i64 m13, .int .i64 m14, .int .u64 m15, .string m16, .string m17, .int .u64 m18, .int .i64 m19, .string m20]] w R :=
 genFn_runs mixed noM noM Try.func35 (by kernel_rfl) (by rw [e35]; exact h)
def t37 (r0 : Int) (r1 : Int) (r2 : Int) (r3 : Int) (r4 : Int) (r5 : Int) (r6a : Option Addr) (r6n : Nat) (r6c : Nat) (r7a : Option Addr) (r7n : Nat) (r7c : Nat) (r8 : Int) (r9 : Int) (r10 : Int) (r11a : Option Addr) (r11n : Nat) (r11c : Nat) (r12a : Option Addr) (r12n : Nat) (r12c : Nat) (r13a : Option Addr) (r13n : Nat) (r13c : Nat) (r14a : Option Addr) (r14n : Nat) (r14c : Nat) (r15 : Int) (r16a : Option Addr) (r16n : Nat) (r16c : Nat) : VC :=
 .new 36 [.int .u64 r0, .int .i64 r1, .int .i64 r2, .int .i64 r3, .int .u64 r4, .int .u64 r5, .slice r6a r6n r6c, .slice r7a r7n r7c, .int .u64 r8, .int .i64 r9, .int .i64 r10, .slice r11a r11n r11c, .slice r12a r12n r12c, .slice r13a r13n r13c, .slice r14a r14n r14c, .int .u64 r15, .slice r16a r16n r16c] fun p1 =>
 .new 36 [.int .u64 0, .int .i64 0, .int .i64 0, .int .i64 0, .int .u64 0, .int .u64 0, .slice none 0 0, .slice none 0 0, .int .u64 0, .int .i64 0, .int .i64 0, .slice none 0 0, .slice none 0 0, .slice none 0 0, .slice none 0 0, .int .u64 0, .slice none 0 0] fun p2 =>
 .store ⟨p1, 9, none⟩ [.int .i64 0] <|
 .load ⟨p1, 0, none⟩ 17 fun v3 =>
 .exI fun i4 =>
 .exI fun i5 =>
 .exI fun i6 =>
 .exI fun i7 =>
 .exI fun i8 =>
 .exI fun i9 =>
 .exS fun a10 n10 c10 =>
 .exS fun a11 n11 c11 =>
 .exI fun i12 =>
 .exI fun i13 =>
 .exI fun i14 =>
 .exS fun a15 n15 c15 =>
 .exS fun a16 n16 c16 =>
 .exS fun a17 n17 c17 =>
 .exS fun a18 n18 c18 =>
 .exI fun i19 =>
 .exS fun a20 n20 c20 =>
 .isL v3 [.int .u64 i4, .int .i64 i5, .int .i64 i6, .int .i64 i7, .int .u64 i8, .int .u64 i9, .slice a10 n10 c10, .slice a11 n11 c11, .int .u64 i12, .int .i64 i13, .int .i64 i14, .slice a15 n15 c15, .slice a16 n16 c16, .slice a17 n17 c17, .slice a18 n18 c18, .int .u64 i19, .slice a20 n20 c20] <|
 .store ⟨p2, 0, none⟩ [.int .u64 i4, .int .i64 i5, .int .i64 i6, .int .i64 i7, .int .u64 i8, .int .u64 i9, .slice a10 n10 c10, .slice a11 n11 c11, .int .u64 i12, .int .i64 i13, .int .i64 i14, .slice a15 n15 c15, .slice a16 n16 c16, .slice a17 n17 c17, .slice a18 n18 c18, .int .u64 i19, .slice a20 n20 c20] <|
 .load ⟨p2, 0, none⟩ 17 fun v21 =>
 .exI fun i22 =>
 .exI fun i23 =>
 .exI fun i24 =>
 .exI fun i25 =>
 .exI fun i26 =>
 .exI fun i27 =>
 .exS fun a28 n28 c28 =>
 .exS fun a29 n29 c29 =>
 .exI fun i30 =>
 .exI fun i31 =>
 .exI fun i32 =>
 .exS fun a33 n33 c33 =>
 .exS fun a34 n34 c34 =>
 .exS fun a35 n35 c35 =>
 .exS fun a36 n36 c36 =>
 .exI fun i37 =>
 .exS fun a38 n38 c38 =>
 .isL v21 [.int .u64 i22, .int .i64 i23, .int .i64 i24, .int .i64 i25, .int .u64 i26, .int .u64 i27, .slice a28 n28 c28, .slice a29 n29 c29, .int .u64 i30, .int .i64 i31, .int .i64 i32, .slice a33 n33 c33, .slice a34 n34 c34, .slice a35 n35 c35, .slice a36 n36 c36, .int .u64 i37, .slice a38 n38 c38] <|
 .ret (.agg #[.int .u64 i22, .int .i64 i23, .int .i64 i24, .int .i64 i25, .int .u64 i26, .int .u64 i27, .slice a28 n28 c28, .slice a29 n29 c29, .int .u64 i30, .int .i64 i31, .int .i64 i32, .slice a33 n33 c33, .slice a34 n34 c34, .slice a35 n35 c35, .slice a36 n36 c36, .int .u64 i37, .slice a38 n38 c38])
theorem e37 (r0 : Int) (r1 : Int) (r2 : Int) (r3 : Int) (r4 : Int) (r5 : Int) (r6a : Option Addr) (r6n : Nat) (r6c : Nat) (r7a : Option Addr) (r7n : Nat) (r7c : Nat) (r8 : Int) (r9 : Int) (r10 : Int) (r11a : Option Addr) (r11n : Nat) (r11c : Nat) (r12a : Option Addr) (r12n : Nat) (r12c : Nat) (r13a : Option Addr) (r13n : Nat) (r13c : Nat) (r14a : Option Addr) (r14n : Nat) (r14c : Nat) (r15 : Int) (r16a : Option Addr) (r16n : Nat) (r16c : Nat) : genFn Try.prog noM noM Try.f37 [.agg #[.int .u64 r0, .int .i64 r1, .int .i64 r2, .int .i64 r3, .int .u64 r4, .int .u64 r5, .slice r6a r6n r6c, .slice r7a r7n r7c, .int .u64 r8, .int .i64 r9, .int .i64 r10, .slice r11a r11n r11c, .slice r12a r12n r12c, .slice r13a r13n r13c, .slice r14a r14n r14c, .int .u64 r15, .slice r16a r16n r16c]] = t37 r0 r1 r2 r3 r4 r5 r6a r6n r6c r7a r7n r7c r8 r9 r10 r11a r11n r11c r12a r12n r12c r13a r13n r13c r14a r14n r14c r15 r16a r16n r16c := by kernel_rfl
theorem r37 (r0 : Int) (r1 : Int) (r2 : Int) (r3 : Int) (r4 : Int) (r5 : Int) (r6a : Option Addr) (r6n : Nat) (r6c : Nat) (r7a : Option Addr) (r7n : Nat) (r7c : Nat) (r8 : Int) (r9 : Int) (r10 : Int) (r11a : Option Addr) (r11n : Nat) (r11c : Nat) (r12a : Option Addr) (r12n : Nat) (r12c : Nat) (r13a : Option Addr) (r13n : Nat) (r13c : Nat) (r14a : Option Addr) (r14n : Nat) (r14c : Nat) (r15 : Int) (r16a : Option Addr) (r16n : Nat) (r16c : Nat) {R : Value → World → Prop} {w : World} (h : (t37 r0 r1 r2 r3 r4 r5 r6a r6n r6c r7a r7n r7c r8 r9 r10 r11a r11n r11c r12a r12n r12c r13a r13n r13c r14a r14n r14c r15 r16a r16n r16c).wp Try.prog R (fun _ _ _ => False) w) : Runs Try.prog 37 [.agg #[.int .u64 r0, .int .i64 r1, .int .i64 r2, .int .i64 r3, .int .u64 r4, .int .u64 r5, .slice r6a r6n r6c, .slice r7a r7n r7c, .int .u64 r8, .int .i64 r9, .int .i64 r10, .slice r11a r11n r11c, .slice r12a r12n r12c, .slice r13a r13n r13c, .slice r14a r14n r14c, .int .u64 r15, .slice r16a r16n r16c]] w R :=
 genFn_runs mixed noM noM Try.func37 (by kernel_rfl) (by rw [e37]; exact h)
def ct38 : Marks := (fun | some 6 => some [] | some 17 => some [] | _ => none)
def t38 (r0 : Int) (r1 : Int) (r2 : Int) (r3 : Int) (r4 : Int) (r5 : Int) (r6a : Option Addr) (r6n : Nat) (r6c : Nat) (r7a : Option Addr) (r7n : Nat) (r7c : Nat) (r8 : Int) (r9 : Int) (r10 : Int) (r11a : Option Addr) (r11n : Nat) (r11c : Nat) (r12a : Option Addr) (r12n : Nat) (r12c : Nat) (r13a : Option Addr) (r13n : Nat) (r13c : Nat) (r14a : Option Addr) (r14n : Nat) (r14c : Nat) (r15 : Int) (r16a : Option Addr) (r16n : Nat) (r16c : Nat) (m0 : Int) (m1 : Int) (m2 : Int) (m3 : Int) (m4 : Int) (m5 : Int) (m6a : Option Addr) (m6n : Nat) (m6c : Nat) (m7 : Int) (m8 : Int) (m9 : Bool) (m10 : Int) (m11 : Int) (m12a : Option Addr) (m12n : Nat) (m12c : Nat) (m13 : Int) (m14 : Int) (m15 : Int) (m16 : ByteArray) (m17 : ByteArray) (m18 : Int) (m19 : Int) (m20 : ByteArray) : VC :=
 .new 36 [.int .u64 r0, .int .i64 r1, .int .i64 r2, .int .i64 r3, .int .u64 r4, .int .u64 r5, .slice r6a r6n r6c, .slice r7a r7n r7c, .int .u64 r8, .int .i64 r9, .int .i64 r10, .slice r11a r11n r11c, .slice r12a r12n r12c, .slice r13a r13n r13c, .slice r14a r14n r14c, .int .u64 r15, .slice r16a r16n r16c] fun p1 =>
 .new 70 [.int .i64 m0, .int .i64 m1, .int .i64 m2, .int .u64 m3, .int .u64 m4, .int .u64 m5, .slice m6a m6n m6c, .int .u64 m7, .int .u64 m8, .bool m9, .int .u64 m10, .int .u64 m11, .slice m12a m12n m12c, .int .i64 m13, .int .i64 m14, .int .u64 m15, .string m16, .string m17, .int .u64 m18, .int .i64 m19, .string m20] fun p2 =>
 .new 36 [.int .u64 0, .int .i64 0, .int .i64 0, .int .i64 0, .int .u64 0, .int .u64 0, .slice none 0 0, .slice none 0 0, .int .u64 0, .int .i64 0, .int .i64 0, .slice none 0 0, .slice none 0 0, .slice none 0 0, .slice none 0 0, .int .u64 0, .slice none 0 0] fun p3 =>
 .new 48 [.slice none 0 0, .slice none 0 0, .slice none 0 0] fun p4 =>
 .load ⟨p1, 0, none⟩ 17 fun v5 =>
 .exI fun i6 =>
 .exI fun i7 =>
 .exI fun i8 =>
 .exI fun i9 =>
 .exI fun i10 =>
 .exI fun i11 =>
 .exS fun a12 n12 c12 =>
 .exS fun a13 n13 c13 =>
 .exI fun i14 =>
 .exI fun i15 =>
 .exI fun i16 =>
 .exS fun a17 n17 c17 =>
 .exS fun a18 n18 c18 =>
 .exS fun a19 n19 c19 =>
 .exS fun a20 n20 c20 =>
 .exI fun i21 =>
 .exS fun a22 n22 c22 =>
 .isL v5 [.int .u64 i6, .int .i64 i7, .int .i64 i8, .int .i64 i9, .int .u64 i10, .int .u64 i11, .slice a12 n12 c12, .slice a13 n13 c13, .int .u64 i14, .int .i64 i15, .int .i64 i16, .slice a17 n17 c17, .slice a18 n18 c18, .slice a19 n19 c19, .slice a20 n20 c20, .int .u64 i21, .slice a22 n22 c22] <|
 .call 53 ([.agg #[.int .u64 i6, .int .i64 i7, .int .i64 i8, .int .i64 i9, .int .u64 i10, .int .u64 i11, .slice a12 n12 c12, .slice a13 n13 c13, .int .u64 i14, .int .i64 i15, .int .i64 i16, .slice a17 n17 c17, .slice a18 n18 c18, .slice a19 n19 c19, .slice a20 n20 c20, .int .u64 i21, .slice a22 n22 c22]]) fun v23 =>
 .exN fun p24 =>
 .isL [v23] [.pointer (some ⟨p24, 0, none⟩)] <|
 .draw <|
 .load ⟨p1, 0, none⟩ 17 fun v25 =>
 .exI fun i26 =>
 .exI fun i27 =>
 .exI fun i28 =>
 .exI fun i29 =>
 .exI fun i30 =>
 .exI fun i31 =>
 .exS fun a32 n32 c32 =>
 .exS fun a33 n33 c33 =>
 .exI fun i34 =>
 .exI fun i35 =>
 .exI fun i36 =>
 .exS fun a37 n37 c37 =>
 .exS fun a38 n38 c38 =>
 .exS fun a39 n39 c39 =>
 .exS fun a40 n40 c40 =>
 .exI fun i41 =>
 .exS fun a42 n42 c42 =>
 .isL v25 [.int .u64 i26, .int .i64 i27, .int .i64 i28, .int .i64 i29, .int .u64 i30, .int .u64 i31, .slice a32 n32 c32, .slice a33 n33 c33, .int .u64 i34, .int .i64 i35, .int .i64 i36, .slice a37 n37 c37, .slice a38 n38 c38, .slice a39 n39 c39, .slice a40 n40 c40, .int .u64 i41, .slice a42 n42 c42] <|
 .call 59 ([.agg #[.int .u64 i26, .int .i64 i27, .int .i64 i28, .int .i64 i29, .int .u64 i30, .int .u64 i31, .slice a32 n32 c32, .slice a33 n33 c33, .int .u64 i34, .int .i64 i35, .int .i64 i36, .slice a37 n37 c37, .slice a38 n38 c38, .slice a39 n39 c39, .slice a40 n40 c40, .int .u64 i41, .slice a42 n42 c42]]) fun v43 =>
 .exB fun b44 =>
 .isL [v43] [.bool b44] <|
 bif !b44 then
  (.call 58 ([.pointer (some ⟨p24, 0, none⟩)]) fun v45 =>
  .exI fun i46 =>
  .exI fun i47 =>
  .exI fun i48 =>
  .exI fun i49 =>
  .exI fun i50 =>
  .exI fun i51 =>
  .exS fun a52 n52 c52 =>
  .exS fun a53 n53 c53 =>
  .exI fun i54 =>
  .exI fun i55 =>
  .exI fun i56 =>
  .exS fun a57 n57 c57 =>
  .exS fun a58 n58 c58 =>
  .exS fun a59 n59 c59 =>
  .exS fun a60 n60 c60 =>
  .exI fun i61 =>
  .exS fun a62 n62 c62 =>
  .exS fun a63 n63 c63 =>
  .exS fun a64 n64 c64 =>
  .exS fun a65 n65 c65 =>
  .isL [v45] [.tuple #[.agg #[.int .u64 i46, .int .i64 i47, .int .i64 i48, .int .i64 i49, .int .u64 i50, .int .u64 i51, .slice a52 n52 c52, .slice a53 n53 c53, .int .u64 i54, .int .i64 i55, .int .i64 i56, .slice a57 n57 c57, .slice a58 n58 c58, .slice a59 n59 c59, .slice a60 n60 c60, .int .u64 i61, .slice a62 n62 c62], .agg #[.slice a63 n63 c63, .slice a64 n64 c64, .slice a65 n65 c65]]] <|
  .store ⟨p3, 0, none⟩ [.int .u64 i46, .int .i64 i47, .int .i64 i48, .int .i64 i49, .int .u64 i50, .int .u64 i51, .slice a52 n52 c52, .slice a53 n53 c53, .int .u64 i54, .int .i64 i55, .int .i64 i56, .slice a57 n57 c57, .slice a58 n58 c58, .slice a59 n59 c59, .slice a60 n60 c60, .int .u64 i61, .slice a62 n62 c62] <|
  .store ⟨p4, 0, none⟩ [.slice a63 n63 c63, .slice a64 n64 c64, .slice a65 n65 c65] <|
  .load ⟨p3, 0, none⟩ 17 fun v66 =>
  .exI fun i67 =>
  .exI fun i68 =>
  .exI fun i69 =>
  .exI fun i70 =>
  .exI fun i71 =>
  .exI fun i72 =>
  .exS fun a73 n73 c73 =>
  .exS fun a74 n74 c74 =>
  .exI fun i75 =>
  .exI fun i76 =>
  .exI fun i77 =>
  .exS fun a78 n78 c78 =>
  .exS fun a79 n79 c79 =>
  .exS fun a80 n80 c80 =>
  .exS fun a81 n81 c81 =>
  .exI fun i82 =>
  .exS fun a83 n83 c83 =>
  .isL v66 [.int .u64 i67, .int .i64 i68, .int .i64 i69, .int .i64 i70, .int .u64 i71, .int .u64 i72, .slice a73 n73 c73, .slice a74 n74 c74, .int .u64 i75, .int .i64 i76, .int .i64 i77, .slice a78 n78 c78, .slice a79 n79 c79, .slice a80 n80 c80, .slice a81 n81 c81, .int .u64 i82, .slice a83 n83 c83] <|
  .load ⟨p4, 0, none⟩ 3 fun v84 =>
  .exS fun a85 n85 c85 =>
  .exS fun a86 n86 c86 =>
  .exS fun a87 n87 c87 =>
  .isL v84 [.slice a85 n85 c85, .slice a86 n86 c86, .slice a87 n87 c87] <|
  .ret (.tuple #[.agg #[.int .u64 i67, .int .i64 i68, .int .i64 i69, .int .i64 i70, .int .u64 i71, .int .u64 i72, .slice a73 n73 c73, .slice a74 n74 c74, .int .u64 i75, .int .i64 i76, .int .i64 i77, .slice a78 n78 c78, .slice a79 n79 c79, .slice a80 n80 c80, .slice a81 n81 c81, .int .u64 i82, .slice a83 n83 c83], .agg #[.slice a85 n85 c85, .slice a86 n86 c86, .slice a87 n87 c87]]))
 else
 (.load ⟨p2, 1, none⟩ 1 fun v88 =>
 .exI fun i89 =>
 .isL v88 [.int .i64 i89] <|
 bif (decide (i89 < 1)) then
  (.call 58 ([.pointer (some ⟨p24, 0, none⟩)]) fun v90 =>
  .exI fun i91 =>
  .exI fun i92 =>
  .exI fun i93 =>
  .exI fun i94 =>
  .exI fun i95 =>
  .exI fun i96 =>
  .exS fun a97 n97 c97 =>
  .exS fun a98 n98 c98 =>
  .exI fun i99 =>
  .exI fun i100 =>
  .exI fun i101 =>
  .exS fun a102 n102 c102 =>
  .exS fun a103 n103 c103 =>
  .exS fun a104 n104 c104 =>
  .exS fun a105 n105 c105 =>
  .exI fun i106 =>
  .exS fun a107 n107 c107 =>
  .exS fun a108 n108 c108 =>
  .exS fun a109 n109 c109 =>
  .exS fun a110 n110 c110 =>
  .isL [v90] [.tuple #[.agg #[.int .u64 i91, .int .i64 i92, .int .i64 i93, .int .i64 i94, .int .u64 i95, .int .u64 i96, .slice a97 n97 c97, .slice a98 n98 c98, .int .u64 i99, .int .i64 i100, .int .i64 i101, .slice a102 n102 c102, .slice a103 n103 c103, .slice a104 n104 c104, .slice a105 n105 c105, .int .u64 i106, .slice a107 n107 c107], .agg #[.slice a108 n108 c108, .slice a109 n109 c109, .slice a110 n110 c110]]] <|
  .store ⟨p3, 0, none⟩ [.int .u64 i91, .int .i64 i92, .int .i64 i93, .int .i64 i94, .int .u64 i95, .int .u64 i96, .slice a97 n97 c97, .slice a98 n98 c98, .int .u64 i99, .int .i64 i100, .int .i64 i101, .slice a102 n102 c102, .slice a103 n103 c103, .slice a104 n104 c104, .slice a105 n105 c105, .int .u64 i106, .slice a107 n107 c107] <|
  .store ⟨p4, 0, none⟩ [.slice a108 n108 c108, .slice a109 n109 c109, .slice a110 n110 c110] <|
  .load ⟨p3, 0, none⟩ 17 fun v111 =>
  .exI fun i112 =>
  .exI fun i113 =>
  .exI fun i114 =>
  .exI fun i115 =>
  .exI fun i116 =>
  .exI fun i117 =>
  .exS fun a118 n118 c118 =>
  .exS fun a119 n119 c119 =>
  .exI fun i120 =>
  .exI fun i121 =>
  .exI fun i122 =>
  .exS fun a123 n123 c123 =>
  .exS fun a124 n124 c124 =>
  .exS fun a125 n125 c125 =>
  .exS fun a126 n126 c126 =>
  .exI fun i127 =>
  .exS fun a128 n128 c128 =>
  .isL v111 [.int .u64 i112, .int .i64 i113, .int .i64 i114, .int .i64 i115, .int .u64 i116, .int .u64 i117, .slice a118 n118 c118, .slice a119 n119 c119, .int .u64 i120, .int .i64 i121, .int .i64 i122, .slice a123 n123 c123, .slice a124 n124 c124, .slice a125 n125 c125, .slice a126 n126 c126, .int .u64 i127, .slice a128 n128 c128] <|
  .load ⟨p4, 0, none⟩ 3 fun v129 =>
  .exS fun a130 n130 c130 =>
  .exS fun a131 n131 c131 =>
  .exS fun a132 n132 c132 =>
  .isL v129 [.slice a130 n130 c130, .slice a131 n131 c131, .slice a132 n132 c132] <|
  .ret (.tuple #[.agg #[.int .u64 i112, .int .i64 i113, .int .i64 i114, .int .i64 i115, .int .u64 i116, .int .u64 i117, .slice a118 n118 c118, .slice a119 n119 c119, .int .u64 i120, .int .i64 i121, .int .i64 i122, .slice a123 n123 c123, .slice a124 n124 c124, .slice a125 n125 c125, .slice a126 n126 c126, .int .u64 i127, .slice a128 n128 c128], .agg #[.slice a130 n130 c130, .slice a131 n131 c131, .slice a132 n132 c132]]))
 else
 (.load ⟨p2, 1, none⟩ 1 fun v133 =>
 .exI fun i134 =>
 .isL v133 [.int .i64 i134] <|
 .load ⟨p24, 3, none⟩ 1 fun v135 =>
 .exI fun i136 =>
 .isL v135 [.int .i64 i136] <|
 bif (decide (i134 > i136)) then
  (.call 58 ([.pointer (some ⟨p24, 0, none⟩)]) fun v137 =>
  .exI fun i138 =>
  .exI fun i139 =>
  .exI fun i140 =>
  .exI fun i141 =>
  .exI fun i142 =>
  .exI fun i143 =>
  .exS fun a144 n144 c144 =>
  .exS fun a145 n145 c145 =>
  .exI fun i146 =>
  .exI fun i147 =>
  .exI fun i148 =>
  .exS fun a149 n149 c149 =>
  .exS fun a150 n150 c150 =>
  .exS fun a151 n151 c151 =>
  .exS fun a152 n152 c152 =>
  .exI fun i153 =>
  .exS fun a154 n154 c154 =>
  .exS fun a155 n155 c155 =>
  .exS fun a156 n156 c156 =>
  .exS fun a157 n157 c157 =>
  .isL [v137] [.tuple #[.agg #[.int .u64 i138, .int .i64 i139, .int .i64 i140, .int .i64 i141, .int .u64 i142, .int .u64 i143, .slice a144 n144 c144, .slice a145 n145 c145, .int .u64 i146, .int .i64 i147, .int .i64 i148, .slice a149 n149 c149, .slice a150 n150 c150, .slice a151 n151 c151, .slice a152 n152 c152, .int .u64 i153, .slice a154 n154 c154], .agg #[.slice a155 n155 c155, .slice a156 n156 c156, .slice a157 n157 c157]]] <|
  .store ⟨p3, 0, none⟩ [.int .u64 i138, .int .i64 i139, .int .i64 i140, .int .i64 i141, .int .u64 i142, .int .u64 i143, .slice a144 n144 c144, .slice a145 n145 c145, .int .u64 i146, .int .i64 i147, .int .i64 i148, .slice a149 n149 c149, .slice a150 n150 c150, .slice a151 n151 c151, .slice a152 n152 c152, .int .u64 i153, .slice a154 n154 c154] <|
  .store ⟨p4, 0, none⟩ [.slice a155 n155 c155, .slice a156 n156 c156, .slice a157 n157 c157] <|
  .load ⟨p3, 0, none⟩ 17 fun v158 =>
  .exI fun i159 =>
  .exI fun i160 =>
  .exI fun i161 =>
  .exI fun i162 =>
  .exI fun i163 =>
  .exI fun i164 =>
  .exS fun a165 n165 c165 =>
  .exS fun a166 n166 c166 =>
  .exI fun i167 =>
  .exI fun i168 =>
  .exI fun i169 =>
  .exS fun a170 n170 c170 =>
  .exS fun a171 n171 c171 =>
  .exS fun a172 n172 c172 =>
  .exS fun a173 n173 c173 =>
  .exI fun i174 =>
  .exS fun a175 n175 c175 =>
  .isL v158 [.int .u64 i159, .int .i64 i160, .int .i64 i161, .int .i64 i162, .int .u64 i163, .int .u64 i164, .slice a165 n165 c165, .slice a166 n166 c166, .int .u64 i167, .int .i64 i168, .int .i64 i169, .slice a170 n170 c170, .slice a171 n171 c171, .slice a172 n172 c172, .slice a173 n173 c173, .int .u64 i174, .slice a175 n175 c175] <|
  .load ⟨p4, 0, none⟩ 3 fun v176 =>
  .exS fun a177 n177 c177 =>
  .exS fun a178 n178 c178 =>
  .exS fun a179 n179 c179 =>
  .isL v176 [.slice a177 n177 c177, .slice a178 n178 c178, .slice a179 n179 c179] <|
  .ret (.tuple #[.agg #[.int .u64 i159, .int .i64 i160, .int .i64 i161, .int .i64 i162, .int .u64 i163, .int .u64 i164, .slice a165 n165 c165, .slice a166 n166 c166, .int .u64 i167, .int .i64 i168, .int .i64 i169, .slice a170 n170 c170, .slice a171 n171 c171, .slice a172 n172 c172, .slice a173 n173 c173, .int .u64 i174, .slice a175 n175 c175], .agg #[.slice a177 n177 c177, .slice a178 n178 c178, .slice a179 n179 c179]]))
 else
 (.load ⟨p2, 1, none⟩ 1 fun v180 =>
 .exI fun i181 =>
 .isL v180 [.int .i64 i181] <|
 .load ⟨p24, 2, none⟩ 1 fun v182 =>
 .exI fun i183 =>
 .isL v182 [.int .i64 i183] <|
 bif (i181 == i183) then
  (.call 58 ([.pointer (some ⟨p24, 0, none⟩)]) fun v184 =>
  .exI fun i185 =>
  .exI fun i186 =>
  .exI fun i187 =>
  .exI fun i188 =>
  .exI fun i189 =>
  .exI fun i190 =>
  .exS fun a191 n191 c191 =>
  .exS fun a192 n192 c192 =>
  .exI fun i193 =>
  .exI fun i194 =>
  .exI fun i195 =>
  .exS fun a196 n196 c196 =>
  .exS fun a197 n197 c197 =>
  .exS fun a198 n198 c198 =>
  .exS fun a199 n199 c199 =>
  .exI fun i200 =>
  .exS fun a201 n201 c201 =>
  .exS fun a202 n202 c202 =>
  .exS fun a203 n203 c203 =>
  .exS fun a204 n204 c204 =>
  .isL [v184] [.tuple #[.agg #[.int .u64 i185, .int .i64 i186, .int .i64 i187, .int .i64 i188, .int .u64 i189, .int .u64 i190, .slice a191 n191 c191, .slice a192 n192 c192, .int .u64 i193, .int .i64 i194, .int .i64 i195, .slice a196 n196 c196, .slice a197 n197 c197, .slice a198 n198 c198, .slice a199 n199 c199, .int .u64 i200, .slice a201 n201 c201], .agg #[.slice a202 n202 c202, .slice a203 n203 c203, .slice a204 n204 c204]]] <|
  .store ⟨p3, 0, none⟩ [.int .u64 i185, .int .i64 i186, .int .i64 i187, .int .i64 i188, .int .u64 i189, .int .u64 i190, .slice a191 n191 c191, .slice a192 n192 c192, .int .u64 i193, .int .i64 i194, .int .i64 i195, .slice a196 n196 c196, .slice a197 n197 c197, .slice a198 n198 c198, .slice a199 n199 c199, .int .u64 i200, .slice a201 n201 c201] <|
  .store ⟨p4, 0, none⟩ [.slice a202 n202 c202, .slice a203 n203 c203, .slice a204 n204 c204] <|
  .load ⟨p3, 0, none⟩ 17 fun v205 =>
  .exI fun i206 =>
  .exI fun i207 =>
  .exI fun i208 =>
  .exI fun i209 =>
  .exI fun i210 =>
  .exI fun i211 =>
  .exS fun a212 n212 c212 =>
  .exS fun a213 n213 c213 =>
  .exI fun i214 =>
  .exI fun i215 =>
  .exI fun i216 =>
  .exS fun a217 n217 c217 =>
  .exS fun a218 n218 c218 =>
  .exS fun a219 n219 c219 =>
  .exS fun a220 n220 c220 =>
  .exI fun i221 =>
  .exS fun a222 n222 c222 =>
  .isL v205 [.int .u64 i206, .int .i64 i207, .int .i64 i208, .int .i64 i209, .int .u64 i210, .int .u64 i211, .slice a212 n212 c212, .slice a213 n213 c213, .int .u64 i214, .int .i64 i215, .int .i64 i216, .slice a217 n217 c217, .slice a218 n218 c218, .slice a219 n219 c219, .slice a220 n220 c220, .int .u64 i221, .slice a222 n222 c222] <|
  .load ⟨p4, 0, none⟩ 3 fun v223 =>
  .exS fun a224 n224 c224 =>
  .exS fun a225 n225 c225 =>
  .exS fun a226 n226 c226 =>
  .isL v223 [.slice a224 n224 c224, .slice a225 n225 c225, .slice a226 n226 c226] <|
  .ret (.tuple #[.agg #[.int .u64 i206, .int .i64 i207, .int .i64 i208, .int .i64 i209, .int .u64 i210, .int .u64 i211, .slice a212 n212 c212, .slice a213 n213 c213, .int .u64 i214, .int .i64 i215, .int .i64 i216, .slice a217 n217 c217, .slice a218 n218 c218, .slice a219 n219 c219, .slice a220 n220 c220, .int .u64 i221, .slice a222 n222 c222], .agg #[.slice a224 n224 c224, .slice a225 n225 c225, .slice a226 n226 c226]]))
 else
 (.load ⟨p2, 2, none⟩ 1 fun v227 =>
 .exI fun i228 =>
 .isL v227 [.int .i64 i228] <|
 .load ⟨p24, 2, none⟩ 1 fun v229 =>
 .exI fun i230 =>
 .isL v229 [.int .i64 i230] <|
 bif (i228 != i230) then
  (.call 58 ([.pointer (some ⟨p24, 0, none⟩)]) fun v231 =>
  .exI fun i232 =>
  .exI fun i233 =>
  .exI fun i234 =>
  .exI fun i235 =>
  .exI fun i236 =>
  .exI fun i237 =>
  .exS fun a238 n238 c238 =>
  .exS fun a239 n239 c239 =>
  .exI fun i240 =>
  .exI fun i241 =>
  .exI fun i242 =>
  .exS fun a243 n243 c243 =>
  .exS fun a244 n244 c244 =>
  .exS fun a245 n245 c245 =>
  .exS fun a246 n246 c246 =>
  .exI fun i247 =>
  .exS fun a248 n248 c248 =>
  .exS fun a249 n249 c249 =>
  .exS fun a250 n250 c250 =>
  .exS fun a251 n251 c251 =>
  .isL [v231] [.tuple #[.agg #[.int .u64 i232, .int .i64 i233, .int .i64 i234, .int .i64 i235, .int .u64 i236, .int .u64 i237, .slice a238 n238 c238, .slice a239 n239 c239, .int .u64 i240, .int .i64 i241, .int .i64 i242, .slice a243 n243 c243, .slice a244 n244 c244, .slice a245 n245 c245, .slice a246 n246 c246, .int .u64 i247, .slice a248 n248 c248], .agg #[.slice a249 n249 c249, .slice a250 n250 c250, .slice a251 n251 c251]]] <|
  .store ⟨p3, 0, none⟩ [.int .u64 i232, .int .i64 i233, .int .i64 i234, .int .i64 i235, .int .u64 i236, .int .u64 i237, .slice a238 n238 c238, .slice a239 n239 c239, .int .u64 i240, .int .i64 i241, .int .i64 i242, .slice a243 n243 c243, .slice a244 n244 c244, .slice a245 n245 c245, .slice a246 n246 c246, .int .u64 i247, .slice a248 n248 c248] <|
  .store ⟨p4, 0, none⟩ [.slice a249 n249 c249, .slice a250 n250 c250, .slice a251 n251 c251] <|
  .load ⟨p3, 0, none⟩ 17 fun v252 =>
  .exI fun i253 =>
  .exI fun i254 =>
  .exI fun i255 =>
  .exI fun i256 =>
  .exI fun i257 =>
  .exI fun i258 =>
  .exS fun a259 n259 c259 =>
  .exS fun a260 n260 c260 =>
  .exI fun i261 =>
  .exI fun i262 =>
  .exI fun i263 =>
  .exS fun a264 n264 c264 =>
  .exS fun a265 n265 c265 =>
  .exS fun a266 n266 c266 =>
  .exS fun a267 n267 c267 =>
  .exI fun i268 =>
  .exS fun a269 n269 c269 =>
  .isL v252 [.int .u64 i253, .int .i64 i254, .int .i64 i255, .int .i64 i256, .int .u64 i257, .int .u64 i258, .slice a259 n259 c259, .slice a260 n260 c260, .int .u64 i261, .int .i64 i262, .int .i64 i263, .slice a264 n264 c264, .slice a265 n265 c265, .slice a266 n266 c266, .slice a267 n267 c267, .int .u64 i268, .slice a269 n269 c269] <|
  .load ⟨p4, 0, none⟩ 3 fun v270 =>
  .exS fun a271 n271 c271 =>
  .exS fun a272 n272 c272 =>
  .exS fun a273 n273 c273 =>
  .isL v270 [.slice a271 n271 c271, .slice a272 n272 c272, .slice a273 n273 c273] <|
  .ret (.tuple #[.agg #[.int .u64 i253, .int .i64 i254, .int .i64 i255, .int .i64 i256, .int .u64 i257, .int .u64 i258, .slice a259 n259 c259, .slice a260 n260 c260, .int .u64 i261, .int .i64 i262, .int .i64 i263, .slice a264 n264 c264, .slice a265 n265 c265, .slice a266 n266 c266, .slice a267 n267 c267, .int .u64 i268, .slice a269 n269 c269], .agg #[.slice a271 n271 c271, .slice a272 n272 c272, .slice a273 n273 c273]]))
 else
 (.load ⟨p2, 0, none⟩ 1 fun v274 =>
 .exI fun i275 =>
 .isL v274 [.int .i64 i275] <|
 bif (decide (i275 < 1)) then
  (.call 58 ([.pointer (some ⟨p24, 0, none⟩)]) fun v276 =>
  .exI fun i277 =>
  .exI fun i278 =>
  .exI fun i279 =>
  .exI fun i280 =>
  .exI fun i281 =>
  .exI fun i282 =>
  .exS fun a283 n283 c283 =>
  .exS fun a284 n284 c284 =>
  .exI fun i285 =>
  .exI fun i286 =>
  .exI fun i287 =>
  .exS fun a288 n288 c288 =>
  .exS fun a289 n289 c289 =>
  .exS fun a290 n290 c290 =>
  .exS fun a291 n291 c291 =>
  .exI fun i292 =>
  .exS fun a293 n293 c293 =>
  .exS fun a294 n294 c294 =>
  .exS fun a295 n295 c295 =>
  .exS fun a296 n296 c296 =>
  .isL [v276] [.tuple #[.agg #[.int .u64 i277, .int .i64 i278, .int .i64 i279, .int .i64 i280, .int .u64 i281, .int .u64 i282, .slice a283 n283 c283, .slice a284 n284 c284, .int .u64 i285, .int .i64 i286, .int .i64 i287, .slice a288 n288 c288, .slice a289 n289 c289, .slice a290 n290 c290, .slice a291 n291 c291, .int .u64 i292, .slice a293 n293 c293], .agg #[.slice a294 n294 c294, .slice a295 n295 c295, .slice a296 n296 c296]]] <|
  .store ⟨p3, 0, none⟩ [.int .u64 i277, .int .i64 i278, .int .i64 i279, .int .i64 i280, .int .u64 i281, .int .u64 i282, .slice a283 n283 c283, .slice a284 n284 c284, .int .u64 i285, .int .i64 i286, .int .i64 i287, .slice a288 n288 c288, .slice a289 n289 c289, .slice a290 n290 c290, .slice a291 n291 c291, .int .u64 i292, .slice a293 n293 c293] <|
  .store ⟨p4, 0, none⟩ [.slice a294 n294 c294, .slice a295 n295 c295, .slice a296 n296 c296] <|
  .load ⟨p3, 0, none⟩ 17 fun v297 =>
  .exI fun i298 =>
  .exI fun i299 =>
  .exI fun i300 =>
  .exI fun i301 =>
  .exI fun i302 =>
  .exI fun i303 =>
  .exS fun a304 n304 c304 =>
  .exS fun a305 n305 c305 =>
  .exI fun i306 =>
  .exI fun i307 =>
  .exI fun i308 =>
  .exS fun a309 n309 c309 =>
  .exS fun a310 n310 c310 =>
  .exS fun a311 n311 c311 =>
  .exS fun a312 n312 c312 =>
  .exI fun i313 =>
  .exS fun a314 n314 c314 =>
  .isL v297 [.int .u64 i298, .int .i64 i299, .int .i64 i300, .int .i64 i301, .int .u64 i302, .int .u64 i303, .slice a304 n304 c304, .slice a305 n305 c305, .int .u64 i306, .int .i64 i307, .int .i64 i308, .slice a309 n309 c309, .slice a310 n310 c310, .slice a311 n311 c311, .slice a312 n312 c312, .int .u64 i313, .slice a314 n314 c314] <|
  .load ⟨p4, 0, none⟩ 3 fun v315 =>
  .exS fun a316 n316 c316 =>
  .exS fun a317 n317 c317 =>
  .exS fun a318 n318 c318 =>
  .isL v315 [.slice a316 n316 c316, .slice a317 n317 c317, .slice a318 n318 c318] <|
  .ret (.tuple #[.agg #[.int .u64 i298, .int .i64 i299, .int .i64 i300, .int .i64 i301, .int .u64 i302, .int .u64 i303, .slice a304 n304 c304, .slice a305 n305 c305, .int .u64 i306, .int .i64 i307, .int .i64 i308, .slice a309 n309 c309, .slice a310 n310 c310, .slice a311 n311 c311, .slice a312 n312 c312, .int .u64 i313, .slice a314 n314 c314], .agg #[.slice a316 n316 c316, .slice a317 n317 c317, .slice a318 n318 c318]]))
 else
 (.load ⟨p2, 0, none⟩ 1 fun v319 =>
 .exI fun i320 =>
 .isL v319 [.int .i64 i320] <|
 bif (decide (i320 > 5)) then
  (.call 58 ([.pointer (some ⟨p24, 0, none⟩)]) fun v321 =>
  .exI fun i322 =>
  .exI fun i323 =>
  .exI fun i324 =>
  .exI fun i325 =>
  .exI fun i326 =>
  .exI fun i327 =>
  .exS fun a328 n328 c328 =>
  .exS fun a329 n329 c329 =>
  .exI fun i330 =>
  .exI fun i331 =>
  .exI fun i332 =>
  .exS fun a333 n333 c333 =>
  .exS fun a334 n334 c334 =>
  .exS fun a335 n335 c335 =>
  .exS fun a336 n336 c336 =>
  .exI fun i337 =>
  .exS fun a338 n338 c338 =>
  .exS fun a339 n339 c339 =>
  .exS fun a340 n340 c340 =>
  .exS fun a341 n341 c341 =>
  .isL [v321] [.tuple #[.agg #[.int .u64 i322, .int .i64 i323, .int .i64 i324, .int .i64 i325, .int .u64 i326, .int .u64 i327, .slice a328 n328 c328, .slice a329 n329 c329, .int .u64 i330, .int .i64 i331, .int .i64 i332, .slice a333 n333 c333, .slice a334 n334 c334, .slice a335 n335 c335, .slice a336 n336 c336, .int .u64 i337, .slice a338 n338 c338], .agg #[.slice a339 n339 c339, .slice a340 n340 c340, .slice a341 n341 c341]]] <|
  .store ⟨p3, 0, none⟩ [.int .u64 i322, .int .i64 i323, .int .i64 i324, .int .i64 i325, .int .u64 i326, .int .u64 i327, .slice a328 n328 c328, .slice a329 n329 c329, .int .u64 i330, .int .i64 i331, .int .i64 i332, .slice a333 n333 c333, .slice a334 n334 c334, .slice a335 n335 c335, .slice a336 n336 c336, .int .u64 i337, .slice a338 n338 c338] <|
  .store ⟨p4, 0, none⟩ [.slice a339 n339 c339, .slice a340 n340 c340, .slice a341 n341 c341] <|
  .load ⟨p3, 0, none⟩ 17 fun v342 =>
  .exI fun i343 =>
  .exI fun i344 =>
  .exI fun i345 =>
  .exI fun i346 =>
  .exI fun i347 =>
  .exI fun i348 =>
  .exS fun a349 n349 c349 =>
  .exS fun a350 n350 c350 =>
  .exI fun i351 =>
  .exI fun i352 =>
  .exI fun i353 =>
  .exS fun a354 n354 c354 =>
  .exS fun a355 n355 c355 =>
  .exS fun a356 n356 c356 =>
  .exS fun a357 n357 c357 =>
  .exI fun i358 =>
  .exS fun a359 n359 c359 =>
  .isL v342 [.int .u64 i343, .int .i64 i344, .int .i64 i345, .int .i64 i346, .int .u64 i347, .int .u64 i348, .slice a349 n349 c349, .slice a350 n350 c350, .int .u64 i351, .int .i64 i352, .int .i64 i353, .slice a354 n354 c354, .slice a355 n355 c355, .slice a356 n356 c356, .slice a357 n357 c357, .int .u64 i358, .slice a359 n359 c359] <|
  .load ⟨p4, 0, none⟩ 3 fun v360 =>
  .exS fun a361 n361 c361 =>
  .exS fun a362 n362 c362 =>
  .exS fun a363 n363 c363 =>
  .isL v360 [.slice a361 n361 c361, .slice a362 n362 c362, .slice a363 n363 c363] <|
  .ret (.tuple #[.agg #[.int .u64 i343, .int .i64 i344, .int .i64 i345, .int .i64 i346, .int .u64 i347, .int .u64 i348, .slice a349 n349 c349, .slice a350 n350 c350, .int .u64 i351, .int .i64 i352, .int .i64 i353, .slice a354 n354 c354, .slice a355 n355 c355, .slice a356 n356 c356, .slice a357 n357 c357, .int .u64 i358, .slice a359 n359 c359], .agg #[.slice a361 n361 c361, .slice a362 n362 c362, .slice a363 n363 c363]]))
 else
 (.cut 0 (.draw <|
  .load ⟨p2, 3, none⟩ 1 fun v364 =>
  .exI fun i365 =>
  .isL v364 [.int .u64 i365] <|
  .load ⟨p24, 0, none⟩ 1 fun v366 =>
  .exI fun i367 =>
  .isL v366 [.int .u64 i367] <|
  bif (decide (i365 > i367)) then
   (.load ⟨p2, 3, none⟩ 1 fun v368 =>
   .exI fun i369 =>
   .isL v368 [.int .u64 i369] <|
   .call 71 ([.pointer (some ⟨p24, 0, none⟩), .int .u64 i369]) fun v370 =>
   .isL [v370] [.tuple #[]] <|
   .again 0 [])
  else
  (.again 0 [])) (fun v1364 =>
 .isL v1364 [] <|
 .cut 0 (.load ⟨p2, 0, none⟩ 1 fun v372 =>
  .exI fun i373 =>
  .isL v372 [.int .i64 i373] <|
  bif (i373 == 1) then
   (.load ⟨p2, 0, none⟩ 21 fun v374 =>
   .exI fun i375 =>
   .exI fun i376 =>
   .exI fun i377 =>
   .exI fun i378 =>
   .exI fun i379 =>
   .exI fun i380 =>
   .exS fun a381 n381 c381 =>
   .exI fun i382 =>
   .exI fun i383 =>
   .exB fun b384 =>
   .exI fun i385 =>
   .exI fun i386 =>
   .exS fun a387 n387 c387 =>
   .exI fun i388 =>
   .exI fun i389 =>
   .exI fun i390 =>
   .exT fun s391 =>
   .exT fun s392 =>
   .exI fun i393 =>
   .exI fun i394 =>
   .exT fun s395 =>
   .isL v374 [.int .i64 i375, .int .i64 i376, .int .i64 i377, .int .u64 i378, .int .u64 i379, .int .u64 i380, .slice a381 n381 c381, .int .u64 i382, .int .u64 i383, .bool b384, .int .u64 i385, .int .u64 i386, .slice a387 n387 c387, .int .i64 i388, .int .i64 i389, .int .u64 i390, .string s391, .string s392, .int .u64 i393, .int .i64 i394, .string s395] <|
   .call 72 ([.pointer (some ⟨p24, 0, none⟩), .agg #[.int .i64 i375, .int .i64 i376, .int .i64 i377, .int .u64 i378, .int .u64 i379, .int .u64 i380, .slice a381 n381 c381, .int .u64 i382, .int .u64 i383, .bool b384, .int .u64 i385, .int .u64 i386, .slice a387 n387 c387, .int .i64 i388, .int .i64 i389, .int .u64 i390, .string s391, .string s392, .int .u64 i393, .int .i64 i394, .string s395]]) fun v396 =>
   .isL [v396] [.tuple #[]] <|
   .again 0 [])
  else
  (bif (i373 == 2) then
   (.load ⟨p2, 0, none⟩ 21 fun v397 =>
   .exI fun i398 =>
   .exI fun i399 =>
   .exI fun i400 =>
   .exI fun i401 =>
   .exI fun i402 =>
   .exI fun i403 =>
   .exS fun a404 n404 c404 =>
   .exI fun i405 =>
   .exI fun i406 =>
   .exB fun b407 =>
   .exI fun i408 =>
   .exI fun i409 =>
   .exS fun a410 n410 c410 =>
   .exI fun i411 =>
   .exI fun i412 =>
   .exI fun i413 =>
   .exT fun s414 =>
   .exT fun s415 =>
   .exI fun i416 =>
   .exI fun i417 =>
   .exT fun s418 =>
   .isL v397 [.int .i64 i398, .int .i64 i399, .int .i64 i400, .int .u64 i401, .int .u64 i402, .int .u64 i403, .slice a404 n404 c404, .int .u64 i405, .int .u64 i406, .bool b407, .int .u64 i408, .int .u64 i409, .slice a410 n410 c410, .int .i64 i411, .int .i64 i412, .int .u64 i413, .string s414, .string s415, .int .u64 i416, .int .i64 i417, .string s418] <|
   .call 73 ([.pointer (some ⟨p24, 0, none⟩), .agg #[.int .i64 i398, .int .i64 i399, .int .i64 i400, .int .u64 i401, .int .u64 i402, .int .u64 i403, .slice a404 n404 c404, .int .u64 i405, .int .u64 i406, .bool b407, .int .u64 i408, .int .u64 i409, .slice a410 n410 c410, .int .i64 i411, .int .i64 i412, .int .u64 i413, .string s414, .string s415, .int .u64 i416, .int .i64 i417, .string s418]]) fun v419 =>
   .isL [v419] [.tuple #[]] <|
   .again 0 [])
  else
  (bif (i373 == 3) then
   (.load ⟨p2, 0, none⟩ 21 fun v420 =>
   .exI fun i421 =>
   .exI fun i422 =>
   .exI fun i423 =>
   .exI fun i424 =>
   .exI fun i425 =>
   .exI fun i426 =>
   .exS fun a427 n427 c427 =>
   .exI fun i428 =>
   .exI fun i429 =>
   .exB fun b430 =>
   .exI fun i431 =>
   .exI fun i432 =>
   .exS fun a433 n433 c433 =>
   .exI fun i434 =>
   .exI fun i435 =>
   .exI fun i436 =>
   .exT fun s437 =>
   .exT fun s438 =>
   .exI fun i439 =>
   .exI fun i440 =>
   .exT fun s441 =>
   .isL v420 [.int .i64 i421, .int .i64 i422, .int .i64 i423, .int .u64 i424, .int .u64 i425, .int .u64 i426, .slice a427 n427 c427, .int .u64 i428, .int .u64 i429, .bool b430, .int .u64 i431, .int .u64 i432, .slice a433 n433 c433, .int .i64 i434, .int .i64 i435, .int .u64 i436, .string s437, .string s438, .int .u64 i439, .int .i64 i440, .string s441] <|
   .call 74 ([.pointer (some ⟨p24, 0, none⟩), .agg #[.int .i64 i421, .int .i64 i422, .int .i64 i423, .int .u64 i424, .int .u64 i425, .int .u64 i426, .slice a427 n427 c427, .int .u64 i428, .int .u64 i429, .bool b430, .int .u64 i431, .int .u64 i432, .slice a433 n433 c433, .int .i64 i434, .int .i64 i435, .int .u64 i436, .string s437, .string s438, .int .u64 i439, .int .i64 i440, .string s441]]) fun v442 =>
   .isL [v442] [.tuple #[]] <|
   .again 0 [])
  else
  (bif (i373 == 5) then
   (.load ⟨p2, 0, none⟩ 21 fun v443 =>
   .exI fun i444 =>
   .exI fun i445 =>
   .exI fun i446 =>
   .exI fun i447 =>
   .exI fun i448 =>
   .exI fun i449 =>
   .exS fun a450 n450 c450 =>
   .exI fun i451 =>
   .exI fun i452 =>
   .exB fun b453 =>
   .exI fun i454 =>
   .exI fun i455 =>
   .exS fun a456 n456 c456 =>
   .exI fun i457 =>
   .exI fun i458 =>
   .exI fun i459 =>
   .exT fun s460 =>
   .exT fun s461 =>
   .exI fun i462 =>
   .exI fun i463 =>
   .exT fun s464 =>
   .isL v443 [.int .i64 i444, .int .i64 i445, .int .i64 i446, .int .u64 i447, .int .u64 i448, .int .u64 i449, .slice a450 n450 c450, .int .u64 i451, .int .u64 i452, .bool b453, .int .u64 i454, .int .u64 i455, .slice a456 n456 c456, .int .i64 i457, .int .i64 i458, .int .u64 i459, .string s460, .string s461, .int .u64 i462, .int .i64 i463, .string s464] <|
   .call 75 ([.pointer (some ⟨p24, 0, none⟩), .agg #[.int .i64 i444, .int .i64 i445, .int .i64 i446, .int .u64 i447, .int .u64 i448, .int .u64 i449, .slice a450 n450 c450, .int .u64 i451, .int .u64 i452, .bool b453, .int .u64 i454, .int .u64 i455, .slice a456 n456 c456, .int .i64 i457, .int .i64 i458, .int .u64 i459, .string s460, .string s461, .int .u64 i462, .int .i64 i463, .string s464]]) fun v465 =>
   .isL [v465] [.tuple #[]] <|
   .again 0 [])
  else
  (bif (i373 == 4) then
   (.load ⟨p2, 0, none⟩ 21 fun v466 =>
   .exI fun i467 =>
   .exI fun i468 =>
   .exI fun i469 =>
   .exI fun i470 =>
   .exI fun i471 =>
   .exI fun i472 =>
   .exS fun a473 n473 c473 =>
   .exI fun i474 =>
   .exI fun i475 =>
   .exB fun b476 =>
   .exI fun i477 =>
   .exI fun i478 =>
   .exS fun a479 n479 c479 =>
   .exI fun i480 =>
   .exI fun i481 =>
   .exI fun i482 =>
   .exT fun s483 =>
   .exT fun s484 =>
   .exI fun i485 =>
   .exI fun i486 =>
   .exT fun s487 =>
   .isL v466 [.int .i64 i467, .int .i64 i468, .int .i64 i469, .int .u64 i470, .int .u64 i471, .int .u64 i472, .slice a473 n473 c473, .int .u64 i474, .int .u64 i475, .bool b476, .int .u64 i477, .int .u64 i478, .slice a479 n479 c479, .int .i64 i480, .int .i64 i481, .int .u64 i482, .string s483, .string s484, .int .u64 i485, .int .i64 i486, .string s487] <|
   .call 76 ([.pointer (some ⟨p24, 0, none⟩), .agg #[.int .i64 i467, .int .i64 i468, .int .i64 i469, .int .u64 i470, .int .u64 i471, .int .u64 i472, .slice a473 n473 c473, .int .u64 i474, .int .u64 i475, .bool b476, .int .u64 i477, .int .u64 i478, .slice a479 n479 c479, .int .i64 i480, .int .i64 i481, .int .u64 i482, .string s483, .string s484, .int .u64 i485, .int .i64 i486, .string s487]]) fun v488 =>
   .isL [v488] [.tuple #[]] <|
   .again 0 [])
  else
  (.again 0 [])))))) (fun v1372 =>
 .isL v1372 [] <|
 .call 58 ([.pointer (some ⟨p24, 0, none⟩)]) fun v490 =>
 .exI fun i491 =>
 .exI fun i492 =>
 .exI fun i493 =>
 .exI fun i494 =>
 .exI fun i495 =>
 .exI fun i496 =>
 .exS fun a497 n497 c497 =>
 .exS fun a498 n498 c498 =>
 .exI fun i499 =>
 .exI fun i500 =>
 .exI fun i501 =>
 .exS fun a502 n502 c502 =>
 .exS fun a503 n503 c503 =>
 .exS fun a504 n504 c504 =>
 .exS fun a505 n505 c505 =>
 .exI fun i506 =>
 .exS fun a507 n507 c507 =>
 .exS fun a508 n508 c508 =>
 .exS fun a509 n509 c509 =>
 .exS fun a510 n510 c510 =>
 .isL [v490] [.tuple #[.agg #[.int .u64 i491, .int .i64 i492, .int .i64 i493, .int .i64 i494, .int .u64 i495, .int .u64 i496, .slice a497 n497 c497, .slice a498 n498 c498, .int .u64 i499, .int .i64 i500, .int .i64 i501, .slice a502 n502 c502, .slice a503 n503 c503, .slice a504 n504 c504, .slice a505 n505 c505, .int .u64 i506, .slice a507 n507 c507], .agg #[.slice a508 n508 c508, .slice a509 n509 c509, .slice a510 n510 c510]]] <|
 .store ⟨p3, 0, none⟩ [.int .u64 i491, .int .i64 i492, .int .i64 i493, .int .i64 i494, .int .u64 i495, .int .u64 i496, .slice a497 n497 c497, .slice a498 n498 c498, .int .u64 i499, .int .i64 i500, .int .i64 i501, .slice a502 n502 c502, .slice a503 n503 c503, .slice a504 n504 c504, .slice a505 n505 c505, .int .u64 i506, .slice a507 n507 c507] <|
 .store ⟨p4, 0, none⟩ [.slice a508 n508 c508, .slice a509 n509 c509, .slice a510 n510 c510] <|
 .load ⟨p3, 0, none⟩ 17 fun v511 =>
 .exI fun i512 =>
 .exI fun i513 =>
 .exI fun i514 =>
 .exI fun i515 =>
 .exI fun i516 =>
 .exI fun i517 =>
 .exS fun a518 n518 c518 =>
 .exS fun a519 n519 c519 =>
 .exI fun i520 =>
 .exI fun i521 =>
 .exI fun i522 =>
 .exS fun a523 n523 c523 =>
 .exS fun a524 n524 c524 =>
 .exS fun a525 n525 c525 =>
 .exS fun a526 n526 c526 =>
 .exI fun i527 =>
 .exS fun a528 n528 c528 =>
 .isL v511 [.int .u64 i512, .int .i64 i513, .int .i64 i514, .int .i64 i515, .int .u64 i516, .int .u64 i517, .slice a518 n518 c518, .slice a519 n519 c519, .int .u64 i520, .int .i64 i521, .int .i64 i522, .slice a523 n523 c523, .slice a524 n524 c524, .slice a525 n525 c525, .slice a526 n526 c526, .int .u64 i527, .slice a528 n528 c528] <|
 .load ⟨p4, 0, none⟩ 3 fun v529 =>
 .exS fun a530 n530 c530 =>
 .exS fun a531 n531 c531 =>
 .exS fun a532 n532 c532 =>
 .isL v529 [.slice a530 n530 c530, .slice a531 n531 c531, .slice a532 n532 c532] <|
 .ret (.tuple #[.agg #[.int .u64 i512, .int .i64 i513, .int .i64 i514, .int .i64 i515, .int .u64 i516, .int .u64 i517, .slice a518 n518 c518, .slice a519 n519 c519, .int .u64 i520, .int .i64 i521, .int .i64 i522, .slice a523 n523 c523, .slice a524 n524 c524, .slice a525 n525 c525, .slice a526 n526 c526, .int .u64 i527, .slice a528 n528 c528], .agg #[.slice a530 n530 c530, .slice a531 n531 c531, .slice a532 n532 c532]]))))))))))
theorem e38 (r0 : Int) (r1 : Int) (r2 : Int) (r3 : Int) (r4 : Int) (r5 : Int) (r6a : Option Addr) (r6n : Nat) (r6c : Nat) (r7a : Option Addr) (r7n : Nat) (r7c : Nat) (r8 : Int) (r9 : Int) (r10 : Int) (r11a : Option Addr) (r11n : Nat) (r11c : Nat) (r12a : Option Addr) (r12n : Nat) (r12c : Nat) (r13a : Option Addr) (r13n : Nat) (r13c : Nat) (r14a : Option Addr) (r14n : Nat) (r14c : Nat) (r15 : Int) (r16a : Option Addr) (r16n : Nat) (r16c : Nat) (m0 : Int) (m1 : Int) (m2 : Int) (m3 : Int) (m4 : Int) (m5 : Int) (m6a : Option Addr) (m6n : Nat) (m6c : Nat) (m7 : Int) (m8 : Int) (m9 : Bool) (m10 : Int) (m11 : Int) (m12a : Option Addr) (m12n : Nat) (m12c : Nat) (m13 : Int) (m14 : Int) (m15 : Int) (m16 : ByteArray) (m17 : ByteArray) (m18 : Int) (m19 : Int) (m20 : ByteArray) : genFn Try.prog noM ct38 Try.f38 [.agg #[.int .u64 r0, .int .i64 r1, .int .i64 r2, .int .i64 r3, .int .u64 r4, .int .u64 r5, .slice r6a r6n r6c, .slice r7a r7n r7c, .int .u64 r8, .int .i64 r9, .int .i64 r10, .slice r11a r11n r11c, .slice r12a r12n r12c, .slice r13a r13n r13c, .slice r14a r14n r14c, .int .u64 r15, .slice r16a r16n r16c], .agg #[.int .i64 m0, .int .i64 m1, .int .i64 m2, .int .u64 m3, .int .u64 m4, .int .u64 m5, .slice m6a m6n m6c, .int .u64 m7, .int .u64 m8, .bool m9, .int .u64 m10, .int .u64 m11, .slice m12a m12n m12c, .int .i64 m13, .int .i64 m14, .int .u64 m15, .string m16, .string m17, .int .u64 m18, .int .i64 m19, .string m20]] = t38 r0 r1 r2 r3 r4 r5 r6a r6n r6c r7a r7n r7c r8 r9 r10 r11a r11n r11c r12a r12n r12c r13a r13n r13c r14a r14n r14c r15 r16a r16n r16c m0 m1 m2 m3 m4 m5 m6a m6n m6c m7 m8 m9 m10 m11 m12a m12n m12c m13 m14 m15 m16 m17 m18 m19 m20 := by kernel_rfl
theorem r38 (r0 : Int) (r1 : Int) (r2 : Int) (r3 : Int) (r4 : Int) (r5 : Int) (r6a : Option Addr) (r6n : Nat) (r6c : Nat) (r7a : Option Addr) (r7n : Nat) (r7c : Nat) (r8 : Int) (r9 : Int) (r10 : Int) (r11a : Option Addr) (r11n : Nat) (r11c : Nat) (r12a : Option Addr) (r12n : Nat) (r12c : Nat) (r13a : Option Addr) (r13n : Nat) (r13c : Nat) (r14a : Option Addr) (r14n : Nat) (r14c : Nat) (r15 : Int) (r16a : Option Addr) (r16n : Nat) (r16c : Nat) (m0 : Int) (m1 : Int) (m2 : Int) (m3 : Int) (m4 : Int) (m5 : Int) (m6a : Option Addr) (m6n : Nat) (m6c : Nat) (m7 : Int) (m8 : Int) (m9 : Bool) (m10 : Int) (m11 : Int) (m12a : Option Addr) (m12n : Nat) (m12c : Nat) (m13 : Int) (m14 : Int) (m15 : Int) (m16 : ByteArray) (m17 : ByteArray) (m18 : Int) (m19 : Int) (m20 : ByteArray) {R : Value → World → Prop} {w : World} (h : (t38 r0 r1 r2 r3 r4 r5 r6a r6n r6c r7a r7n r7c r8 r9 r10 r11a r11n r11c r12a r12n r12c r13a r13n r13c r14a r14n r14c r15 r16a r16n r16c m0 m1 m2 m3 m4 m5 m6a m6n m6c m7 m8 m9 m10 m11 m12a m12n m12c m13 m14 m15 m16 m17 m18 m19 m20).wp Try.prog R (fun _ _ _ => False) w) : Runs Try.prog 38 [.agg #[.int .u64 r0, .int .i64 r1, .int .i64 r2, .int .i64 r3, .int .u64 r4, .int .u64 r5, .slice r6a r6n r6c, .slice r7a r7n r7c, .int .u64 r8, .int .i64 r9, .int .i64 r10, .slice r11a r11n r11c, .slice r12a r12n r12c, .slice r13a r13n r13c, .slice r14a r14n r14c, .int .u64 r15, .slice r16a r16n r16c], .agg #[.int .i64 m0, .int .i64 m1, .int .i64 m2, .int .u64 m3, .int .u64 m4, .int .u64 m5, .slice m6a m6n m6c, .int .u64 m7, .int .u64 m8, .bool m9, .int .u64 m10, .int .u64 m11, .slice m12a m12n m12c, .int .i64 m13, .int .i64 m14, .int .u64 m15, .string m16, .string m17, .int .u64 m18, .int .i64 m19, .string m20]] w R :=
 genFn_runs mixed noM ct38 Try.func38 (by kernel_rfl) (by rw [e38]; exact h)
def t41 (r0 : Int) (r1 : Int) (r2 : Int) (r3 : Int) (r4 : Int) (r5 : Int) (r6a : Option Addr) (r6n : Nat) (r6c : Nat) (r7a : Option Addr) (r7n : Nat) (r7c : Nat) (r8 : Int) (r9 : Int) (r10 : Int) (r11a : Option Addr) (r11n : Nat) (r11c : Nat) (r12a : Option Addr) (r12n : Nat) (r12c : Nat) (r13a : Option Addr) (r13n : Nat) (r13c : Nat) (r14a : Option Addr) (r14n : Nat) (r14c : Nat) (r15 : Int) (r16a : Option Addr) (r16n : Nat) (r16c : Nat) : VC :=
 .new 36 [.int .u64 r0, .int .i64 r1, .int .i64 r2, .int .i64 r3, .int .u64 r4, .int .u64 r5, .slice r6a r6n r6c, .slice r7a r7n r7c, .int .u64 r8, .int .i64 r9, .int .i64 r10, .slice r11a r11n r11c, .slice r12a r12n r12c, .slice r13a r13n r13c, .slice r14a r14n r14c, .int .u64 r15, .slice r16a r16n r16c] fun p1 =>
 .new 36 [.int .u64 0, .int .i64 0, .int .i64 0, .int .i64 0, .int .u64 0, .int .u64 0, .slice none 0 0, .slice none 0 0, .int .u64 0, .int .i64 0, .int .i64 0, .slice none 0 0, .slice none 0 0, .slice none 0 0, .slice none 0 0, .int .u64 0, .slice none 0 0] fun p2 =>
 .new 48 [.slice none 0 0, .slice none 0 0, .slice none 0 0] fun p3 =>
 .load ⟨p1, 0, none⟩ 17 fun v4 =>
 .exI fun i5 =>
 .exI fun i6 =>
 .exI fun i7 =>
 .exI fun i8 =>
 .exI fun i9 =>
 .exI fun i10 =>
 .exS fun a11 n11 c11 =>
 .exS fun a12 n12 c12 =>
 .exI fun i13 =>
 .exI fun i14 =>
 .exI fun i15 =>
 .exS fun a16 n16 c16 =>
 .exS fun a17 n17 c17 =>
 .exS fun a18 n18 c18 =>
 .exS fun a19 n19 c19 =>
 .exI fun i20 =>
 .exS fun a21 n21 c21 =>
 .isL v4 [.int .u64 i5, .int .i64 i6, .int .i64 i7, .int .i64 i8, .int .u64 i9, .int .u64 i10, .slice a11 n11 c11, .slice a12 n12 c12, .int .u64 i13, .int .i64 i14, .int .i64 i15, .slice a16 n16 c16, .slice a17 n17 c17, .slice a18 n18 c18, .slice a19 n19 c19, .int .u64 i20, .slice a21 n21 c21] <|
 .call 53 ([.agg #[.int .u64 i5, .int .i64 i6, .int .i64 i7, .int .i64 i8, .int .u64 i9, .int .u64 i10, .slice a11 n11 c11, .slice a12 n12 c12, .int .u64 i13, .int .i64 i14, .int .i64 i15, .slice a16 n16 c16, .slice a17 n17 c17, .slice a18 n18 c18, .slice a19 n19 c19, .int .u64 i20, .slice a21 n21 c21]]) fun v22 =>
 .exN fun p23 =>
 .isL [v22] [.pointer (some ⟨p23, 0, none⟩)] <|
 .load ⟨p23, 9, none⟩ 1 fun v24 =>
 .exI fun i25 =>
 .isL v24 [.int .i64 i25] <|
 bif (i25 == 2) then
  (.load ⟨p1, 0, none⟩ 17 fun v26 =>
  .exI fun i27 =>
  .exI fun i28 =>
  .exI fun i29 =>
  .exI fun i30 =>
  .exI fun i31 =>
  .exI fun i32 =>
  .exS fun a33 n33 c33 =>
  .exS fun a34 n34 c34 =>
  .exI fun i35 =>
  .exI fun i36 =>
  .exI fun i37 =>
  .exS fun a38 n38 c38 =>
  .exS fun a39 n39 c39 =>
  .exS fun a40 n40 c40 =>
  .exS fun a41 n41 c41 =>
  .exI fun i42 =>
  .exS fun a43 n43 c43 =>
  .isL v26 [.int .u64 i27, .int .i64 i28, .int .i64 i29, .int .i64 i30, .int .u64 i31, .int .u64 i32, .slice a33 n33 c33, .slice a34 n34 c34, .int .u64 i35, .int .i64 i36, .int .i64 i37, .slice a38 n38 c38, .slice a39 n39 c39, .slice a40 n40 c40, .slice a41 n41 c41, .int .u64 i42, .slice a43 n43 c43] <|
  .call 59 ([.agg #[.int .u64 i27, .int .i64 i28, .int .i64 i29, .int .i64 i30, .int .u64 i31, .int .u64 i32, .slice a33 n33 c33, .slice a34 n34 c34, .int .u64 i35, .int .i64 i36, .int .i64 i37, .slice a38 n38 c38, .slice a39 n39 c39, .slice a40 n40 c40, .slice a41 n41 c41, .int .u64 i42, .slice a43 n43 c43]]) fun v44 =>
  .exB fun b45 =>
  .isL [v44] [.bool b45] <|
  bif b45 then
   (.call 67 ([.pointer (some ⟨p23, 0, none⟩)]) fun v46 =>
   .isL [v46] [.tuple #[]] <|
   .call 58 ([.pointer (some ⟨p23, 0, none⟩)]) fun v47 =>
   .exI fun i48 =>
   .exI fun i49 =>
   .exI fun i50 =>
   .exI fun i51 =>
   .exI fun i52 =>
   .exI fun i53 =>
   .exS fun a54 n54 c54 =>
   .exS fun a55 n55 c55 =>
   .exI fun i56 =>
   .exI fun i57 =>
   .exI fun i58 =>
   .exS fun a59 n59 c59 =>
   .exS fun a60 n60 c60 =>
   .exS fun a61 n61 c61 =>
   .exS fun a62 n62 c62 =>
   .exI fun i63 =>
   .exS fun a64 n64 c64 =>
   .exS fun a65 n65 c65 =>
   .exS fun a66 n66 c66 =>
   .exS fun a67 n67 c67 =>
   .isL [v47] [.tuple #[.agg #[.int .u64 i48, .int .i64 i49, .int .i64 i50, .int .i64 i51, .int .u64 i52, .int .u64 i53, .slice a54 n54 c54, .slice a55 n55 c55, .int .u64 i56, .int .i64 i57, .int .i64 i58, .slice a59 n59 c59, .slice a60 n60 c60, .slice a61 n61 c61, .slice a62 n62 c62, .int .u64 i63, .slice a64 n64 c64], .agg #[.slice a65 n65 c65, .slice a66 n66 c66, .slice a67 n67 c67]]] <|
   .store ⟨p2, 0, none⟩ [.int .u64 i48, .int .i64 i49, .int .i64 i50, .int .i64 i51, .int .u64 i52, .int .u64 i53, .slice a54 n54 c54, .slice a55 n55 c55, .int .u64 i56, .int .i64 i57, .int .i64 i58, .slice a59 n59 c59, .slice a60 n60 c60, .slice a61 n61 c61, .slice a62 n62 c62, .int .u64 i63, .slice a64 n64 c64] <|
   .store ⟨p3, 0, none⟩ [.slice a65 n65 c65, .slice a66 n66 c66, .slice a67 n67 c67] <|
   .load ⟨p2, 0, none⟩ 17 fun v68 =>
   .exI fun i69 =>
   .exI fun i70 =>
   .exI fun i71 =>
   .exI fun i72 =>
   .exI fun i73 =>
   .exI fun i74 =>
   .exS fun a75 n75 c75 =>
   .exS fun a76 n76 c76 =>
   .exI fun i77 =>
   .exI fun i78 =>
   .exI fun i79 =>
   .exS fun a80 n80 c80 =>
   .exS fun a81 n81 c81 =>
   .exS fun a82 n82 c82 =>
   .exS fun a83 n83 c83 =>
   .exI fun i84 =>
   .exS fun a85 n85 c85 =>
   .isL v68 [.int .u64 i69, .int .i64 i70, .int .i64 i71, .int .i64 i72, .int .u64 i73, .int .u64 i74, .slice a75 n75 c75, .slice a76 n76 c76, .int .u64 i77, .int .i64 i78, .int .i64 i79, .slice a80 n80 c80, .slice a81 n81 c81, .slice a82 n82 c82, .slice a83 n83 c83, .int .u64 i84, .slice a85 n85 c85] <|
   .load ⟨p3, 0, none⟩ 3 fun v86 =>
   .exS fun a87 n87 c87 =>
   .exS fun a88 n88 c88 =>
   .exS fun a89 n89 c89 =>
   .isL v86 [.slice a87 n87 c87, .slice a88 n88 c88, .slice a89 n89 c89] <|
   .ret (.tuple #[.agg #[.int .u64 i69, .int .i64 i70, .int .i64 i71, .int .i64 i72, .int .u64 i73, .int .u64 i74, .slice a75 n75 c75, .slice a76 n76 c76, .int .u64 i77, .int .i64 i78, .int .i64 i79, .slice a80 n80 c80, .slice a81 n81 c81, .slice a82 n82 c82, .slice a83 n83 c83, .int .u64 i84, .slice a85 n85 c85], .agg #[.slice a87 n87 c87, .slice a88 n88 c88, .slice a89 n89 c89]]))
  else
  (.call 58 ([.pointer (some ⟨p23, 0, none⟩)]) fun v90 =>
  .exI fun i91 =>
  .exI fun i92 =>
  .exI fun i93 =>
  .exI fun i94 =>
  .exI fun i95 =>
  .exI fun i96 =>
  .exS fun a97 n97 c97 =>
  .exS fun a98 n98 c98 =>
  .exI fun i99 =>
  .exI fun i100 =>
  .exI fun i101 =>
  .exS fun a102 n102 c102 =>
  .exS fun a103 n103 c103 =>
  .exS fun a104 n104 c104 =>
  .exS fun a105 n105 c105 =>
  .exI fun i106 =>
  .exS fun a107 n107 c107 =>
  .exS fun a108 n108 c108 =>
  .exS fun a109 n109 c109 =>
  .exS fun a110 n110 c110 =>
  .isL [v90] [.tuple #[.agg #[.int .u64 i91, .int .i64 i92, .int .i64 i93, .int .i64 i94, .int .u64 i95, .int .u64 i96, .slice a97 n97 c97, .slice a98 n98 c98, .int .u64 i99, .int .i64 i100, .int .i64 i101, .slice a102 n102 c102, .slice a103 n103 c103, .slice a104 n104 c104, .slice a105 n105 c105, .int .u64 i106, .slice a107 n107 c107], .agg #[.slice a108 n108 c108, .slice a109 n109 c109, .slice a110 n110 c110]]] <|
  .store ⟨p2, 0, none⟩ [.int .u64 i91, .int .i64 i92, .int .i64 i93, .int .i64 i94, .int .u64 i95, .int .u64 i96, .slice a97 n97 c97, .slice a98 n98 c98, .int .u64 i99, .int .i64 i100, .int .i64 i101, .slice a102 n102 c102, .slice a103 n103 c103, .slice a104 n104 c104, .slice a105 n105 c105, .int .u64 i106, .slice a107 n107 c107] <|
  .store ⟨p3, 0, none⟩ [.slice a108 n108 c108, .slice a109 n109 c109, .slice a110 n110 c110] <|
  .load ⟨p2, 0, none⟩ 17 fun v111 =>
  .exI fun i112 =>
  .exI fun i113 =>
  .exI fun i114 =>
  .exI fun i115 =>
  .exI fun i116 =>
  .exI fun i117 =>
  .exS fun a118 n118 c118 =>
  .exS fun a119 n119 c119 =>
  .exI fun i120 =>
  .exI fun i121 =>
  .exI fun i122 =>
  .exS fun a123 n123 c123 =>
  .exS fun a124 n124 c124 =>
  .exS fun a125 n125 c125 =>
  .exS fun a126 n126 c126 =>
  .exI fun i127 =>
  .exS fun a128 n128 c128 =>
  .isL v111 [.int .u64 i112, .int .i64 i113, .int .i64 i114, .int .i64 i115, .int .u64 i116, .int .u64 i117, .slice a118 n118 c118, .slice a119 n119 c119, .int .u64 i120, .int .i64 i121, .int .i64 i122, .slice a123 n123 c123, .slice a124 n124 c124, .slice a125 n125 c125, .slice a126 n126 c126, .int .u64 i127, .slice a128 n128 c128] <|
  .load ⟨p3, 0, none⟩ 3 fun v129 =>
  .exS fun a130 n130 c130 =>
  .exS fun a131 n131 c131 =>
  .exS fun a132 n132 c132 =>
  .isL v129 [.slice a130 n130 c130, .slice a131 n131 c131, .slice a132 n132 c132] <|
  .ret (.tuple #[.agg #[.int .u64 i112, .int .i64 i113, .int .i64 i114, .int .i64 i115, .int .u64 i116, .int .u64 i117, .slice a118 n118 c118, .slice a119 n119 c119, .int .u64 i120, .int .i64 i121, .int .i64 i122, .slice a123 n123 c123, .slice a124 n124 c124, .slice a125 n125 c125, .slice a126 n126 c126, .int .u64 i127, .slice a128 n128 c128], .agg #[.slice a130 n130 c130, .slice a131 n131 c131, .slice a132 n132 c132]])))
 else
 (.call 58 ([.pointer (some ⟨p23, 0, none⟩)]) fun v133 =>
 .exI fun i134 =>
 .exI fun i135 =>
 .exI fun i136 =>
 .exI fun i137 =>
 .exI fun i138 =>
 .exI fun i139 =>
 .exS fun a140 n140 c140 =>
 .exS fun a141 n141 c141 =>
 .exI fun i142 =>
 .exI fun i143 =>
 .exI fun i144 =>
 .exS fun a145 n145 c145 =>
 .exS fun a146 n146 c146 =>
 .exS fun a147 n147 c147 =>
 .exS fun a148 n148 c148 =>
 .exI fun i149 =>
 .exS fun a150 n150 c150 =>
 .exS fun a151 n151 c151 =>
 .exS fun a152 n152 c152 =>
 .exS fun a153 n153 c153 =>
 .isL [v133] [.tuple #[.agg #[.int .u64 i134, .int .i64 i135, .int .i64 i136, .int .i64 i137, .int .u64 i138, .int .u64 i139, .slice a140 n140 c140, .slice a141 n141 c141, .int .u64 i142, .int .i64 i143, .int .i64 i144, .slice a145 n145 c145, .slice a146 n146 c146, .slice a147 n147 c147, .slice a148 n148 c148, .int .u64 i149, .slice a150 n150 c150], .agg #[.slice a151 n151 c151, .slice a152 n152 c152, .slice a153 n153 c153]]] <|
 .store ⟨p2, 0, none⟩ [.int .u64 i134, .int .i64 i135, .int .i64 i136, .int .i64 i137, .int .u64 i138, .int .u64 i139, .slice a140 n140 c140, .slice a141 n141 c141, .int .u64 i142, .int .i64 i143, .int .i64 i144, .slice a145 n145 c145, .slice a146 n146 c146, .slice a147 n147 c147, .slice a148 n148 c148, .int .u64 i149, .slice a150 n150 c150] <|
 .store ⟨p3, 0, none⟩ [.slice a151 n151 c151, .slice a152 n152 c152, .slice a153 n153 c153] <|
 .load ⟨p2, 0, none⟩ 17 fun v154 =>
 .exI fun i155 =>
 .exI fun i156 =>
 .exI fun i157 =>
 .exI fun i158 =>
 .exI fun i159 =>
 .exI fun i160 =>
 .exS fun a161 n161 c161 =>
 .exS fun a162 n162 c162 =>
 .exI fun i163 =>
 .exI fun i164 =>
 .exI fun i165 =>
 .exS fun a166 n166 c166 =>
 .exS fun a167 n167 c167 =>
 .exS fun a168 n168 c168 =>
 .exS fun a169 n169 c169 =>
 .exI fun i170 =>
 .exS fun a171 n171 c171 =>
 .isL v154 [.int .u64 i155, .int .i64 i156, .int .i64 i157, .int .i64 i158, .int .u64 i159, .int .u64 i160, .slice a161 n161 c161, .slice a162 n162 c162, .int .u64 i163, .int .i64 i164, .int .i64 i165, .slice a166 n166 c166, .slice a167 n167 c167, .slice a168 n168 c168, .slice a169 n169 c169, .int .u64 i170, .slice a171 n171 c171] <|
 .load ⟨p3, 0, none⟩ 3 fun v172 =>
 .exS fun a173 n173 c173 =>
 .exS fun a174 n174 c174 =>
 .exS fun a175 n175 c175 =>
 .isL v172 [.slice a173 n173 c173, .slice a174 n174 c174, .slice a175 n175 c175] <|
 .ret (.tuple #[.agg #[.int .u64 i155, .int .i64 i156, .int .i64 i157, .int .i64 i158, .int .u64 i159, .int .u64 i160, .slice a161 n161 c161, .slice a162 n162 c162, .int .u64 i163, .int .i64 i164, .int .i64 i165, .slice a166 n166 c166, .slice a167 n167 c167, .slice a168 n168 c168, .slice a169 n169 c169, .int .u64 i170, .slice a171 n171 c171], .agg #[.slice a173 n173 c173, .slice a174 n174 c174, .slice a175 n175 c175]]))
theorem e41 (r0 : Int) (r1 : Int) (r2 : Int) (r3 : Int) (r4 : Int) (r5 : Int) (r6a : Option Addr) (r6n : Nat) (r6c : Nat) (r7a : Option Addr) (r7n : Nat) (r7c : Nat) (r8 : Int) (r9 : Int) (r10 : Int) (r11a : Option Addr) (r11n : Nat) (r11c : Nat) (r12a : Option Addr) (r12n : Nat) (r12c : Nat) (r13a : Option Addr) (r13n : Nat) (r13c : Nat) (r14a : Option Addr) (r14n : Nat) (r14c : Nat) (r15 : Int) (r16a : Option Addr) (r16n : Nat) (r16c : Nat) : genFn Try.prog noM noM Try.f41 [.agg #[.int .u64 r0, .int .i64 r1, .int .i64 r2, .int .i64 r3, .int .u64 r4, .int .u64 r5, .slice r6a r6n r6c, .slice r7a r7n r7c, .int .u64 r8, .int .i64 r9, .int .i64 r10, .slice r11a r11n r11c, .slice r12a r12n r12c, .slice r13a r13n r13c, .slice r14a r14n r14c, .int .u64 r15, .slice r16a r16n r16c]] = t41 r0 r1 r2 r3 r4 r5 r6a r6n r6c r7a r7n r7c r8 r9 r10 r11a r11n r11c r12a r12n r12c r13a r13n r13c r14a r14n r14c r15 r16a r16n r16c := by kernel_rfl
theorem r41 (r0 : Int) (r1 : Int) (r2 : Int) (r3 : Int) (r4 : Int) (r5 : Int) (r6a : Option Addr) (r6n : Nat) (r6c : Nat) (r7a : Option Addr) (r7n : Nat) (r7c : Nat) (r8 : Int) (r9 : Int) (r10 : Int) (r11a : Option Addr) (r11n : Nat) (r11c : Nat) (r12a : Option Addr) (r12n : Nat) (r12c : Nat) (r13a : Option Addr) (r13n : Nat) (r13c : Nat) (r14a : Option Addr) (r14n : Nat) (r14c : Nat) (r15 : Int) (r16a : Option Addr) (r16n : Nat) (r16c : Nat) {R : Value → World → Prop} {w : World} (h : (t41 r0 r1 r2 r3 r4 r5 r6a r6n r6c r7a r7n r7c r8 r9 r10 r11a r11n r11c r12a r12n r12c r13a r13n r13c r14a r14n r14c r15 r16a r16n r16c).wp Try.prog R (fun _ _ _ => False) w) : Runs Try.prog 41 [.agg #[.int .u64 r0, .int .i64 r1, .int .i64 r2, .int .i64 r3, .int .u64 r4, .int .u64 r5, .slice r6a r6n r6c, .slice r7a r7n r7c, .int .u64 r8, .int .i64 r9, .int .i64 r10, .slice r11a r11n r11c, .slice r12a r12n r12c, .slice r13a r13n r13c, .slice r14a r14n r14c, .int .u64 r15, .slice r16a r16n r16c]] w R :=
 genFn_runs mixed noM noM Try.func41 (by kernel_rfl) (by rw [e41]; exact h)
def lv74 : Marks := (fun | some 7 => some [(69, .int .i64 0)] | _ => none)
def t74 (s : Nat) (m0 : Int) (m1 : Int) (m2 : Int) (m3 : Int) (m4 : Int) (m5 : Int) (m6a : Option Addr) (m6n : Nat) (m6c : Nat) (m7 : Int) (m8 : Int) (m9 : Bool) (m10 : Int) (m11 : Int) (m12a : Option Addr) (m12n : Nat) (m12c : Nat) (m13 : Int) (m14 : Int) (m15 : Int) (m16 : ByteArray) (m17 : ByteArray) (m18 : Int) (m19 : Int) (m20 : ByteArray) : VC :=
 .new 70 [.int .i64 m0, .int .i64 m1, .int .i64 m2, .int .u64 m3, .int .u64 m4, .int .u64 m5, .slice m6a m6n m6c, .int .u64 m7, .int .u64 m8, .bool m9, .int .u64 m10, .int .u64 m11, .slice m12a m12n m12c, .int .i64 m13, .int .i64 m14, .int .u64 m15, .string m16, .string m17, .int .u64 m18, .int .i64 m19, .string m20] fun p1 =>
 .load ⟨p1, 0, none⟩ 21 fun v2 =>
 .exI fun i3 =>
 .exI fun i4 =>
 .exI fun i5 =>
 .exI fun i6 =>
 .exI fun i7 =>
 .exI fun i8 =>
 .exS fun a9 n9 c9 =>
 .exI fun i10 =>
 .exI fun i11 =>
 .exB fun b12 =>
 .exI fun i13 =>
 .exI fun i14 =>
 .exS fun a15 n15 c15 =>
 .exI fun i16 =>
 .exI fun i17 =>
 .exI fun i18 =>
 .exT fun s19 =>
 .exT fun s20 =>
 .exI fun i21 =>
 .exI fun i22 =>
 .exT fun s23 =>
 .isL v2 [.int .i64 i3, .int .i64 i4, .int .i64 i5, .int .u64 i6, .int .u64 i7, .int .u64 i8, .slice a9 n9 c9, .int .u64 i10, .int .u64 i11, .bool b12, .int .u64 i13, .int .u64 i14, .slice a15 n15 c15, .int .i64 i16, .int .i64 i17, .int .u64 i18, .string s19, .string s20, .int .u64 i21, .int .i64 i22, .string s23] <|
 .call 106 ([.pointer (some ⟨s, 0, none⟩), .agg #[.int .i64 i3, .int .i64 i4, .int .i64 i5, .int .u64 i6, .int .u64 i7, .int .u64 i8, .slice a9 n9 c9, .int .u64 i10, .int .u64 i11, .bool b12, .int .u64 i13, .int .u64 i14, .slice a15 n15 c15, .int .i64 i16, .int .i64 i17, .int .u64 i18, .string s19, .string s20, .int .u64 i21, .int .i64 i22, .string s23]]) fun v24 =>
 .exB fun b25 =>
 .isL [v24] [.bool b25] <|
 bif !b25 then
  (.ret (.tuple #[]))
 else
 (.load ⟨s, 0, none⟩ 17 fun v26 =>
 .exI fun i27 =>
 .exI fun i28 =>
 .exI fun i29 =>
 .exI fun i30 =>
 .exI fun i31 =>
 .exI fun i32 =>
 .exS fun a33 n33 c33 =>
 .exS fun a34 n34 c34 =>
 .exI fun i35 =>
 .exI fun i36 =>
 .exI fun i37 =>
 .exS fun a38 n38 c38 =>
 .exS fun a39 n39 c39 =>
 .exS fun a40 n40 c40 =>
 .exS fun a41 n41 c41 =>
 .exI fun i42 =>
 .exS fun a43 n43 c43 =>
 .isL v26 [.int .u64 i27, .int .i64 i28, .int .i64 i29, .int .i64 i30, .int .u64 i31, .int .u64 i32, .slice a33 n33 c33, .slice a34 n34 c34, .int .u64 i35, .int .i64 i36, .int .i64 i37, .slice a38 n38 c38, .slice a39 n39 c39, .slice a40 n40 c40, .slice a41 n41 c41, .int .u64 i42, .slice a43 n43 c43] <|
 .call 25 ([.agg #[.int .u64 i27, .int .i64 i28, .int .i64 i29, .int .i64 i30, .int .u64 i31, .int .u64 i32, .slice a33 n33 c33, .slice a34 n34 c34, .int .u64 i35, .int .i64 i36, .int .i64 i37, .slice a38 n38 c38, .slice a39 n39 c39, .slice a40 n40 c40, .slice a41 n41 c41, .int .u64 i42, .slice a43 n43 c43]]) fun v44 =>
 .exI fun i45 =>
 .exI fun i46 =>
 .isL [v44] [.tuple #[.int .u64 i45, .int .u64 i46]] <|
 .draw <|
 .load ⟨s, 0, none⟩ 17 fun v47 =>
 .exI fun i48 =>
 .exI fun i49 =>
 .exI fun i50 =>
 .exI fun i51 =>
 .exI fun i52 =>
 .exI fun i53 =>
 .exS fun a54 n54 c54 =>
 .exS fun a55 n55 c55 =>
 .exI fun i56 =>
 .exI fun i57 =>
 .exI fun i58 =>
 .exS fun a59 n59 c59 =>
 .exS fun a60 n60 c60 =>
 .exS fun a61 n61 c61 =>
 .exS fun a62 n62 c62 =>
 .exI fun i63 =>
 .exS fun a64 n64 c64 =>
 .isL v47 [.int .u64 i48, .int .i64 i49, .int .i64 i50, .int .i64 i51, .int .u64 i52, .int .u64 i53, .slice a54 n54 c54, .slice a55 n55 c55, .int .u64 i56, .int .i64 i57, .int .i64 i58, .slice a59 n59 c59, .slice a60 n60 c60, .slice a61 n61 c61, .slice a62 n62 c62, .int .u64 i63, .slice a64 n64 c64] <|
 .load ⟨p1, 4, none⟩ 1 fun v65 =>
 .exI fun i66 =>
 .isL v65 [.int .u64 i66] <|
 .call 27 ([.agg #[.int .u64 i48, .int .i64 i49, .int .i64 i50, .int .i64 i51, .int .u64 i52, .int .u64 i53, .slice a54 n54 c54, .slice a55 n55 c55, .int .u64 i56, .int .i64 i57, .int .i64 i58, .slice a59 n59 c59, .slice a60 n60 c60, .slice a61 n61 c61, .slice a62 n62 c62, .int .u64 i63, .slice a64 n64 c64], .int .u64 i66]) fun v67 =>
 .exI fun i68 =>
 .exB fun b69 =>
 .isL [v67] [.tuple #[.int .u64 i68, .bool b69]] <|
 .draw <|
 .load ⟨p1, 4, none⟩ 1 fun v70 =>
 .exI fun i71 =>
 .isL v70 [.int .u64 i71] <|
 .load ⟨s, 4, none⟩ 1 fun v72 =>
 .exI fun i73 =>
 .isL v72 [.int .u64 i73] <|
 bif (decide (i71 ≥ i73)) then
  (bif !b69 then
   (.load ⟨p1, 1, none⟩ 1 fun v74 =>
   .exI fun i75 =>
   .isL v74 [.int .i64 i75] <|
   .load ⟨p1, 4, none⟩ 1 fun v76 =>
   .exI fun i77 =>
   .isL v76 [.int .u64 i77] <|
   .load ⟨p1, 8, none⟩ 1 fun v78 =>
   .exI fun i79 =>
   .isL v78 [.int .u64 i79] <|
   .new 70 [.int .i64 4, .int .i64 0, .int .i64 i75, .int .u64 0, .int .u64 (if IntKind.u64.wrap ((if 1 > i77 then 1 else i77) - 1) < i45 then IntKind.u64.wrap ((if 1 > i77 then 1 else i77) - 1) else i45), .int .u64 0, .slice none 0 0, .int .u64 0, .int .u64 i79, .bool false, .int .u64 0, .int .u64 0, .slice none 0 0, .int .i64 0, .int .i64 0, .int .u64 0, .string ({ data := #[] }), .string ({ data := #[] }), .int .u64 0, .int .i64 0, .string ({ data := #[] })] fun p80 =>
   .call 64 ([.pointer (some ⟨s, 0, none⟩), .slice (some ⟨p80, 0, none⟩) 1 1]) fun v81 =>
   .isL [v81] [.tuple #[]] <|
   .ret (.tuple #[]))
  else
  (.load ⟨p1, 5, none⟩ 1 fun v82 =>
  .exI fun i83 =>
  .isL v82 [.int .u64 i83] <|
  bif (i68 != i83) then
   (.load ⟨p1, 1, none⟩ 1 fun v84 =>
   .exI fun i85 =>
   .isL v84 [.int .i64 i85] <|
   .load ⟨p1, 4, none⟩ 1 fun v86 =>
   .exI fun i87 =>
   .isL v86 [.int .u64 i87] <|
   .load ⟨p1, 8, none⟩ 1 fun v88 =>
   .exI fun i89 =>
   .isL v88 [.int .u64 i89] <|
   .new 70 [.int .i64 4, .int .i64 0, .int .i64 i85, .int .u64 0, .int .u64 (if IntKind.u64.wrap ((if 1 > i87 then 1 else i87) - 1) < i45 then IntKind.u64.wrap ((if 1 > i87 then 1 else i87) - 1) else i45), .int .u64 0, .slice none 0 0, .int .u64 0, .int .u64 i89, .bool false, .int .u64 0, .int .u64 0, .slice none 0 0, .int .i64 0, .int .i64 0, .int .u64 0, .string ({ data := #[] }), .string ({ data := #[] }), .int .u64 0, .int .i64 0, .string ({ data := #[] })] fun p90 =>
   .call 64 ([.pointer (some ⟨s, 0, none⟩), .slice (some ⟨p90, 0, none⟩) 1 1]) fun v91 =>
   .isL [v91] [.tuple #[]] <|
   .ret (.tuple #[]))
  else
  (.load ⟨p1, 6, none⟩ 1 fun v92 =>
  .exS fun a93 n93 c93 =>
  .isL v92 [.slice a93 n93 c93] <|
  .loop 0 [.int .i64 0] (fun v94 =>
   .exI fun i95 =>
   .isL v94 [.int .i64 i95] <|
   bif (decide (i95 < (↑n93 : Int))) then
    (.some a93 fun x96 =>
    .need ((0 : Int) ≤ i95 ∧ i95 < (↑n93 : Int)) <|
    .load (x96.add (i95.toNat * 2)) 2 fun v97 =>
    .exI fun i98 =>
    .exS fun a99 n99 c99 =>
    .isL v97 [.int .u64 i98, .slice a99 n99 c99] <|
    .new 57 [.int .u64 0, .slice none 0 0] fun p100 =>
    .store ⟨p100, 0, none⟩ [.int .u64 i98, .slice a99 n99 c99] <|
    .load ⟨p1, 4, none⟩ 1 fun v101 =>
    .exI fun i102 =>
    .isL v101 [.int .u64 i102] <|
    .load ⟨p100, 0, none⟩ 2 fun v103 =>
    .exI fun i104 =>
    .exS fun a105 n105 c105 =>
    .isL v103 [.int .u64 i104, .slice a105 n105 c105] <|
    .call 107 ([.pointer (some ⟨s, 0, none⟩), .int .u64 (IntKind.u64.wrap (IntKind.u64.wrap (i102 + 1) + IntKind.u64.wrap i95)), .agg #[.int .u64 i104, .slice a105 n105 c105]]) fun v106 =>
    .isL [v106] [.tuple #[]] <|
    .again 0 [.int .i64 (IntKind.i64.wrap (i95 + 1))])
   else
   (.load ⟨p1, 4, none⟩ 1 fun v107 =>
   .exI fun i108 =>
   .isL v107 [.int .u64 i108] <|
   .load ⟨p1, 6, none⟩ 1 fun v109 =>
   .exS fun a110 n110 c110 =>
   .isL v109 [.slice a110 n110 c110] <|
   .draw <|
   .load ⟨s, 8, none⟩ 1 fun v111 =>
   .exI fun i112 =>
   .isL v111 [.int .u64 i112] <|
   .load ⟨p1, 7, none⟩ 1 fun v113 =>
   .exI fun i114 =>
   .isL v113 [.int .u64 i114] <|
   .store ⟨s, 8, none⟩ [.int .u64 (if (if IntKind.u64.wrap (i108 + IntKind.u64.wrap (↑n110 : Int)) < i114 then IntKind.u64.wrap (i108 + IntKind.u64.wrap (↑n110 : Int)) else i114) > i112 then if IntKind.u64.wrap (i108 + IntKind.u64.wrap (↑n110 : Int)) < i114 then IntKind.u64.wrap (i108 + IntKind.u64.wrap (↑n110 : Int)) else i114 else i112)] <|
   .load ⟨p1, 1, none⟩ 1 fun v115 =>
   .exI fun i116 =>
   .isL v115 [.int .i64 i116] <|
   .load ⟨p1, 8, none⟩ 1 fun v117 =>
   .exI fun i118 =>
   .isL v117 [.int .u64 i118] <|
   .new 70 [.int .i64 4, .int .i64 0, .int .i64 i116, .int .u64 0, .int .u64 (IntKind.u64.wrap (i108 + IntKind.u64.wrap (↑n110 : Int))), .int .u64 0, .slice none 0 0, .int .u64 0, .int .u64 i118, .bool true, .int .u64 0, .int .u64 0, .slice none 0 0, .int .i64 0, .int .i64 0, .int .u64 0, .string ({ data := #[] }), .string ({ data := #[] }), .int .u64 0, .int .i64 0, .string ({ data := #[] })] fun p119 =>
   .call 64 ([.pointer (some ⟨s, 0, none⟩), .slice (some ⟨p119, 0, none⟩) 1 1]) fun v120 =>
   .isL [v120] [.tuple #[]] <|
   .ret (.tuple #[]))))))
 else
 (.load ⟨p1, 6, none⟩ 1 fun v121 =>
 .exS fun a122 n122 c122 =>
 .isL v121 [.slice a122 n122 c122] <|
 .loop 0 [.int .i64 0] (fun v123 =>
  .exI fun i124 =>
  .isL v123 [.int .i64 i124] <|
  bif (decide (i124 < (↑n122 : Int))) then
   (.some a122 fun x125 =>
   .need ((0 : Int) ≤ i124 ∧ i124 < (↑n122 : Int)) <|
   .load (x125.add (i124.toNat * 2)) 2 fun v126 =>
   .exI fun i127 =>
   .exS fun a128 n128 c128 =>
   .isL v126 [.int .u64 i127, .slice a128 n128 c128] <|
   .new 57 [.int .u64 0, .slice none 0 0] fun p129 =>
   .store ⟨p129, 0, none⟩ [.int .u64 i127, .slice a128 n128 c128] <|
   .load ⟨p1, 4, none⟩ 1 fun v130 =>
   .exI fun i131 =>
   .isL v130 [.int .u64 i131] <|
   .load ⟨p129, 0, none⟩ 2 fun v132 =>
   .exI fun i133 =>
   .exS fun a134 n134 c134 =>
   .isL v132 [.int .u64 i133, .slice a134 n134 c134] <|
   .call 107 ([.pointer (some ⟨s, 0, none⟩), .int .u64 (IntKind.u64.wrap (IntKind.u64.wrap (i131 + 1) + IntKind.u64.wrap i124)), .agg #[.int .u64 i133, .slice a134 n134 c134]]) fun v135 =>
   .isL [v135] [.tuple #[]] <|
   .again 0 [.int .i64 (IntKind.i64.wrap (i124 + 1))])
  else
  (.load ⟨p1, 4, none⟩ 1 fun v136 =>
  .exI fun i137 =>
  .isL v136 [.int .u64 i137] <|
  .load ⟨p1, 6, none⟩ 1 fun v138 =>
  .exS fun a139 n139 c139 =>
  .isL v138 [.slice a139 n139 c139] <|
  .draw <|
  .load ⟨s, 8, none⟩ 1 fun v140 =>
  .exI fun i141 =>
  .isL v140 [.int .u64 i141] <|
  .load ⟨p1, 7, none⟩ 1 fun v142 =>
  .exI fun i143 =>
  .isL v142 [.int .u64 i143] <|
  .store ⟨s, 8, none⟩ [.int .u64 (if (if IntKind.u64.wrap (i137 + IntKind.u64.wrap (↑n139 : Int)) < i143 then IntKind.u64.wrap (i137 + IntKind.u64.wrap (↑n139 : Int)) else i143) > i141 then if IntKind.u64.wrap (i137 + IntKind.u64.wrap (↑n139 : Int)) < i143 then IntKind.u64.wrap (i137 + IntKind.u64.wrap (↑n139 : Int)) else i143 else i141)] <|
  .load ⟨p1, 1, none⟩ 1 fun v144 =>
  .exI fun i145 =>
  .isL v144 [.int .i64 i145] <|
  .load ⟨p1, 8, none⟩ 1 fun v146 =>
  .exI fun i147 =>
  .isL v146 [.int .u64 i147] <|
  .new 70 [.int .i64 4, .int .i64 0, .int .i64 i145, .int .u64 0, .int .u64 (IntKind.u64.wrap (i137 + IntKind.u64.wrap (↑n139 : Int))), .int .u64 0, .slice none 0 0, .int .u64 0, .int .u64 i147, .bool true, .int .u64 0, .int .u64 0, .slice none 0 0, .int .i64 0, .int .i64 0, .int .u64 0, .string ({ data := #[] }), .string ({ data := #[] }), .int .u64 0, .int .i64 0, .string ({ data := #[] })] fun p148 =>
  .call 64 ([.pointer (some ⟨s, 0, none⟩), .slice (some ⟨p148, 0, none⟩) 1 1]) fun v149 =>
  .isL [v149] [.tuple #[]] <|
  .ret (.tuple #[])))))
theorem e74 (s : Nat) (m0 : Int) (m1 : Int) (m2 : Int) (m3 : Int) (m4 : Int) (m5 : Int) (m6a : Option Addr) (m6n : Nat) (m6c : Nat) (m7 : Int) (m8 : Int) (m9 : Bool) (m10 : Int) (m11 : Int) (m12a : Option Addr) (m12n : Nat) (m12c : Nat) (m13 : Int) (m14 : Int) (m15 : Int) (m16 : ByteArray) (m17 : ByteArray) (m18 : Int) (m19 : Int) (m20 : ByteArray) : genFn Try.prog lv74 noM Try.f74 [.pointer (some ⟨s, 0, none⟩), .agg #[.int .i64 m0, .int .i64 m1, .int .i64 m2, .int .u64 m3, .int .u64 m4, .int .u64 m5, .slice m6a m6n m6c, .int .u64 m7, .int .u64 m8, .bool m9, .int .u64 m10, .int .u64 m11, .slice m12a m12n m12c, .int .i64 m13, .int .i64 m14, .int .u64 m15, .string m16, .string m17, .int .u64 m18, .int .i64 m19, .string m20]] = t74 s m0 m1 m2 m3 m4 m5 m6a m6n m6c m7 m8 m9 m10 m11 m12a m12n m12c m13 m14 m15 m16 m17 m18 m19 m20 := by kernel_rfl
theorem r74 (s : Nat) (m0 : Int) (m1 : Int) (m2 : Int) (m3 : Int) (m4 : Int) (m5 : Int) (m6a : Option Addr) (m6n : Nat) (m6c : Nat) (m7 : Int) (m8 : Int) (m9 : Bool) (m10 : Int) (m11 : Int) (m12a : Option Addr) (m12n : Nat) (m12c : Nat) (m13 : Int) (m14 : Int) (m15 : Int) (m16 : ByteArray) (m17 : ByteArray) (m18 : Int) (m19 : Int) (m20 : ByteArray) {R : Value → World → Prop} {w : World} (h : (t74 s m0 m1 m2 m3 m4 m5 m6a m6n m6c m7 m8 m9 m10 m11 m12a m12n m12c m13 m14 m15 m16 m17 m18 m19 m20).wp Try.prog R (fun _ _ _ => False) w) : Runs Try.prog 74 [.pointer (some ⟨s, 0, none⟩), .agg #[.int .i64 m0, .int .i64 m1, .int .i64 m2, .int .u64 m3, .int .u64 m4, .int .u64 m5, .slice m6a m6n m6c, .int .u64 m7, .int .u64 m8, .bool m9, .int .u64 m10, .int .u64 m11, .slice m12a m12n m12c, .int .i64 m13, .int .i64 m14, .int .u64 m15, .string m16, .string m17, .int .u64 m18, .int .i64 m19, .string m20]] w R :=
 genFn_runs mixed lv74 noM Try.func74 (by kernel_rfl) (by rw [e74]; exact h)
def t75 (s : Nat) (m0 : Int) (m1 : Int) (m2 : Int) (m3 : Int) (m4 : Int) (m5 : Int) (m6a : Option Addr) (m6n : Nat) (m6c : Nat) (m7 : Int) (m8 : Int) (m9 : Bool) (m10 : Int) (m11 : Int) (m12a : Option Addr) (m12n : Nat) (m12c : Nat) (m13 : Int) (m14 : Int) (m15 : Int) (m16 : ByteArray) (m17 : ByteArray) (m18 : Int) (m19 : Int) (m20 : ByteArray) : VC :=
 .new 70 [.int .i64 m0, .int .i64 m1, .int .i64 m2, .int .u64 m3, .int .u64 m4, .int .u64 m5, .slice m6a m6n m6c, .int .u64 m7, .int .u64 m8, .bool m9, .int .u64 m10, .int .u64 m11, .slice m12a m12n m12c, .int .i64 m13, .int .i64 m14, .int .u64 m15, .string m16, .string m17, .int .u64 m18, .int .i64 m19, .string m20] fun p1 =>
 .load ⟨p1, 0, none⟩ 21 fun v2 =>
 .exI fun i3 =>
 .exI fun i4 =>
 .exI fun i5 =>
 .exI fun i6 =>
 .exI fun i7 =>
 .exI fun i8 =>
 .exS fun a9 n9 c9 =>
 .exI fun i10 =>
 .exI fun i11 =>
 .exB fun b12 =>
 .exI fun i13 =>
 .exI fun i14 =>
 .exS fun a15 n15 c15 =>
 .exI fun i16 =>
 .exI fun i17 =>
 .exI fun i18 =>
 .exT fun s19 =>
 .exT fun s20 =>
 .exI fun i21 =>
 .exI fun i22 =>
 .exT fun s23 =>
 .isL v2 [.int .i64 i3, .int .i64 i4, .int .i64 i5, .int .u64 i6, .int .u64 i7, .int .u64 i8, .slice a9 n9 c9, .int .u64 i10, .int .u64 i11, .bool b12, .int .u64 i13, .int .u64 i14, .slice a15 n15 c15, .int .i64 i16, .int .i64 i17, .int .u64 i18, .string s19, .string s20, .int .u64 i21, .int .i64 i22, .string s23] <|
 .call 106 ([.pointer (some ⟨s, 0, none⟩), .agg #[.int .i64 i3, .int .i64 i4, .int .i64 i5, .int .u64 i6, .int .u64 i7, .int .u64 i8, .slice a9 n9 c9, .int .u64 i10, .int .u64 i11, .bool b12, .int .u64 i13, .int .u64 i14, .slice a15 n15 c15, .int .i64 i16, .int .i64 i17, .int .u64 i18, .string s19, .string s20, .int .u64 i21, .int .i64 i22, .string s23]]) fun v24 =>
 .exB fun b25 =>
 .isL [v24] [.bool b25] <|
 bif !b25 then
  (.ret (.tuple #[]))
 else
 (.draw <|
 .load ⟨p1, 10, none⟩ 1 fun v26 =>
 .exI fun i27 =>
 .isL v26 [.int .u64 i27] <|
 .load ⟨s, 8, none⟩ 1 fun v28 =>
 .exI fun i29 =>
 .isL v28 [.int .u64 i29] <|
 bif (decide (i27 > i29)) then
  (.load ⟨p1, 10, none⟩ 3 fun v30 =>
  .exI fun i31 =>
  .exI fun i32 =>
  .exS fun a33 n33 c33 =>
  .isL v30 [.int .u64 i31, .int .u64 i32, .slice a33 n33 c33] <|
  .call 57 ([.agg #[.int .u64 i31, .int .u64 i32, .slice a33 n33 c33]]) fun v34 =>
  .exI fun i35 =>
  .exI fun i36 =>
  .exS fun a37 n37 c37 =>
  .isL [v34] [.agg #[.int .u64 i35, .int .u64 i36, .slice a37 n37 c37]] <|
  .new 59 [.int .i64 4, .int .u64 0, .int .i64 0, .int .u64 0, .slice none 0 0, .int .u64 0, .int .u64 i35, .int .u64 i36, .slice a37 n37 c37] fun p38 =>
  .call 56 ([.pointer (some ⟨s, 0, none⟩), .slice (some ⟨p38, 0, none⟩) 1 1]) fun v39 =>
  .isL [v39] [.tuple #[]] <|
  .draw <|
  .load ⟨p1, 10, none⟩ 1 fun v40 =>
  .exI fun i41 =>
  .isL v40 [.int .u64 i41] <|
  .load ⟨s, 4, none⟩ 1 fun v42 =>
  .exI fun i43 =>
  .isL v42 [.int .u64 i43] <|
  bif (decide (i41 > i43)) then
   (.load ⟨p1, 10, none⟩ 3 fun v44 =>
   .exI fun i45 =>
   .exI fun i46 =>
   .exS fun a47 n47 c47 =>
   .isL v44 [.int .u64 i45, .int .u64 i46, .slice a47 n47 c47] <|
   .call 55 ([.pointer (some ⟨s, 0, none⟩), .agg #[.int .u64 i45, .int .u64 i46, .slice a47 n47 c47]]) fun v48 =>
   .isL [v48] [.tuple #[]] <|
   .load ⟨p1, 10, none⟩ 1 fun v49 =>
   .exI fun i50 =>
   .isL v49 [.int .u64 i50] <|
   .store ⟨s, 8, none⟩ [.int .u64 i50] <|
   .draw <|
   .load ⟨p1, 1, none⟩ 1 fun v51 =>
   .exI fun i52 =>
   .isL v51 [.int .i64 i52] <|
   .load ⟨s, 8, none⟩ 1 fun v53 =>
   .exI fun i54 =>
   .isL v53 [.int .u64 i54] <|
   .load ⟨p1, 8, none⟩ 1 fun v55 =>
   .exI fun i56 =>
   .isL v55 [.int .u64 i56] <|
   .new 70 [.int .i64 4, .int .i64 0, .int .i64 i52, .int .u64 0, .int .u64 i54, .int .u64 0, .slice none 0 0, .int .u64 0, .int .u64 i56, .bool true, .int .u64 0, .int .u64 0, .slice none 0 0, .int .i64 0, .int .i64 0, .int .u64 0, .string ({ data := #[] }), .string ({ data := #[] }), .int .u64 0, .int .i64 0, .string ({ data := #[] })] fun p57 =>
   .call 64 ([.pointer (some ⟨s, 0, none⟩), .slice (some ⟨p57, 0, none⟩) 1 1]) fun v58 =>
   .isL [v58] [.tuple #[]] <|
   .ret (.tuple #[]))
  else
  (.load ⟨p1, 10, none⟩ 1 fun v59 =>
  .exI fun i60 =>
  .isL v59 [.int .u64 i60] <|
  .store ⟨s, 8, none⟩ [.int .u64 i60] <|
  .draw <|
  .load ⟨p1, 1, none⟩ 1 fun v61 =>
  .exI fun i62 =>
  .isL v61 [.int .i64 i62] <|
  .load ⟨s, 8, none⟩ 1 fun v63 =>
  .exI fun i64 =>
  .isL v63 [.int .u64 i64] <|
  .load ⟨p1, 8, none⟩ 1 fun v65 =>
  .exI fun i66 =>
  .isL v65 [.int .u64 i66] <|
  .new 70 [.int .i64 4, .int .i64 0, .int .i64 i62, .int .u64 0, .int .u64 i64, .int .u64 0, .slice none 0 0, .int .u64 0, .int .u64 i66, .bool true, .int .u64 0, .int .u64 0, .slice none 0 0, .int .i64 0, .int .i64 0, .int .u64 0, .string ({ data := #[] }), .string ({ data := #[] }), .int .u64 0, .int .i64 0, .string ({ data := #[] })] fun p67 =>
  .call 64 ([.pointer (some ⟨s, 0, none⟩), .slice (some ⟨p67, 0, none⟩) 1 1]) fun v68 =>
  .isL [v68] [.tuple #[]] <|
  .ret (.tuple #[])))
 else
 (.draw <|
 .load ⟨p1, 1, none⟩ 1 fun v69 =>
 .exI fun i70 =>
 .isL v69 [.int .i64 i70] <|
 .load ⟨s, 8, none⟩ 1 fun v71 =>
 .exI fun i72 =>
 .isL v71 [.int .u64 i72] <|
 .load ⟨p1, 8, none⟩ 1 fun v73 =>
 .exI fun i74 =>
 .isL v73 [.int .u64 i74] <|
 .new 70 [.int .i64 4, .int .i64 0, .int .i64 i70, .int .u64 0, .int .u64 i72, .int .u64 0, .slice none 0 0, .int .u64 0, .int .u64 i74, .bool true, .int .u64 0, .int .u64 0, .slice none 0 0, .int .i64 0, .int .i64 0, .int .u64 0, .string ({ data := #[] }), .string ({ data := #[] }), .int .u64 0, .int .i64 0, .string ({ data := #[] })] fun p75 =>
 .call 64 ([.pointer (some ⟨s, 0, none⟩), .slice (some ⟨p75, 0, none⟩) 1 1]) fun v76 =>
 .isL [v76] [.tuple #[]] <|
 .ret (.tuple #[])))
theorem e75 (s : Nat) (m0 : Int) (m1 : Int) (m2 : Int) (m3 : Int) (m4 : Int) (m5 : Int) (m6a : Option Addr) (m6n : Nat) (m6c : Nat) (m7 : Int) (m8 : Int) (m9 : Bool) (m10 : Int) (m11 : Int) (m12a : Option Addr) (m12n : Nat) (m12c : Nat) (m13 : Int) (m14 : Int) (m15 : Int) (m16 : ByteArray) (m17 : ByteArray) (m18 : Int) (m19 : Int) (m20 : ByteArray) : genFn Try.prog noM noM Try.f75 [.pointer (some ⟨s, 0, none⟩), .agg #[.int .i64 m0, .int .i64 m1, .int .i64 m2, .int .u64 m3, .int .u64 m4, .int .u64 m5, .slice m6a m6n m6c, .int .u64 m7, .int .u64 m8, .bool m9, .int .u64 m10, .int .u64 m11, .slice m12a m12n m12c, .int .i64 m13, .int .i64 m14, .int .u64 m15, .string m16, .string m17, .int .u64 m18, .int .i64 m19, .string m20]] = t75 s m0 m1 m2 m3 m4 m5 m6a m6n m6c m7 m8 m9 m10 m11 m12a m12n m12c m13 m14 m15 m16 m17 m18 m19 m20 := by kernel_rfl
theorem r75 (s : Nat) (m0 : Int) (m1 : Int) (m2 : Int) (m3 : Int) (m4 : Int) (m5 : Int) (m6a : Option Addr) (m6n : Nat) (m6c : Nat) (m7 : Int) (m8 : Int) (m9 : Bool) (m10 : Int) (m11 : Int) (m12a : Option Addr) (m12n : Nat) (m12c : Nat) (m13 : Int) (m14 : Int) (m15 : Int) (m16 : ByteArray) (m17 : ByteArray) (m18 : Int) (m19 : Int) (m20 : ByteArray) {R : Value → World → Prop} {w : World} (h : (t75 s m0 m1 m2 m3 m4 m5 m6a m6n m6c m7 m8 m9 m10 m11 m12a m12n m12c m13 m14 m15 m16 m17 m18 m19 m20).wp Try.prog R (fun _ _ _ => False) w) : Runs Try.prog 75 [.pointer (some ⟨s, 0, none⟩), .agg #[.int .i64 m0, .int .i64 m1, .int .i64 m2, .int .u64 m3, .int .u64 m4, .int .u64 m5, .slice m6a m6n m6c, .int .u64 m7, .int .u64 m8, .bool m9, .int .u64 m10, .int .u64 m11, .slice m12a m12n m12c, .int .i64 m13, .int .i64 m14, .int .u64 m15, .string m16, .string m17, .int .u64 m18, .int .i64 m19, .string m20]] w R :=
 genFn_runs mixed noM noM Try.func75 (by kernel_rfl) (by rw [e75]; exact h)
def t76 (s : Nat) (m0 : Int) (m1 : Int) (m2 : Int) (m3 : Int) (m4 : Int) (m5 : Int) (m6a : Option Addr) (m6n : Nat) (m6c : Nat) (m7 : Int) (m8 : Int) (m9 : Bool) (m10 : Int) (m11 : Int) (m12a : Option Addr) (m12n : Nat) (m12c : Nat) (m13 : Int) (m14 : Int) (m15 : Int) (m16 : ByteArray) (m17 : ByteArray) (m18 : Int) (m19 : Int) (m20 : ByteArray) : VC :=
 .new 70 [.int .i64 m0, .int .i64 m1, .int .i64 m2, .int .u64 m3, .int .u64 m4, .int .u64 m5, .slice m6a m6n m6c, .int .u64 m7, .int .u64 m8, .bool m9, .int .u64 m10, .int .u64 m11, .slice m12a m12n m12c, .int .i64 m13, .int .i64 m14, .int .u64 m15, .string m16, .string m17, .int .u64 m18, .int .i64 m19, .string m20] fun p1 =>
 .draw <|
 .load ⟨s, 9, none⟩ 1 fun v2 =>
 .exI fun i3 =>
 .isL v2 [.int .i64 i3] <|
 bif (i3 != 2) then
  (.ret (.tuple #[]))
 else
 (.load ⟨p1, 3, none⟩ 1 fun v4 =>
 .exI fun i5 =>
 .isL v4 [.int .u64 i5] <|
 .load ⟨s, 0, none⟩ 1 fun v6 =>
 .exI fun i7 =>
 .isL v6 [.int .u64 i7] <|
 bif (i5 != i7) then
  (.ret (.tuple #[]))
 else
 (.load ⟨p1, 1, none⟩ 1 fun v8 =>
 .exI fun i9 =>
 .isL v8 [.int .i64 i9] <|
 .load ⟨s, 0, none⟩ 17 fun v10 =>
 .exI fun i11 =>
 .exI fun i12 =>
 .exI fun i13 =>
 .exI fun i14 =>
 .exI fun i15 =>
 .exI fun i16 =>
 .exS fun a17 n17 c17 =>
 .exS fun a18 n18 c18 =>
 .exI fun i19 =>
 .exI fun i20 =>
 .exI fun i21 =>
 .exS fun a22 n22 c22 =>
 .exS fun a23 n23 c23 =>
 .exS fun a24 n24 c24 =>
 .exS fun a25 n25 c25 =>
 .exI fun i26 =>
 .exS fun a27 n27 c27 =>
 .isL v10 [.int .u64 i11, .int .i64 i12, .int .i64 i13, .int .i64 i14, .int .u64 i15, .int .u64 i16, .slice a17 n17 c17, .slice a18 n18 c18, .int .u64 i19, .int .i64 i20, .int .i64 i21, .slice a22 n22 c22, .slice a23 n23 c23, .slice a24 n24 c24, .slice a25 n25 c25, .int .u64 i26, .slice a27 n27 c27] <|
 .call 25 ([.agg #[.int .u64 i11, .int .i64 i12, .int .i64 i13, .int .i64 i14, .int .u64 i15, .int .u64 i16, .slice a17 n17 c17, .slice a18 n18 c18, .int .u64 i19, .int .i64 i20, .int .i64 i21, .slice a22 n22 c22, .slice a23 n23 c23, .slice a24 n24 c24, .slice a25 n25 c25, .int .u64 i26, .slice a27 n27 c27]]) fun v28 =>
 .exI fun i29 =>
 .exI fun i30 =>
 .isL [v28] [.tuple #[.int .u64 i29, .int .u64 i30]] <|
 .draw <|
 .load ⟨s, 14, none⟩ 1 fun v31 =>
 .exS fun a32 n32 c32 =>
 .isL v31 [.slice a32 n32 c32] <|
 .load ⟨s, 14, none⟩ 1 fun v33 =>
 .exS fun a34 n34 c34 =>
 .isL v33 [.slice a34 n34 c34] <|
 .some a34 fun x35 =>
 .need ((0 : Int) ≤ IntKind.i64.wrap (i9 - 1) ∧ IntKind.i64.wrap (i9 - 1) < (↑n34 : Int)) <|
 .load (x35.add ((IntKind.i64.wrap (i9 - 1)).toNat * 1)) 1 fun v36 =>
 .exI fun i37 =>
 .isL v36 [.int .u64 i37] <|
 .load ⟨p1, 8, none⟩ 1 fun v38 =>
 .exI fun i39 =>
 .isL v38 [.int .u64 i39] <|
 .some a32 fun x40 =>
 .need ((0 : Int) ≤ IntKind.i64.wrap (i9 - 1) ∧ IntKind.i64.wrap (i9 - 1) < (↑n32 : Int)) <|
 .store (x40.add ((IntKind.i64.wrap (i9 - 1)).toNat * 1)) [.int .u64 (if i39 > i37 then i39 else i37)] <|
 .load ⟨p1, 9, none⟩ 1 fun v41 =>
 .exB fun b42 =>
 .isL v41 [.bool b42] <|
 bif b42 then
  (.draw <|
  .load ⟨s, 13, none⟩ 1 fun v43 =>
  .exS fun a44 n44 c44 =>
  .isL v43 [.slice a44 n44 c44] <|
  .load ⟨s, 13, none⟩ 1 fun v45 =>
  .exS fun a46 n46 c46 =>
  .isL v45 [.slice a46 n46 c46] <|
  .some a46 fun x47 =>
  .need ((0 : Int) ≤ IntKind.i64.wrap (i9 - 1) ∧ IntKind.i64.wrap (i9 - 1) < (↑n46 : Int)) <|
  .load (x47.add ((IntKind.i64.wrap (i9 - 1)).toNat * 1)) 1 fun v48 =>
  .exI fun i49 =>
  .isL v48 [.int .u64 i49] <|
  .load ⟨p1, 4, none⟩ 1 fun v50 =>
  .exI fun i51 =>
  .isL v50 [.int .u64 i51] <|
  .some a44 fun x52 =>
  .need ((0 : Int) ≤ IntKind.i64.wrap (i9 - 1) ∧ IntKind.i64.wrap (i9 - 1) < (↑n44 : Int)) <|
  .store (x52.add ((IntKind.i64.wrap (i9 - 1)).toNat * 1)) [.int .u64 (if (if i29 < i51 then i29 else i51) > i49 then if i29 < i51 then i29 else i51 else i49)] <|
  .draw <|
  .load ⟨s, 12, none⟩ 1 fun v53 =>
  .exS fun a54 n54 c54 =>
  .isL v53 [.slice a54 n54 c54] <|
  .load ⟨s, 13, none⟩ 1 fun v55 =>
  .exS fun a56 n56 c56 =>
  .isL v55 [.slice a56 n56 c56] <|
  .some a56 fun x57 =>
  .need ((0 : Int) ≤ IntKind.i64.wrap (i9 - 1) ∧ IntKind.i64.wrap (i9 - 1) < (↑n56 : Int)) <|
  .load (x57.add ((IntKind.i64.wrap (i9 - 1)).toNat * 1)) 1 fun v58 =>
  .exI fun i59 =>
  .isL v58 [.int .u64 i59] <|
  .some a54 fun x60 =>
  .need ((0 : Int) ≤ IntKind.i64.wrap (i9 - 1) ∧ IntKind.i64.wrap (i9 - 1) < (↑n54 : Int)) <|
  .store (x60.add ((IntKind.i64.wrap (i9 - 1)).toNat * 1)) [.int .u64 (IntKind.u64.wrap (i59 + 1))] <|
  .call 66 ([.pointer (some ⟨s, 0, none⟩)]) fun v61 =>
  .isL [v61] [.tuple #[]] <|
  .load ⟨s, 12, none⟩ 1 fun v62 =>
  .exS fun a63 n63 c63 =>
  .isL v62 [.slice a63 n63 c63] <|
  .some a63 fun x64 =>
  .need ((0 : Int) ≤ IntKind.i64.wrap (i9 - 1) ∧ IntKind.i64.wrap (i9 - 1) < (↑n63 : Int)) <|
  .load (x64.add ((IntKind.i64.wrap (i9 - 1)).toNat * 1)) 1 fun v65 =>
  .exI fun i66 =>
  .isL v65 [.int .u64 i66] <|
  bif (decide (i66 ≤ i29)) then
   (.load ⟨p1, 1, none⟩ 1 fun v67 =>
   .exI fun i68 =>
   .isL v67 [.int .i64 i68] <|
   .call 102 ([.pointer (some ⟨s, 0, none⟩), .int .i64 i68]) fun v69 =>
   .isL [v69] [.tuple #[]] <|
   .call 103 ([.pointer (some ⟨s, 0, none⟩)]) fun v70 =>
   .isL [v70] [.tuple #[]] <|
   .ret (.tuple #[]))
  else
  (.call 103 ([.pointer (some ⟨s, 0, none⟩)]) fun v71 =>
  .isL [v71] [.tuple #[]] <|
  .ret (.tuple #[])))
 else
 (.draw <|
 .load ⟨p1, 4, none⟩ 1 fun v72 =>
 .exI fun i73 =>
 .isL v72 [.int .u64 i73] <|
 .load ⟨s, 12, none⟩ 1 fun v74 =>
 .exS fun a75 n75 c75 =>
 .isL v74 [.slice a75 n75 c75] <|
 .some a75 fun x76 =>
 .need ((0 : Int) ≤ IntKind.i64.wrap (i9 - 1) ∧ IntKind.i64.wrap (i9 - 1) < (↑n75 : Int)) <|
 .load (x76.add ((IntKind.i64.wrap (i9 - 1)).toNat * 1)) 1 fun v77 =>
 .exI fun i78 =>
 .isL v77 [.int .u64 i78] <|
 bif (decide (IntKind.u64.wrap (i73 + 1) < i78)) then
  (.draw <|
  .load ⟨s, 12, none⟩ 1 fun v79 =>
  .exS fun a80 n80 c80 =>
  .isL v79 [.slice a80 n80 c80] <|
  .load ⟨p1, 4, none⟩ 1 fun v81 =>
  .exI fun i82 =>
  .isL v81 [.int .u64 i82] <|
  .load ⟨s, 13, none⟩ 1 fun v83 =>
  .exS fun a84 n84 c84 =>
  .isL v83 [.slice a84 n84 c84] <|
  .some a84 fun x85 =>
  .need ((0 : Int) ≤ IntKind.i64.wrap (i9 - 1) ∧ IntKind.i64.wrap (i9 - 1) < (↑n84 : Int)) <|
  .load (x85.add ((IntKind.i64.wrap (i9 - 1)).toNat * 1)) 1 fun v86 =>
  .exI fun i87 =>
  .isL v86 [.int .u64 i87] <|
  .some a80 fun x88 =>
  .need ((0 : Int) ≤ IntKind.i64.wrap (i9 - 1) ∧ IntKind.i64.wrap (i9 - 1) < (↑n80 : Int)) <|
  .store (x88.add ((IntKind.i64.wrap (i9 - 1)).toNat * 1)) [.int .u64 (if IntKind.u64.wrap (i87 + 1) > IntKind.u64.wrap (i82 + 1) then IntKind.u64.wrap (i87 + 1) else IntKind.u64.wrap (i82 + 1))] <|
  .load ⟨p1, 1, none⟩ 1 fun v89 =>
  .exI fun i90 =>
  .isL v89 [.int .i64 i90] <|
  .call 102 ([.pointer (some ⟨s, 0, none⟩), .int .i64 i90]) fun v91 =>
  .isL [v91] [.tuple #[]] <|
  .call 103 ([.pointer (some ⟨s, 0, none⟩)]) fun v92 =>
  .isL [v92] [.tuple #[]] <|
  .ret (.tuple #[]))
 else
 (.call 103 ([.pointer (some ⟨s, 0, none⟩)]) fun v93 =>
 .isL [v93] [.tuple #[]] <|
 .ret (.tuple #[])))))
theorem e76 (s : Nat) (m0 : Int) (m1 : Int) (m2 : Int) (m3 : Int) (m4 : Int) (m5 : Int) (m6a : Option Addr) (m6n : Nat) (m6c : Nat) (m7 : Int) (m8 : Int) (m9 : Bool) (m10 : Int) (m11 : Int) (m12a : Option Addr) (m12n : Nat) (m12c : Nat) (m13 : Int) (m14 : Int) (m15 : Int) (m16 : ByteArray) (m17 : ByteArray) (m18 : Int) (m19 : Int) (m20 : ByteArray) : genFn Try.prog noM noM Try.f76 [.pointer (some ⟨s, 0, none⟩), .agg #[.int .i64 m0, .int .i64 m1, .int .i64 m2, .int .u64 m3, .int .u64 m4, .int .u64 m5, .slice m6a m6n m6c, .int .u64 m7, .int .u64 m8, .bool m9, .int .u64 m10, .int .u64 m11, .slice m12a m12n m12c, .int .i64 m13, .int .i64 m14, .int .u64 m15, .string m16, .string m17, .int .u64 m18, .int .i64 m19, .string m20]] = t76 s m0 m1 m2 m3 m4 m5 m6a m6n m6c m7 m8 m9 m10 m11 m12a m12n m12c m13 m14 m15 m16 m17 m18 m19 m20 := by kernel_rfl
theorem r76 (s : Nat) (m0 : Int) (m1 : Int) (m2 : Int) (m3 : Int) (m4 : Int) (m5 : Int) (m6a : Option Addr) (m6n : Nat) (m6c : Nat) (m7 : Int) (m8 : Int) (m9 : Bool) (m10 : Int) (m11 : Int) (m12a : Option Addr) (m12n : Nat) (m12c : Nat) (m13 : Int) (m14 : Int) (m15 : Int) (m16 : ByteArray) (m17 : ByteArray) (m18 : Int) (m19 : Int) (m20 : ByteArray) {R : Value → World → Prop} {w : World} (h : (t76 s m0 m1 m2 m3 m4 m5 m6a m6n m6c m7 m8 m9 m10 m11 m12a m12n m12c m13 m14 m15 m16 m17 m18 m19 m20).wp Try.prog R (fun _ _ _ => False) w) : Runs Try.prog 76 [.pointer (some ⟨s, 0, none⟩), .agg #[.int .i64 m0, .int .i64 m1, .int .i64 m2, .int .u64 m3, .int .u64 m4, .int .u64 m5, .slice m6a m6n m6c, .int .u64 m7, .int .u64 m8, .bool m9, .int .u64 m10, .int .u64 m11, .slice m12a m12n m12c, .int .i64 m13, .int .i64 m14, .int .u64 m15, .string m16, .string m17, .int .u64 m18, .int .i64 m19, .string m20]] w R :=
 genFn_runs mixed noM noM Try.func76 (by kernel_rfl) (by rw [e76]; exact h)
end Go.Proofs.Ytnbfffmdplcajaa
