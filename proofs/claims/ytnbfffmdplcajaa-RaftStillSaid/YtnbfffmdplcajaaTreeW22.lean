/- The trees of verification conditions of functions 22: printed by a program of mine, checked here. -/
import Derived.Test.YtnbfffmdplcajaaTree0
set_option linter.unusedVariables false
set_option maxRecDepth 100000
namespace Go.Proofs.Ytnbfffmdplcajaa
open Go.Vc
def t22 : VC :=
 .call 23 ([.int .i64 1, .int .i64 3, .agg #[.int .u64 0, .int .i64 0, .int .u64 0, .int .u64 0, .slice none 0 0, .slice none 0 0]]) fun v1 =>
 .exI fun i2 =>
 .exI fun i3 =>
 .exI fun i4 =>
 .exI fun i5 =>
 .exI fun i6 =>
 .exI fun i7 =>
 .exS fun a8 n8 c8 =>
 .exS fun a9 n9 c9 =>
 .exI fun i10 =>
 .exI fun i11 =>
 .exI fun i12 =>
 .exS fun a13 n13 c13 =>
 .exS fun a14 n14 c14 =>
 .exS fun a15 n15 c15 =>
 .exS fun a16 n16 c16 =>
 .exI fun i17 =>
 .exS fun a18 n18 c18 =>
 .isL [v1] [.agg #[.int .u64 i2, .int .i64 i3, .int .i64 i4, .int .i64 i5, .int .u64 i6, .int .u64 i7, .slice a8 n8 c8, .slice a9 n9 c9, .int .u64 i10, .int .i64 i11, .int .i64 i12, .slice a13 n13 c13, .slice a14 n14 c14, .slice a15 n15 c15, .slice a16 n16 c16, .int .u64 i17, .slice a18 n18 c18]] <|
 .new 36 [.int .u64 0, .int .i64 0, .int .i64 0, .int .i64 0, .int .u64 0, .int .u64 0, .slice none 0 0, .slice none 0 0, .int .u64 0, .int .i64 0, .int .i64 0, .slice none 0 0, .slice none 0 0, .slice none 0 0, .slice none 0 0, .int .u64 0, .slice none 0 0] fun p19 =>
 .store ⟨p19, 0, none⟩ [.int .u64 i2, .int .i64 i3, .int .i64 i4, .int .i64 i5, .int .u64 i6, .int .u64 i7, .slice a8 n8 c8, .slice a9 n9 c9, .int .u64 i10, .int .i64 i11, .int .i64 i12, .slice a13 n13 c13, .slice a14 n14 c14, .slice a15 n15 c15, .slice a16 n16 c16, .int .u64 i17, .slice a18 n18 c18] <|
 .load ⟨p19, 0, none⟩ 17 fun v20 =>
 .exI fun i21 =>
 .exI fun i22 =>
 .exI fun i23 =>
 .exI fun i24 =>
 .exI fun i25 =>
 .exI fun i26 =>
 .exS fun a27 n27 c27 =>
 .exS fun a28 n28 c28 =>
 .exI fun i29 =>
 .exI fun i30 =>
 .exI fun i31 =>
 .exS fun a32 n32 c32 =>
 .exS fun a33 n33 c33 =>
 .exS fun a34 n34 c34 =>
 .exS fun a35 n35 c35 =>
 .exI fun i36 =>
 .exS fun a37 n37 c37 =>
 .isL v20 [.int .u64 i21, .int .i64 i22, .int .i64 i23, .int .i64 i24, .int .u64 i25, .int .u64 i26, .slice a27 n27 c27, .slice a28 n28 c28, .int .u64 i29, .int .i64 i30, .int .i64 i31, .slice a32 n32 c32, .slice a33 n33 c33, .slice a34 n34 c34, .slice a35 n35 c35, .int .u64 i36, .slice a37 n37 c37] <|
 .call 32 ([.agg #[.int .u64 i21, .int .i64 i22, .int .i64 i23, .int .i64 i24, .int .u64 i25, .int .u64 i26, .slice a27 n27 c27, .slice a28 n28 c28, .int .u64 i29, .int .i64 i30, .int .i64 i31, .slice a32 n32 c32, .slice a33 n33 c33, .slice a34 n34 c34, .slice a35 n35 c35, .int .u64 i36, .slice a37 n37 c37]]) fun v38 =>
 .exI fun i39 =>
 .exI fun i40 =>
 .exI fun i41 =>
 .exI fun i42 =>
 .exI fun i43 =>
 .exI fun i44 =>
 .exS fun a45 n45 c45 =>
 .exS fun a46 n46 c46 =>
 .exI fun i47 =>
 .exI fun i48 =>
 .exI fun i49 =>
 .exS fun a50 n50 c50 =>
 .exS fun a51 n51 c51 =>
 .exS fun a52 n52 c52 =>
 .exS fun a53 n53 c53 =>
 .exI fun i54 =>
 .exS fun a55 n55 c55 =>
 .exS fun a56 n56 c56 =>
 .exS fun a57 n57 c57 =>
 .exS fun a58 n58 c58 =>
 .isL [v38] [.tuple #[.agg #[.int .u64 i39, .int .i64 i40, .int .i64 i41, .int .i64 i42, .int .u64 i43, .int .u64 i44, .slice a45 n45 c45, .slice a46 n46 c46, .int .u64 i47, .int .i64 i48, .int .i64 i49, .slice a50 n50 c50, .slice a51 n51 c51, .slice a52 n52 c52, .slice a53 n53 c53, .int .u64 i54, .slice a55 n55 c55], .agg #[.slice a56 n56 c56, .slice a57 n57 c57, .slice a58 n58 c58]]] <|
 .new 36 [.int .u64 0, .int .i64 0, .int .i64 0, .int .i64 0, .int .u64 0, .int .u64 0, .slice none 0 0, .slice none 0 0, .int .u64 0, .int .i64 0, .int .i64 0, .slice none 0 0, .slice none 0 0, .slice none 0 0, .slice none 0 0, .int .u64 0, .slice none 0 0] fun p59 =>
 .new 48 [.slice none 0 0, .slice none 0 0, .slice none 0 0] fun p60 =>
 .store ⟨p59, 0, none⟩ [.int .u64 i39, .int .i64 i40, .int .i64 i41, .int .i64 i42, .int .u64 i43, .int .u64 i44, .slice a45 n45 c45, .slice a46 n46 c46, .int .u64 i47, .int .i64 i48, .int .i64 i49, .slice a50 n50 c50, .slice a51 n51 c51, .slice a52 n52 c52, .slice a53 n53 c53, .int .u64 i54, .slice a55 n55 c55] <|
 .store ⟨p60, 0, none⟩ [.slice a56 n56 c56, .slice a57 n57 c57, .slice a58 n58 c58] <|
 .call 23 ([.int .i64 1, .int .i64 1, .agg #[.int .u64 0, .int .i64 0, .int .u64 0, .int .u64 0, .slice none 0 0, .slice none 0 0]]) fun v61 =>
 .exI fun i62 =>
 .exI fun i63 =>
 .exI fun i64 =>
 .exI fun i65 =>
 .exI fun i66 =>
 .exI fun i67 =>
 .exS fun a68 n68 c68 =>
 .exS fun a69 n69 c69 =>
 .exI fun i70 =>
 .exI fun i71 =>
 .exI fun i72 =>
 .exS fun a73 n73 c73 =>
 .exS fun a74 n74 c74 =>
 .exS fun a75 n75 c75 =>
 .exS fun a76 n76 c76 =>
 .exI fun i77 =>
 .exS fun a78 n78 c78 =>
 .isL [v61] [.agg #[.int .u64 i62, .int .i64 i63, .int .i64 i64, .int .i64 i65, .int .u64 i66, .int .u64 i67, .slice a68 n68 c68, .slice a69 n69 c69, .int .u64 i70, .int .i64 i71, .int .i64 i72, .slice a73 n73 c73, .slice a74 n74 c74, .slice a75 n75 c75, .slice a76 n76 c76, .int .u64 i77, .slice a78 n78 c78]] <|
 .call 32 ([.agg #[.int .u64 i62, .int .i64 i63, .int .i64 i64, .int .i64 i65, .int .u64 i66, .int .u64 i67, .slice a68 n68 c68, .slice a69 n69 c69, .int .u64 i70, .int .i64 i71, .int .i64 i72, .slice a73 n73 c73, .slice a74 n74 c74, .slice a75 n75 c75, .slice a76 n76 c76, .int .u64 i77, .slice a78 n78 c78]]) fun v79 =>
 .exI fun i80 =>
 .exI fun i81 =>
 .exI fun i82 =>
 .exI fun i83 =>
 .exI fun i84 =>
 .exI fun i85 =>
 .exS fun a86 n86 c86 =>
 .exS fun a87 n87 c87 =>
 .exI fun i88 =>
 .exI fun i89 =>
 .exI fun i90 =>
 .exS fun a91 n91 c91 =>
 .exS fun a92 n92 c92 =>
 .exS fun a93 n93 c93 =>
 .exS fun a94 n94 c94 =>
 .exI fun i95 =>
 .exS fun a96 n96 c96 =>
 .exS fun a97 n97 c97 =>
 .exS fun a98 n98 c98 =>
 .exS fun a99 n99 c99 =>
 .isL [v79] [.tuple #[.agg #[.int .u64 i80, .int .i64 i81, .int .i64 i82, .int .i64 i83, .int .u64 i84, .int .u64 i85, .slice a86 n86 c86, .slice a87 n87 c87, .int .u64 i88, .int .i64 i89, .int .i64 i90, .slice a91 n91 c91, .slice a92 n92 c92, .slice a93 n93 c93, .slice a94 n94 c94, .int .u64 i95, .slice a96 n96 c96], .agg #[.slice a97 n97 c97, .slice a98 n98 c98, .slice a99 n99 c99]]] <|
 .new 36 [.int .u64 0, .int .i64 0, .int .i64 0, .int .i64 0, .int .u64 0, .int .u64 0, .slice none 0 0, .slice none 0 0, .int .u64 0, .int .i64 0, .int .i64 0, .slice none 0 0, .slice none 0 0, .slice none 0 0, .slice none 0 0, .int .u64 0, .slice none 0 0] fun p100 =>
 .new 48 [.slice none 0 0, .slice none 0 0, .slice none 0 0] fun p101 =>
 .store ⟨p100, 0, none⟩ [.int .u64 i80, .int .i64 i81, .int .i64 i82, .int .i64 i83, .int .u64 i84, .int .u64 i85, .slice a86 n86 c86, .slice a87 n87 c87, .int .u64 i88, .int .i64 i89, .int .i64 i90, .slice a91 n91 c91, .slice a92 n92 c92, .slice a93 n93 c93, .slice a94 n94 c94, .int .u64 i95, .slice a96 n96 c96] <|
 .store ⟨p101, 0, none⟩ [.slice a97 n97 c97, .slice a98 n98 c98, .slice a99 n99 c99] <|
 .load ⟨p100, 0, none⟩ 17 fun v102 =>
 .exI fun i103 =>
 .exI fun i104 =>
 .exI fun i105 =>
 .exI fun i106 =>
 .exI fun i107 =>
 .exI fun i108 =>
 .exS fun a109 n109 c109 =>
 .exS fun a110 n110 c110 =>
 .exI fun i111 =>
 .exI fun i112 =>
 .exI fun i113 =>
 .exS fun a114 n114 c114 =>
 .exS fun a115 n115 c115 =>
 .exS fun a116 n116 c116 =>
 .exS fun a117 n117 c117 =>
 .exI fun i118 =>
 .exS fun a119 n119 c119 =>
 .isL v102 [.int .u64 i103, .int .i64 i104, .int .i64 i105, .int .i64 i106, .int .u64 i107, .int .u64 i108, .slice a109 n109 c109, .slice a110 n110 c110, .int .u64 i111, .int .i64 i112, .int .i64 i113, .slice a114 n114 c114, .slice a115 n115 c115, .slice a116 n116 c116, .slice a117 n117 c117, .int .u64 i118, .slice a119 n119 c119] <|
 .call 25 ([.agg #[.int .u64 i103, .int .i64 i104, .int .i64 i105, .int .i64 i106, .int .u64 i107, .int .u64 i108, .slice a109 n109 c109, .slice a110 n110 c110, .int .u64 i111, .int .i64 i112, .int .i64 i113, .slice a114 n114 c114, .slice a115 n115 c115, .slice a116 n116 c116, .slice a117 n117 c117, .int .u64 i118, .slice a119 n119 c119]]) fun v120 =>
 .exI fun i121 =>
 .exI fun i122 =>
 .isL [v120] [.tuple #[.int .u64 i121, .int .u64 i122]] <|
 .load ⟨p100, 0, none⟩ 17 fun v123 =>
 .exI fun i124 =>
 .exI fun i125 =>
 .exI fun i126 =>
 .exI fun i127 =>
 .exI fun i128 =>
 .exI fun i129 =>
 .exS fun a130 n130 c130 =>
 .exS fun a131 n131 c131 =>
 .exI fun i132 =>
 .exI fun i133 =>
 .exI fun i134 =>
 .exS fun a135 n135 c135 =>
 .exS fun a136 n136 c136 =>
 .exS fun a137 n137 c137 =>
 .exS fun a138 n138 c138 =>
 .exI fun i139 =>
 .exS fun a140 n140 c140 =>
 .isL v123 [.int .u64 i124, .int .i64 i125, .int .i64 i126, .int .i64 i127, .int .u64 i128, .int .u64 i129, .slice a130 n130 c130, .slice a131 n131 c131, .int .u64 i132, .int .i64 i133, .int .i64 i134, .slice a135 n135 c135, .slice a136 n136 c136, .slice a137 n137 c137, .slice a138 n138 c138, .int .u64 i139, .slice a140 n140 c140] <|
 .call 27 ([.agg #[.int .u64 i124, .int .i64 i125, .int .i64 i126, .int .i64 i127, .int .u64 i128, .int .u64 i129, .slice a130 n130 c130, .slice a131 n131 c131, .int .u64 i132, .int .i64 i133, .int .i64 i134, .slice a135 n135 c135, .slice a136 n136 c136, .slice a137 n137 c137, .slice a138 n138 c138, .int .u64 i139, .slice a140 n140 c140], .int .u64 1]) fun v141 =>
 .exI fun i142 =>
 .exB fun b143 =>
 .isL [v141] [.tuple #[.int .u64 i142, .bool b143]] <|
 .load ⟨p19, 0, none⟩ 17 fun v144 =>
 .exI fun i145 =>
 .exI fun i146 =>
 .exI fun i147 =>
 .exI fun i148 =>
 .exI fun i149 =>
 .exI fun i150 =>
 .exS fun a151 n151 c151 =>
 .exS fun a152 n152 c152 =>
 .exI fun i153 =>
 .exI fun i154 =>
 .exI fun i155 =>
 .exS fun a156 n156 c156 =>
 .exS fun a157 n157 c157 =>
 .exS fun a158 n158 c158 =>
 .exS fun a159 n159 c159 =>
 .exI fun i160 =>
 .exS fun a161 n161 c161 =>
 .isL v144 [.int .u64 i145, .int .i64 i146, .int .i64 i147, .int .i64 i148, .int .u64 i149, .int .u64 i150, .slice a151 n151 c151, .slice a152 n152 c152, .int .u64 i153, .int .i64 i154, .int .i64 i155, .slice a156 n156 c156, .slice a157 n157 c157, .slice a158 n158 c158, .slice a159 n159 c159, .int .u64 i160, .slice a161 n161 c161] <|
 .call 33 ([.agg #[.int .u64 i145, .int .i64 i146, .int .i64 i147, .int .i64 i148, .int .u64 i149, .int .u64 i150, .slice a151 n151 c151, .slice a152 n152 c152, .int .u64 i153, .int .i64 i154, .int .i64 i155, .slice a156 n156 c156, .slice a157 n157 c157, .slice a158 n158 c158, .slice a159 n159 c159, .int .u64 i160, .slice a161 n161 c161], .slice none 0 0]) fun v162 =>
 .exI fun i163 =>
 .exI fun i164 =>
 .exI fun i165 =>
 .exI fun i166 =>
 .exI fun i167 =>
 .exI fun i168 =>
 .exS fun a169 n169 c169 =>
 .exS fun a170 n170 c170 =>
 .exI fun i171 =>
 .exI fun i172 =>
 .exI fun i173 =>
 .exS fun a174 n174 c174 =>
 .exS fun a175 n175 c175 =>
 .exS fun a176 n176 c176 =>
 .exS fun a177 n177 c177 =>
 .exI fun i178 =>
 .exS fun a179 n179 c179 =>
 .exS fun a180 n180 c180 =>
 .exS fun a181 n181 c181 =>
 .exS fun a182 n182 c182 =>
 .exB fun b183 =>
 .isL [v162] [.tuple #[.agg #[.int .u64 i163, .int .i64 i164, .int .i64 i165, .int .i64 i166, .int .u64 i167, .int .u64 i168, .slice a169 n169 c169, .slice a170 n170 c170, .int .u64 i171, .int .i64 i172, .int .i64 i173, .slice a174 n174 c174, .slice a175 n175 c175, .slice a176 n176 c176, .slice a177 n177 c177, .int .u64 i178, .slice a179 n179 c179], .agg #[.slice a180 n180 c180, .slice a181 n181 c181, .slice a182 n182 c182], .bool b183]] <|
 .new 36 [.int .u64 0, .int .i64 0, .int .i64 0, .int .i64 0, .int .u64 0, .int .u64 0, .slice none 0 0, .slice none 0 0, .int .u64 0, .int .i64 0, .int .i64 0, .slice none 0 0, .slice none 0 0, .slice none 0 0, .slice none 0 0, .int .u64 0, .slice none 0 0] fun p184 =>
 .new 48 [.slice none 0 0, .slice none 0 0, .slice none 0 0] fun p185 =>
 .store ⟨p184, 0, none⟩ [.int .u64 i163, .int .i64 i164, .int .i64 i165, .int .i64 i166, .int .u64 i167, .int .u64 i168, .slice a169 n169 c169, .slice a170 n170 c170, .int .u64 i171, .int .i64 i172, .int .i64 i173, .slice a174 n174 c174, .slice a175 n175 c175, .slice a176 n176 c176, .slice a177 n177 c177, .int .u64 i178, .slice a179 n179 c179] <|
 .store ⟨p185, 0, none⟩ [.slice a180 n180 c180, .slice a181 n181 c181, .slice a182 n182 c182] <|
 .load ⟨p59, 0, none⟩ 1 fun v186 =>
 .exI fun i187 =>
 .isL v186 [.int .u64 i187] <|
 bif (i187 == 1) then
  (.load ⟨p59, 9, none⟩ 1 fun v188 =>
  .exI fun i189 =>
  .isL v188 [.int .i64 i189] <|
  bif (i189 == 1) then
   (.load ⟨p60, 1, none⟩ 1 fun v190 =>
   .exS fun a191 n191 c191 =>
   .isL v190 [.slice a191 n191 c191] <|
   bif ((↑n191 : Int) == 2) then
    (.load ⟨p60, 0, none⟩ 1 fun v192 =>
    .exS fun a193 n193 c193 =>
    .isL v192 [.slice a193 n193 c193] <|
    bif ((↑n193 : Int) == 1) then
     (.load ⟨p100, 9, none⟩ 1 fun v194 =>
     .exI fun i195 =>
     .isL v194 [.int .i64 i195] <|
     bif (i195 == 2) then
      (.load ⟨p100, 8, none⟩ 1 fun v196 =>
      .exI fun i197 =>
      .isL v196 [.int .u64 i197] <|
      bif (i197 == 1) then
       (.load ⟨p101, 0, none⟩ 1 fun v198 =>
       .exS fun a199 n199 c199 =>
       .isL v198 [.slice a199 n199 c199] <|
       bif ((↑n199 : Int) == 2) then
        (bif (i121 == 1) then
         (bif b143 then
          (bif (i142 == 1) then
           (.ret (.bool !b183))
          else
          (.ret (.bool false)))
         else
         (.ret (.bool false)))
        else
        (.ret (.bool false)))
       else
       (.ret (.bool false)))
      else
      (.ret (.bool false)))
     else
     (.ret (.bool false)))
    else
    (.ret (.bool false)))
   else
   (.ret (.bool false)))
  else
  (.ret (.bool false)))
 else
 (.ret (.bool false))
theorem e22 : genFn Try.prog noM noM Try.f22 [] = t22 := by kernel_rfl
theorem r22 {R : Value → World → Prop} {w : World} (h : (t22).wp Try.prog R (fun _ _ _ => False) w) : Runs Try.prog 22 [] w R :=
 genFn_runs mixed noM noM Try.func22 (by kernel_rfl) (by rw [e22]; exact h)
end Go.Proofs.Ytnbfffmdplcajaa
