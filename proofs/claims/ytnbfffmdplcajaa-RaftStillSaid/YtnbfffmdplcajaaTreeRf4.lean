/- The trees of verification conditions of functions 36, 39, 42, 43, 44: printed by a program of mine, checked here. -/
import Derived.Test.YtnbfffmdplcajaaTree0
set_option linter.unusedVariables false
set_option maxRecDepth 100000
namespace Go.Proofs.Ytnbfffmdplcajaa
open Go.Vc
def t36 (r0 : Int) (r1 : Int) (r2 : Int) (r3 : Int) (r4 : Int) (r5 : Int) (r6a : Option Addr) (r6n : Nat) (r6c : Nat) (r7a : Option Addr) (r7n : Nat) (r7c : Nat) (r8 : Int) (r9 : Int) (r10 : Int) (r11a : Option Addr) (r11n : Nat) (r11c : Nat) (r12a : Option Addr) (r12n : Nat) (r12c : Nat) (r13a : Option Addr) (r13n : Nat) (r13c : Nat) (r14a : Option Addr) (r14n : Nat) (r14c : Nat) (r15 : Int) (r16a : Option Addr) (r16n : Nat) (r16c : Nat) : VC :=
 .new 36 [.int .u64 r0, .int .i64 r1, .int .i64 r2, .int .i64 r3, .int .u64 r4, .int .u64 r5, .slice r6a r6n r6c, .slice r7a r7n r7c, .int .u64 r8, .int .i64 r9, .int .i64 r10, .slice r11a r11n r11c, .slice r12a r12n r12c, .slice r13a r13n r13c, .slice r14a r14n r14c, .int .u64 r15, .slice r16a r16n r16c] fun p1 =>
 .new 36 [.int .u64 0, .int .i64 0, .int .i64 0, .int .i64 0, .int .u64 0, .int .u64 0, .slice none 0 0, .slice none 0 0, .int .u64 0, .int .i64 0, .int .i64 0, .slice none 0 0, .slice none 0 0, .slice none 0 0, .slice none 0 0, .int .u64 0, .slice none 0 0] fun p2 =>
 .new 48 [.slice none 0 0, .slice none 0 0, .slice none 0 0] fun p3 =>
 .load ⟨p1, 0, none⟩ 17 fun v4 =>
 .exI fun i5 =>
 .exI fun i6 =>
 .exI fun i7 =>
 .exI fun i8 =>
 .exI fun i9 =>
 .exI fun i10 =>
 .exS fun a11 n11 c11 =>
 .exS fun a12 n12 c12 =>
 .exI fun i13 =>
 .exI fun i14 =>
 .exI fun i15 =>
 .exS fun a16 n16 c16 =>
 .exS fun a17 n17 c17 =>
 .exS fun a18 n18 c18 =>
 .exS fun a19 n19 c19 =>
 .exI fun i20 =>
 .exS fun a21 n21 c21 =>
 .isL v4 [.int .u64 i5, .int .i64 i6, .int .i64 i7, .int .i64 i8, .int .u64 i9, .int .u64 i10, .slice a11 n11 c11, .slice a12 n12 c12, .int .u64 i13, .int .i64 i14, .int .i64 i15, .slice a16 n16 c16, .slice a17 n17 c17, .slice a18 n18 c18, .slice a19 n19 c19, .int .u64 i20, .slice a21 n21 c21] <|
 .call 69 ([.agg #[.int .u64 i5, .int .i64 i6, .int .i64 i7, .int .i64 i8, .int .u64 i9, .int .u64 i10, .slice a11 n11 c11, .slice a12 n12 c12, .int .u64 i13, .int .i64 i14, .int .i64 i15, .slice a16 n16 c16, .slice a17 n17 c17, .slice a18 n18 c18, .slice a19 n19 c19, .int .u64 i20, .slice a21 n21 c21]]) fun v22 =>
 .exN fun p23 =>
 .isL [v22] [.pointer (some ⟨p23, 0, none⟩)] <|
 .load ⟨p1, 9, none⟩ 1 fun v24 =>
 .exI fun i25 =>
 .isL v24 [.int .i64 i25] <|
 bif (i25 == 2) then
  (.call 70 ([.pointer (some ⟨p23, 0, none⟩)]) fun v26 =>
  .isL [v26] [.tuple #[]] <|
  .draw <|
  .load ⟨p23, 0, none⟩ 17 fun v27 =>
  .exI fun i28 =>
  .exI fun i29 =>
  .exI fun i30 =>
  .exI fun i31 =>
  .exI fun i32 =>
  .exI fun i33 =>
  .exS fun a34 n34 c34 =>
  .exS fun a35 n35 c35 =>
  .exI fun i36 =>
  .exI fun i37 =>
  .exI fun i38 =>
  .exS fun a39 n39 c39 =>
  .exS fun a40 n40 c40 =>
  .exS fun a41 n41 c41 =>
  .exS fun a42 n42 c42 =>
  .exI fun i43 =>
  .exS fun a44 n44 c44 =>
  .isL v27 [.int .u64 i28, .int .i64 i29, .int .i64 i30, .int .i64 i31, .int .u64 i32, .int .u64 i33, .slice a34 n34 c34, .slice a35 n35 c35, .int .u64 i36, .int .i64 i37, .int .i64 i38, .slice a39 n39 c39, .slice a40 n40 c40, .slice a41 n41 c41, .slice a42 n42 c42, .int .u64 i43, .slice a44 n44 c44] <|
  .load ⟨p23, 17, none⟩ 3 fun v45 =>
  .exS fun a46 n46 c46 =>
  .exS fun a47 n47 c47 =>
  .exS fun a48 n48 c48 =>
  .isL v45 [.slice a46 n46 c46, .slice a47 n47 c47, .slice a48 n48 c48] <|
  .store ⟨p2, 0, none⟩ [.int .u64 i28, .int .i64 i29, .int .i64 i30, .int .i64 i31, .int .u64 i32, .int .u64 i33, .slice a34 n34 c34, .slice a35 n35 c35, .int .u64 i36, .int .i64 i37, .int .i64 i38, .slice a39 n39 c39, .slice a40 n40 c40, .slice a41 n41 c41, .slice a42 n42 c42, .int .u64 i43, .slice a44 n44 c44] <|
  .hold [(⟨p23, 17, none⟩, [.slice a46 n46 c46, .slice a47 n47 c47, .slice a48 n48 c48])] <|
  .store ⟨p3, 0, none⟩ [.slice a46 n46 c46, .slice a47 n47 c47, .slice a48 n48 c48] <|
  .load ⟨p2, 0, none⟩ 17 fun v49 =>
  .exI fun i50 =>
  .exI fun i51 =>
  .exI fun i52 =>
  .exI fun i53 =>
  .exI fun i54 =>
  .exI fun i55 =>
  .exS fun a56 n56 c56 =>
  .exS fun a57 n57 c57 =>
  .exI fun i58 =>
  .exI fun i59 =>
  .exI fun i60 =>
  .exS fun a61 n61 c61 =>
  .exS fun a62 n62 c62 =>
  .exS fun a63 n63 c63 =>
  .exS fun a64 n64 c64 =>
  .exI fun i65 =>
  .exS fun a66 n66 c66 =>
  .isL v49 [.int .u64 i50, .int .i64 i51, .int .i64 i52, .int .i64 i53, .int .u64 i54, .int .u64 i55, .slice a56 n56 c56, .slice a57 n57 c57, .int .u64 i58, .int .i64 i59, .int .i64 i60, .slice a61 n61 c61, .slice a62 n62 c62, .slice a63 n63 c63, .slice a64 n64 c64, .int .u64 i65, .slice a66 n66 c66] <|
  .load ⟨p3, 0, none⟩ 3 fun v67 =>
  .exS fun a68 n68 c68 =>
  .exS fun a69 n69 c69 =>
  .exS fun a70 n70 c70 =>
  .isL v67 [.slice a68 n68 c68, .slice a69 n69 c69, .slice a70 n70 c70] <|
  .ret (.tuple #[.agg #[.int .u64 i50, .int .i64 i51, .int .i64 i52, .int .i64 i53, .int .u64 i54, .int .u64 i55, .slice a56 n56 c56, .slice a57 n57 c57, .int .u64 i58, .int .i64 i59, .int .i64 i60, .slice a61 n61 c61, .slice a62 n62 c62, .slice a63 n63 c63, .slice a64 n64 c64, .int .u64 i65, .slice a66 n66 c66], .agg #[.slice a68 n68 c68, .slice a69 n69 c69, .slice a70 n70 c70]]))
 else
 (.draw <|
 .load ⟨p23, 0, none⟩ 17 fun v71 =>
 .exI fun i72 =>
 .exI fun i73 =>
 .exI fun i74 =>
 .exI fun i75 =>
 .exI fun i76 =>
 .exI fun i77 =>
 .exS fun a78 n78 c78 =>
 .exS fun a79 n79 c79 =>
 .exI fun i80 =>
 .exI fun i81 =>
 .exI fun i82 =>
 .exS fun a83 n83 c83 =>
 .exS fun a84 n84 c84 =>
 .exS fun a85 n85 c85 =>
 .exS fun a86 n86 c86 =>
 .exI fun i87 =>
 .exS fun a88 n88 c88 =>
 .isL v71 [.int .u64 i72, .int .i64 i73, .int .i64 i74, .int .i64 i75, .int .u64 i76, .int .u64 i77, .slice a78 n78 c78, .slice a79 n79 c79, .int .u64 i80, .int .i64 i81, .int .i64 i82, .slice a83 n83 c83, .slice a84 n84 c84, .slice a85 n85 c85, .slice a86 n86 c86, .int .u64 i87, .slice a88 n88 c88] <|
 .load ⟨p23, 17, none⟩ 3 fun v89 =>
 .exS fun a90 n90 c90 =>
 .exS fun a91 n91 c91 =>
 .exS fun a92 n92 c92 =>
 .isL v89 [.slice a90 n90 c90, .slice a91 n91 c91, .slice a92 n92 c92] <|
 .store ⟨p2, 0, none⟩ [.int .u64 i72, .int .i64 i73, .int .i64 i74, .int .i64 i75, .int .u64 i76, .int .u64 i77, .slice a78 n78 c78, .slice a79 n79 c79, .int .u64 i80, .int .i64 i81, .int .i64 i82, .slice a83 n83 c83, .slice a84 n84 c84, .slice a85 n85 c85, .slice a86 n86 c86, .int .u64 i87, .slice a88 n88 c88] <|
 .hold [(⟨p23, 17, none⟩, [.slice a90 n90 c90, .slice a91 n91 c91, .slice a92 n92 c92])] <|
 .store ⟨p3, 0, none⟩ [.slice a90 n90 c90, .slice a91 n91 c91, .slice a92 n92 c92] <|
 .load ⟨p2, 0, none⟩ 17 fun v93 =>
 .exI fun i94 =>
 .exI fun i95 =>
 .exI fun i96 =>
 .exI fun i97 =>
 .exI fun i98 =>
 .exI fun i99 =>
 .exS fun a100 n100 c100 =>
 .exS fun a101 n101 c101 =>
 .exI fun i102 =>
 .exI fun i103 =>
 .exI fun i104 =>
 .exS fun a105 n105 c105 =>
 .exS fun a106 n106 c106 =>
 .exS fun a107 n107 c107 =>
 .exS fun a108 n108 c108 =>
 .exI fun i109 =>
 .exS fun a110 n110 c110 =>
 .isL v93 [.int .u64 i94, .int .i64 i95, .int .i64 i96, .int .i64 i97, .int .u64 i98, .int .u64 i99, .slice a100 n100 c100, .slice a101 n101 c101, .int .u64 i102, .int .i64 i103, .int .i64 i104, .slice a105 n105 c105, .slice a106 n106 c106, .slice a107 n107 c107, .slice a108 n108 c108, .int .u64 i109, .slice a110 n110 c110] <|
 .load ⟨p3, 0, none⟩ 3 fun v111 =>
 .exS fun a112 n112 c112 =>
 .exS fun a113 n113 c113 =>
 .exS fun a114 n114 c114 =>
 .isL v111 [.slice a112 n112 c112, .slice a113 n113 c113, .slice a114 n114 c114] <|
 .ret (.tuple #[.agg #[.int .u64 i94, .int .i64 i95, .int .i64 i96, .int .i64 i97, .int .u64 i98, .int .u64 i99, .slice a100 n100 c100, .slice a101 n101 c101, .int .u64 i102, .int .i64 i103, .int .i64 i104, .slice a105 n105 c105, .slice a106 n106 c106, .slice a107 n107 c107, .slice a108 n108 c108, .int .u64 i109, .slice a110 n110 c110], .agg #[.slice a112 n112 c112, .slice a113 n113 c113, .slice a114 n114 c114]]))
theorem e36 (r0 : Int) (r1 : Int) (r2 : Int) (r3 : Int) (r4 : Int) (r5 : Int) (r6a : Option Addr) (r6n : Nat) (r6c : Nat) (r7a : Option Addr) (r7n : Nat) (r7c : Nat) (r8 : Int) (r9 : Int) (r10 : Int) (r11a : Option Addr) (r11n : Nat) (r11c : Nat) (r12a : Option Addr) (r12n : Nat) (r12c : Nat) (r13a : Option Addr) (r13n : Nat) (r13c : Nat) (r14a : Option Addr) (r14n : Nat) (r14c : Nat) (r15 : Int) (r16a : Option Addr) (r16n : Nat) (r16c : Nat) : genFn Try.prog noM noM Try.f36 [.agg #[.int .u64 r0, .int .i64 r1, .int .i64 r2, .int .i64 r3, .int .u64 r4, .int .u64 r5, .slice r6a r6n r6c, .slice r7a r7n r7c, .int .u64 r8, .int .i64 r9, .int .i64 r10, .slice r11a r11n r11c, .slice r12a r12n r12c, .slice r13a r13n r13c, .slice r14a r14n r14c, .int .u64 r15, .slice r16a r16n r16c]] = t36 r0 r1 r2 r3 r4 r5 r6a r6n r6c r7a r7n r7c r8 r9 r10 r11a r11n r11c r12a r12n r12c r13a r13n r13c r14a r14n r14c r15 r16a r16n r16c := by kernel_rfl
theorem r36 (r0 : Int) (r1 : Int) (r2 : Int) (r3 : Int) (r4 : Int) (r5 : Int) (r6a : Option Addr) (r6n : Nat) (r6c : Nat) (r7a : Option Addr) (r7n : Nat) (r7c : Nat) (r8 : Int) (r9 : Int) (r10 : Int) (r11a : Option Addr) (r11n : Nat) (r11c : Nat) (r12a : Option Addr) (r12n : Nat) (r12c : Nat) (r13a : Option Addr) (r13n : Nat) (r13c : Nat) (r14a : Option Addr) (r14n : Nat) (r14c : Nat) (r15 : Int) (r16a : Option Addr) (r16n : Nat) (r16c : Nat) {R : Value → World → Prop} {w : World} (h : (t36 r0 r1 r2 r3 r4 r5 r6a r6n r6c r7a r7n r7c r8 r9 r10 r11a r11n r11c r12a r12n r12c r13a r13n r13c r14a r14n r14c r15 r16a r16n r16c).wp Try.prog R (fun _ _ _ => False) w) : Runs Try.prog 36 [.agg #[.int .u64 r0, .int .i64 r1, .int .i64 r2, .int .i64 r3, .int .u64 r4, .int .u64 r5, .slice r6a r6n r6c, .slice r7a r7n r7c, .int .u64 r8, .int .i64 r9, .int .i64 r10, .slice r11a r11n r11c, .slice r12a r12n r12c, .slice r13a r13n r13c, .slice r14a r14n r14c, .int .u64 r15, .slice r16a r16n r16c]] w R :=
 genFn_runs mixed noM noM Try.func36 (by kernel_rfl) (by rw [e36]; exact h)
def lv39 : Marks := (fun | some 7 => some [(5, .int .i64 0)] | some 16 => some [(8, .int .i64 0)] | _ => none)
def t39 (r0 : Int) (r1 : Int) (r2 : Int) (r3 : Int) (r4 : Int) (r5 : Int) (r6a : Option Addr) (r6n : Nat) (r6c : Nat) (r7a : Option Addr) (r7n : Nat) (r7c : Nat) (r8 : Int) (r9 : Int) (r10 : Int) (r11a : Option Addr) (r11n : Nat) (r11c : Nat) (r12a : Option Addr) (r12n : Nat) (r12c : Nat) (r13a : Option Addr) (r13n : Nat) (r13c : Nat) (r14a : Option Addr) (r14n : Nat) (r14c : Nat) (r15 : Int) (r16a : Option Addr) (r16n : Nat) (r16c : Nat) : VC :=
 .new 36 [.int .u64 r0, .int .i64 r1, .int .i64 r2, .int .i64 r3, .int .u64 r4, .int .u64 r5, .slice r6a r6n r6c, .slice r7a r7n r7c, .int .u64 r8, .int .i64 r9, .int .i64 r10, .slice r11a r11n r11c, .slice r12a r12n r12c, .slice r13a r13n r13c, .slice r14a r14n r14c, .int .u64 r15, .slice r16a r16n r16c] fun p1 =>
 .new 36 [.int .u64 0, .int .i64 0, .int .i64 0, .int .i64 0, .int .u64 0, .int .u64 0, .slice none 0 0, .slice none 0 0, .int .u64 0, .int .i64 0, .int .i64 0, .slice none 0 0, .slice none 0 0, .slice none 0 0, .slice none 0 0, .int .u64 0, .slice none 0 0] fun p2 =>
 .new 48 [.slice none 0 0, .slice none 0 0, .slice none 0 0] fun p3 =>
 .load ⟨p1, 0, none⟩ 17 fun v4 =>
 .exI fun i5 =>
 .exI fun i6 =>
 .exI fun i7 =>
 .exI fun i8 =>
 .exI fun i9 =>
 .exI fun i10 =>
 .exS fun a11 n11 c11 =>
 .exS fun a12 n12 c12 =>
 .exI fun i13 =>
 .exI fun i14 =>
 .exI fun i15 =>
 .exS fun a16 n16 c16 =>
 .exS fun a17 n17 c17 =>
 .exS fun a18 n18 c18 =>
 .exS fun a19 n19 c19 =>
 .exI fun i20 =>
 .exS fun a21 n21 c21 =>
 .isL v4 [.int .u64 i5, .int .i64 i6, .int .i64 i7, .int .i64 i8, .int .u64 i9, .int .u64 i10, .slice a11 n11 c11, .slice a12 n12 c12, .int .u64 i13, .int .i64 i14, .int .i64 i15, .slice a16 n16 c16, .slice a17 n17 c17, .slice a18 n18 c18, .slice a19 n19 c19, .int .u64 i20, .slice a21 n21 c21] <|
 .call 69 ([.agg #[.int .u64 i5, .int .i64 i6, .int .i64 i7, .int .i64 i8, .int .u64 i9, .int .u64 i10, .slice a11 n11 c11, .slice a12 n12 c12, .int .u64 i13, .int .i64 i14, .int .i64 i15, .slice a16 n16 c16, .slice a17 n17 c17, .slice a18 n18 c18, .slice a19 n19 c19, .int .u64 i20, .slice a21 n21 c21]]) fun v22 =>
 .exN fun p23 =>
 .isL [v22] [.pointer (some ⟨p23, 0, none⟩)] <|
 .load ⟨p1, 9, none⟩ 1 fun v24 =>
 .exI fun i25 =>
 .isL v24 [.int .i64 i25] <|
 bif (i25 == 2) then
  (.draw <|
  .load ⟨p23, 0, none⟩ 17 fun v26 =>
  .exI fun i27 =>
  .exI fun i28 =>
  .exI fun i29 =>
  .exI fun i30 =>
  .exI fun i31 =>
  .exI fun i32 =>
  .exS fun a33 n33 c33 =>
  .exS fun a34 n34 c34 =>
  .exI fun i35 =>
  .exI fun i36 =>
  .exI fun i37 =>
  .exS fun a38 n38 c38 =>
  .exS fun a39 n39 c39 =>
  .exS fun a40 n40 c40 =>
  .exS fun a41 n41 c41 =>
  .exI fun i42 =>
  .exS fun a43 n43 c43 =>
  .isL v26 [.int .u64 i27, .int .i64 i28, .int .i64 i29, .int .i64 i30, .int .u64 i31, .int .u64 i32, .slice a33 n33 c33, .slice a34 n34 c34, .int .u64 i35, .int .i64 i36, .int .i64 i37, .slice a38 n38 c38, .slice a39 n39 c39, .slice a40 n40 c40, .slice a41 n41 c41, .int .u64 i42, .slice a43 n43 c43] <|
  .load ⟨p23, 17, none⟩ 3 fun v44 =>
  .exS fun a45 n45 c45 =>
  .exS fun a46 n46 c46 =>
  .exS fun a47 n47 c47 =>
  .isL v44 [.slice a45 n45 c45, .slice a46 n46 c46, .slice a47 n47 c47] <|
  .store ⟨p2, 0, none⟩ [.int .u64 i27, .int .i64 i28, .int .i64 i29, .int .i64 i30, .int .u64 i31, .int .u64 i32, .slice a33 n33 c33, .slice a34 n34 c34, .int .u64 i35, .int .i64 i36, .int .i64 i37, .slice a38 n38 c38, .slice a39 n39 c39, .slice a40 n40 c40, .slice a41 n41 c41, .int .u64 i42, .slice a43 n43 c43] <|
  .hold [(⟨p23, 17, none⟩, [.slice a45 n45 c45, .slice a46 n46 c46, .slice a47 n47 c47])] <|
  .store ⟨p3, 0, none⟩ [.slice a45 n45 c45, .slice a46 n46 c46, .slice a47 n47 c47] <|
  .load ⟨p2, 0, none⟩ 17 fun v48 =>
  .exI fun i49 =>
  .exI fun i50 =>
  .exI fun i51 =>
  .exI fun i52 =>
  .exI fun i53 =>
  .exI fun i54 =>
  .exS fun a55 n55 c55 =>
  .exS fun a56 n56 c56 =>
  .exI fun i57 =>
  .exI fun i58 =>
  .exI fun i59 =>
  .exS fun a60 n60 c60 =>
  .exS fun a61 n61 c61 =>
  .exS fun a62 n62 c62 =>
  .exS fun a63 n63 c63 =>
  .exI fun i64 =>
  .exS fun a65 n65 c65 =>
  .isL v48 [.int .u64 i49, .int .i64 i50, .int .i64 i51, .int .i64 i52, .int .u64 i53, .int .u64 i54, .slice a55 n55 c55, .slice a56 n56 c56, .int .u64 i57, .int .i64 i58, .int .i64 i59, .slice a60 n60 c60, .slice a61 n61 c61, .slice a62 n62 c62, .slice a63 n63 c63, .int .u64 i64, .slice a65 n65 c65] <|
  .load ⟨p3, 0, none⟩ 3 fun v66 =>
  .exS fun a67 n67 c67 =>
  .exS fun a68 n68 c68 =>
  .exS fun a69 n69 c69 =>
  .isL v66 [.slice a67 n67 c67, .slice a68 n68 c68, .slice a69 n69 c69] <|
  .ret (.tuple #[.agg #[.int .u64 i49, .int .i64 i50, .int .i64 i51, .int .i64 i52, .int .u64 i53, .int .u64 i54, .slice a55 n55 c55, .slice a56 n56 c56, .int .u64 i57, .int .i64 i58, .int .i64 i59, .slice a60 n60 c60, .slice a61 n61 c61, .slice a62 n62 c62, .slice a63 n63 c63, .int .u64 i64, .slice a65 n65 c65], .agg #[.slice a67 n67 c67, .slice a68 n68 c68, .slice a69 n69 c69]]))
 else
 (.draw <|
 .load ⟨p23, 0, none⟩ 1 fun v70 =>
 .exI fun i71 =>
 .isL v70 [.int .u64 i71] <|
 .load ⟨p23, 2, none⟩ 1 fun v72 =>
 .exI fun i73 =>
 .isL v72 [.int .i64 i73] <|
 .store ⟨p23, 0, none⟩ [.int .u64 (IntKind.u64.wrap (i71 + 1))] <|
 .store ⟨p23, 1, none⟩ [.int .i64 i73] <|
 .call 77 ([.pointer (some ⟨p23, 0, none⟩), .int .i64 1, .int .i64 0]) fun v74 =>
 .isL [v74] [.tuple #[]] <|
 .loop 0 [.int .i64 1] (fun v75 =>
  .exI fun i76 =>
  .isL v75 [.int .i64 i76] <|
  .load ⟨p23, 3, none⟩ 1 fun v77 =>
  .exI fun i78 =>
  .isL v77 [.int .i64 i78] <|
  bif (decide (i76 ≤ i78)) then
   (.draw <|
   .load ⟨p23, 11, none⟩ 1 fun v79 =>
   .exS fun a80 n80 c80 =>
   .isL v79 [.slice a80 n80 c80] <|
   .load ⟨p23, 2, none⟩ 1 fun v81 =>
   .exI fun i82 =>
   .isL v81 [.int .i64 i82] <|
   .new 4 [.bool (i76 == i82)] fun p83 =>
   .append 4 1 1 [.bool false] a80 n80 c80 (some ⟨p83, 0, none⟩) 1 fun a84 n84 c84 =>
   .store ⟨p23, 11, none⟩ [.slice a84 n84 c84] <|
   .again 0 [.int .i64 (IntKind.i64.wrap (i76 + 1))])
  else
  (.call 78 ([.pointer (some ⟨p23, 0, none⟩)]) fun v85 =>
  .isL [v85] [.tuple #[]] <|
  .call 79 ([.pointer (some ⟨p23, 0, none⟩), .int .i64 1]) fun v86 =>
  .exB fun b87 =>
  .isL [v86] [.bool b87] <|
  bif b87 then
   (.call 80 ([.pointer (some ⟨p23, 0, none⟩)]) fun v88 =>
   .isL [v88] [.tuple #[]] <|
   .draw <|
   .load ⟨p23, 0, none⟩ 17 fun v89 =>
   .exI fun i90 =>
   .exI fun i91 =>
   .exI fun i92 =>
   .exI fun i93 =>
   .exI fun i94 =>
   .exI fun i95 =>
   .exS fun a96 n96 c96 =>
   .exS fun a97 n97 c97 =>
   .exI fun i98 =>
   .exI fun i99 =>
   .exI fun i100 =>
   .exS fun a101 n101 c101 =>
   .exS fun a102 n102 c102 =>
   .exS fun a103 n103 c103 =>
   .exS fun a104 n104 c104 =>
   .exI fun i105 =>
   .exS fun a106 n106 c106 =>
   .isL v89 [.int .u64 i90, .int .i64 i91, .int .i64 i92, .int .i64 i93, .int .u64 i94, .int .u64 i95, .slice a96 n96 c96, .slice a97 n97 c97, .int .u64 i98, .int .i64 i99, .int .i64 i100, .slice a101 n101 c101, .slice a102 n102 c102, .slice a103 n103 c103, .slice a104 n104 c104, .int .u64 i105, .slice a106 n106 c106] <|
   .load ⟨p23, 17, none⟩ 3 fun v107 =>
   .exS fun a108 n108 c108 =>
   .exS fun a109 n109 c109 =>
   .exS fun a110 n110 c110 =>
   .isL v107 [.slice a108 n108 c108, .slice a109 n109 c109, .slice a110 n110 c110] <|
   .store ⟨p2, 0, none⟩ [.int .u64 i90, .int .i64 i91, .int .i64 i92, .int .i64 i93, .int .u64 i94, .int .u64 i95, .slice a96 n96 c96, .slice a97 n97 c97, .int .u64 i98, .int .i64 i99, .int .i64 i100, .slice a101 n101 c101, .slice a102 n102 c102, .slice a103 n103 c103, .slice a104 n104 c104, .int .u64 i105, .slice a106 n106 c106] <|
   .hold [(⟨p23, 17, none⟩, [.slice a108 n108 c108, .slice a109 n109 c109, .slice a110 n110 c110])] <|
   .store ⟨p3, 0, none⟩ [.slice a108 n108 c108, .slice a109 n109 c109, .slice a110 n110 c110] <|
   .load ⟨p2, 0, none⟩ 17 fun v111 =>
   .exI fun i112 =>
   .exI fun i113 =>
   .exI fun i114 =>
   .exI fun i115 =>
   .exI fun i116 =>
   .exI fun i117 =>
   .exS fun a118 n118 c118 =>
   .exS fun a119 n119 c119 =>
   .exI fun i120 =>
   .exI fun i121 =>
   .exI fun i122 =>
   .exS fun a123 n123 c123 =>
   .exS fun a124 n124 c124 =>
   .exS fun a125 n125 c125 =>
   .exS fun a126 n126 c126 =>
   .exI fun i127 =>
   .exS fun a128 n128 c128 =>
   .isL v111 [.int .u64 i112, .int .i64 i113, .int .i64 i114, .int .i64 i115, .int .u64 i116, .int .u64 i117, .slice a118 n118 c118, .slice a119 n119 c119, .int .u64 i120, .int .i64 i121, .int .i64 i122, .slice a123 n123 c123, .slice a124 n124 c124, .slice a125 n125 c125, .slice a126 n126 c126, .int .u64 i127, .slice a128 n128 c128] <|
   .load ⟨p3, 0, none⟩ 3 fun v129 =>
   .exS fun a130 n130 c130 =>
   .exS fun a131 n131 c131 =>
   .exS fun a132 n132 c132 =>
   .isL v129 [.slice a130 n130 c130, .slice a131 n131 c131, .slice a132 n132 c132] <|
   .ret (.tuple #[.agg #[.int .u64 i112, .int .i64 i113, .int .i64 i114, .int .i64 i115, .int .u64 i116, .int .u64 i117, .slice a118 n118 c118, .slice a119 n119 c119, .int .u64 i120, .int .i64 i121, .int .i64 i122, .slice a123 n123 c123, .slice a124 n124 c124, .slice a125 n125 c125, .slice a126 n126 c126, .int .u64 i127, .slice a128 n128 c128], .agg #[.slice a130 n130 c130, .slice a131 n131 c131, .slice a132 n132 c132]]))
  else
  (.load ⟨p23, 0, none⟩ 17 fun v133 =>
  .exI fun i134 =>
  .exI fun i135 =>
  .exI fun i136 =>
  .exI fun i137 =>
  .exI fun i138 =>
  .exI fun i139 =>
  .exS fun a140 n140 c140 =>
  .exS fun a141 n141 c141 =>
  .exI fun i142 =>
  .exI fun i143 =>
  .exI fun i144 =>
  .exS fun a145 n145 c145 =>
  .exS fun a146 n146 c146 =>
  .exS fun a147 n147 c147 =>
  .exS fun a148 n148 c148 =>
  .exI fun i149 =>
  .exS fun a150 n150 c150 =>
  .isL v133 [.int .u64 i134, .int .i64 i135, .int .i64 i136, .int .i64 i137, .int .u64 i138, .int .u64 i139, .slice a140 n140 c140, .slice a141 n141 c141, .int .u64 i142, .int .i64 i143, .int .i64 i144, .slice a145 n145 c145, .slice a146 n146 c146, .slice a147 n147 c147, .slice a148 n148 c148, .int .u64 i149, .slice a150 n150 c150] <|
  .call 26 ([.agg #[.int .u64 i134, .int .i64 i135, .int .i64 i136, .int .i64 i137, .int .u64 i138, .int .u64 i139, .slice a140 n140 c140, .slice a141 n141 c141, .int .u64 i142, .int .i64 i143, .int .i64 i144, .slice a145 n145 c145, .slice a146 n146 c146, .slice a147 n147 c147, .slice a148 n148 c148, .int .u64 i149, .slice a150 n150 c150]]) fun v151 =>
  .exI fun i152 =>
  .exI fun i153 =>
  .isL [v151] [.tuple #[.int .u64 i152, .int .u64 i153]] <|
  .loop 0 [.int .i64 1] (fun v154 =>
   .exI fun i155 =>
   .isL v154 [.int .i64 i155] <|
   .load ⟨p23, 3, none⟩ 1 fun v156 =>
   .exI fun i157 =>
   .isL v156 [.int .i64 i157] <|
   bif (decide (i155 ≤ i157)) then
    (.load ⟨p23, 2, none⟩ 1 fun v158 =>
    .exI fun i159 =>
    .isL v158 [.int .i64 i159] <|
    bif (i155 != i159) then
     (.call 81 ([.pointer (some ⟨p23, 0, none⟩), .agg #[.int .i64 1, .int .i64 0, .int .i64 i155, .int .u64 0, .int .u64 i152, .int .u64 i153, .slice none 0 0, .int .u64 0, .int .u64 0, .bool false, .int .u64 0, .int .u64 0, .slice none 0 0, .int .i64 0, .int .i64 0, .int .u64 0, .string ({ data := #[] }), .string ({ data := #[] }), .int .u64 0, .int .i64 0, .string ({ data := #[] })]]) fun v160 =>
     .isL [v160] [.tuple #[]] <|
     .again 0 [.int .i64 (IntKind.i64.wrap (i155 + 1))])
    else
    (.again 0 [.int .i64 (IntKind.i64.wrap (i155 + 1))]))
   else
   (.draw <|
   .load ⟨p23, 0, none⟩ 17 fun v161 =>
   .exI fun i162 =>
   .exI fun i163 =>
   .exI fun i164 =>
   .exI fun i165 =>
   .exI fun i166 =>
   .exI fun i167 =>
   .exS fun a168 n168 c168 =>
   .exS fun a169 n169 c169 =>
   .exI fun i170 =>
   .exI fun i171 =>
   .exI fun i172 =>
   .exS fun a173 n173 c173 =>
   .exS fun a174 n174 c174 =>
   .exS fun a175 n175 c175 =>
   .exS fun a176 n176 c176 =>
   .exI fun i177 =>
   .exS fun a178 n178 c178 =>
   .isL v161 [.int .u64 i162, .int .i64 i163, .int .i64 i164, .int .i64 i165, .int .u64 i166, .int .u64 i167, .slice a168 n168 c168, .slice a169 n169 c169, .int .u64 i170, .int .i64 i171, .int .i64 i172, .slice a173 n173 c173, .slice a174 n174 c174, .slice a175 n175 c175, .slice a176 n176 c176, .int .u64 i177, .slice a178 n178 c178] <|
   .load ⟨p23, 17, none⟩ 3 fun v179 =>
   .exS fun a180 n180 c180 =>
   .exS fun a181 n181 c181 =>
   .exS fun a182 n182 c182 =>
   .isL v179 [.slice a180 n180 c180, .slice a181 n181 c181, .slice a182 n182 c182] <|
   .store ⟨p2, 0, none⟩ [.int .u64 i162, .int .i64 i163, .int .i64 i164, .int .i64 i165, .int .u64 i166, .int .u64 i167, .slice a168 n168 c168, .slice a169 n169 c169, .int .u64 i170, .int .i64 i171, .int .i64 i172, .slice a173 n173 c173, .slice a174 n174 c174, .slice a175 n175 c175, .slice a176 n176 c176, .int .u64 i177, .slice a178 n178 c178] <|
   .hold [(⟨p23, 17, none⟩, [.slice a180 n180 c180, .slice a181 n181 c181, .slice a182 n182 c182])] <|
   .store ⟨p3, 0, none⟩ [.slice a180 n180 c180, .slice a181 n181 c181, .slice a182 n182 c182] <|
   .load ⟨p2, 0, none⟩ 17 fun v183 =>
   .exI fun i184 =>
   .exI fun i185 =>
   .exI fun i186 =>
   .exI fun i187 =>
   .exI fun i188 =>
   .exI fun i189 =>
   .exS fun a190 n190 c190 =>
   .exS fun a191 n191 c191 =>
   .exI fun i192 =>
   .exI fun i193 =>
   .exI fun i194 =>
   .exS fun a195 n195 c195 =>
   .exS fun a196 n196 c196 =>
   .exS fun a197 n197 c197 =>
   .exS fun a198 n198 c198 =>
   .exI fun i199 =>
   .exS fun a200 n200 c200 =>
   .isL v183 [.int .u64 i184, .int .i64 i185, .int .i64 i186, .int .i64 i187, .int .u64 i188, .int .u64 i189, .slice a190 n190 c190, .slice a191 n191 c191, .int .u64 i192, .int .i64 i193, .int .i64 i194, .slice a195 n195 c195, .slice a196 n196 c196, .slice a197 n197 c197, .slice a198 n198 c198, .int .u64 i199, .slice a200 n200 c200] <|
   .load ⟨p3, 0, none⟩ 3 fun v201 =>
   .exS fun a202 n202 c202 =>
   .exS fun a203 n203 c203 =>
   .exS fun a204 n204 c204 =>
   .isL v201 [.slice a202 n202 c202, .slice a203 n203 c203, .slice a204 n204 c204] <|
   .ret (.tuple #[.agg #[.int .u64 i184, .int .i64 i185, .int .i64 i186, .int .i64 i187, .int .u64 i188, .int .u64 i189, .slice a190 n190 c190, .slice a191 n191 c191, .int .u64 i192, .int .i64 i193, .int .i64 i194, .slice a195 n195 c195, .slice a196 n196 c196, .slice a197 n197 c197, .slice a198 n198 c198, .int .u64 i199, .slice a200 n200 c200], .agg #[.slice a202 n202 c202, .slice a203 n203 c203, .slice a204 n204 c204]])))))))
theorem e39 (r0 : Int) (r1 : Int) (r2 : Int) (r3 : Int) (r4 : Int) (r5 : Int) (r6a : Option Addr) (r6n : Nat) (r6c : Nat) (r7a : Option Addr) (r7n : Nat) (r7c : Nat) (r8 : Int) (r9 : Int) (r10 : Int) (r11a : Option Addr) (r11n : Nat) (r11c : Nat) (r12a : Option Addr) (r12n : Nat) (r12c : Nat) (r13a : Option Addr) (r13n : Nat) (r13c : Nat) (r14a : Option Addr) (r14n : Nat) (r14c : Nat) (r15 : Int) (r16a : Option Addr) (r16n : Nat) (r16c : Nat) : genFn Try.prog lv39 noM Try.f39 [.agg #[.int .u64 r0, .int .i64 r1, .int .i64 r2, .int .i64 r3, .int .u64 r4, .int .u64 r5, .slice r6a r6n r6c, .slice r7a r7n r7c, .int .u64 r8, .int .i64 r9, .int .i64 r10, .slice r11a r11n r11c, .slice r12a r12n r12c, .slice r13a r13n r13c, .slice r14a r14n r14c, .int .u64 r15, .slice r16a r16n r16c]] = t39 r0 r1 r2 r3 r4 r5 r6a r6n r6c r7a r7n r7c r8 r9 r10 r11a r11n r11c r12a r12n r12c r13a r13n r13c r14a r14n r14c r15 r16a r16n r16c := by kernel_rfl
theorem r39 (r0 : Int) (r1 : Int) (r2 : Int) (r3 : Int) (r4 : Int) (r5 : Int) (r6a : Option Addr) (r6n : Nat) (r6c : Nat) (r7a : Option Addr) (r7n : Nat) (r7c : Nat) (r8 : Int) (r9 : Int) (r10 : Int) (r11a : Option Addr) (r11n : Nat) (r11c : Nat) (r12a : Option Addr) (r12n : Nat) (r12c : Nat) (r13a : Option Addr) (r13n : Nat) (r13c : Nat) (r14a : Option Addr) (r14n : Nat) (r14c : Nat) (r15 : Int) (r16a : Option Addr) (r16n : Nat) (r16c : Nat) {R : Value → World → Prop} {w : World} (h : (t39 r0 r1 r2 r3 r4 r5 r6a r6n r6c r7a r7n r7c r8 r9 r10 r11a r11n r11c r12a r12n r12c r13a r13n r13c r14a r14n r14c r15 r16a r16n r16c).wp Try.prog R (fun _ _ _ => False) w) : Runs Try.prog 39 [.agg #[.int .u64 r0, .int .i64 r1, .int .i64 r2, .int .i64 r3, .int .u64 r4, .int .u64 r5, .slice r6a r6n r6c, .slice r7a r7n r7c, .int .u64 r8, .int .i64 r9, .int .i64 r10, .slice r11a r11n r11c, .slice r12a r12n r12c, .slice r13a r13n r13c, .slice r14a r14n r14c, .int .u64 r15, .slice r16a r16n r16c]] w R :=
 genFn_runs mixed lv39 noM Try.func39 (by kernel_rfl) (by rw [e39]; exact h)
def t42 (r0 : Int) (r1 : Int) (r2 : Int) (r3 : Int) (r4 : Int) (r5 : Int) (r6a : Option Addr) (r6n : Nat) (r6c : Nat) (r7a : Option Addr) (r7n : Nat) (r7c : Nat) (r8 : Int) (r9 : Int) (r10 : Int) (r11a : Option Addr) (r11n : Nat) (r11c : Nat) (r12a : Option Addr) (r12n : Nat) (r12c : Nat) (r13a : Option Addr) (r13n : Nat) (r13c : Nat) (r14a : Option Addr) (r14n : Nat) (r14c : Nat) (r15 : Int) (r16a : Option Addr) (r16n : Nat) (r16c : Nat) (dataa : Option Addr) (datan : Nat) (datac : Nat) : VC :=
 .new 36 [.int .u64 r0, .int .i64 r1, .int .i64 r2, .int .i64 r3, .int .u64 r4, .int .u64 r5, .slice r6a r6n r6c, .slice r7a r7n r7c, .int .u64 r8, .int .i64 r9, .int .i64 r10, .slice r11a r11n r11c, .slice r12a r12n r12c, .slice r13a r13n r13c, .slice r14a r14n r14c, .int .u64 r15, .slice r16a r16n r16c] fun p1 =>
 .new 36 [.int .u64 0, .int .i64 0, .int .i64 0, .int .i64 0, .int .u64 0, .int .u64 0, .slice none 0 0, .slice none 0 0, .int .u64 0, .int .i64 0, .int .i64 0, .slice none 0 0, .slice none 0 0, .slice none 0 0, .slice none 0 0, .int .u64 0, .slice none 0 0] fun p2 =>
 .new 48 [.slice none 0 0, .slice none 0 0, .slice none 0 0] fun p3 =>
 .load ⟨p1, 9, none⟩ 1 fun v4 =>
 .exI fun i5 =>
 .isL v4 [.int .i64 i5] <|
 bif (i5 != 2) then
  (.store ⟨p2, 0, none⟩ [.int .u64 0, .int .i64 0, .int .i64 0, .int .i64 0, .int .u64 0, .int .u64 0, .slice none 0 0, .slice none 0 0, .int .u64 0, .int .i64 0, .int .i64 0, .slice none 0 0, .slice none 0 0, .slice none 0 0, .slice none 0 0, .int .u64 0, .slice none 0 0] <|
  .store ⟨p3, 0, none⟩ [.slice none 0 0, .slice none 0 0, .slice none 0 0] <|
  .load ⟨p2, 0, none⟩ 17 fun v6 =>
  .exI fun i7 =>
  .exI fun i8 =>
  .exI fun i9 =>
  .exI fun i10 =>
  .exI fun i11 =>
  .exI fun i12 =>
  .exS fun a13 n13 c13 =>
  .exS fun a14 n14 c14 =>
  .exI fun i15 =>
  .exI fun i16 =>
  .exI fun i17 =>
  .exS fun a18 n18 c18 =>
  .exS fun a19 n19 c19 =>
  .exS fun a20 n20 c20 =>
  .exS fun a21 n21 c21 =>
  .exI fun i22 =>
  .exS fun a23 n23 c23 =>
  .isL v6 [.int .u64 i7, .int .i64 i8, .int .i64 i9, .int .i64 i10, .int .u64 i11, .int .u64 i12, .slice a13 n13 c13, .slice a14 n14 c14, .int .u64 i15, .int .i64 i16, .int .i64 i17, .slice a18 n18 c18, .slice a19 n19 c19, .slice a20 n20 c20, .slice a21 n21 c21, .int .u64 i22, .slice a23 n23 c23] <|
  .load ⟨p3, 0, none⟩ 3 fun v24 =>
  .exS fun a25 n25 c25 =>
  .exS fun a26 n26 c26 =>
  .exS fun a27 n27 c27 =>
  .isL v24 [.slice a25 n25 c25, .slice a26 n26 c26, .slice a27 n27 c27] <|
  .ret (.tuple #[.agg #[.int .u64 i7, .int .i64 i8, .int .i64 i9, .int .i64 i10, .int .u64 i11, .int .u64 i12, .slice a13 n13 c13, .slice a14 n14 c14, .int .u64 i15, .int .i64 i16, .int .i64 i17, .slice a18 n18 c18, .slice a19 n19 c19, .slice a20 n20 c20, .slice a21 n21 c21, .int .u64 i22, .slice a23 n23 c23], .agg #[.slice a25 n25 c25, .slice a26 n26 c26, .slice a27 n27 c27], .bool false]))
 else
 (.load ⟨p1, 0, none⟩ 17 fun v28 =>
 .exI fun i29 =>
 .exI fun i30 =>
 .exI fun i31 =>
 .exI fun i32 =>
 .exI fun i33 =>
 .exI fun i34 =>
 .exS fun a35 n35 c35 =>
 .exS fun a36 n36 c36 =>
 .exI fun i37 =>
 .exI fun i38 =>
 .exI fun i39 =>
 .exS fun a40 n40 c40 =>
 .exS fun a41 n41 c41 =>
 .exS fun a42 n42 c42 =>
 .exS fun a43 n43 c43 =>
 .exI fun i44 =>
 .exS fun a45 n45 c45 =>
 .isL v28 [.int .u64 i29, .int .i64 i30, .int .i64 i31, .int .i64 i32, .int .u64 i33, .int .u64 i34, .slice a35 n35 c35, .slice a36 n36 c36, .int .u64 i37, .int .i64 i38, .int .i64 i39, .slice a40 n40 c40, .slice a41 n41 c41, .slice a42 n42 c42, .slice a43 n43 c43, .int .u64 i44, .slice a45 n45 c45] <|
 .call 69 ([.agg #[.int .u64 i29, .int .i64 i30, .int .i64 i31, .int .i64 i32, .int .u64 i33, .int .u64 i34, .slice a35 n35 c35, .slice a36 n36 c36, .int .u64 i37, .int .i64 i38, .int .i64 i39, .slice a40 n40 c40, .slice a41 n41 c41, .slice a42 n42 c42, .slice a43 n43 c43, .int .u64 i44, .slice a45 n45 c45]]) fun v46 =>
 .exN fun p47 =>
 .isL [v46] [.pointer (some ⟨p47, 0, none⟩)] <|
 .draw <|
 .load ⟨p1, 0, none⟩ 1 fun v48 =>
 .exI fun i49 =>
 .isL v48 [.int .u64 i49] <|
 .new 5 [] fun p50 =>
 .append 5 1 1 [.int .u8 0] (some ⟨p50, 0, none⟩) 0 0 dataa datan fun a51 n51 c51 =>
 .hold [(⟨p1, 0, none⟩, [.int .u64 i49])] <|
 .call 84 ([.pointer (some ⟨p47, 0, none⟩), .agg #[.int .u64 i49, .slice a51 n51 c51]]) fun v52 =>
 .isL [v52] [.tuple #[]] <|
 .call 85 ([.pointer (some ⟨p47, 0, none⟩)]) fun v53 =>
 .isL [v53] [.tuple #[]] <|
 .call 70 ([.pointer (some ⟨p47, 0, none⟩)]) fun v54 =>
 .isL [v54] [.tuple #[]] <|
 .draw <|
 .load ⟨p47, 0, none⟩ 17 fun v55 =>
 .exI fun i56 =>
 .exI fun i57 =>
 .exI fun i58 =>
 .exI fun i59 =>
 .exI fun i60 =>
 .exI fun i61 =>
 .exS fun a62 n62 c62 =>
 .exS fun a63 n63 c63 =>
 .exI fun i64 =>
 .exI fun i65 =>
 .exI fun i66 =>
 .exS fun a67 n67 c67 =>
 .exS fun a68 n68 c68 =>
 .exS fun a69 n69 c69 =>
 .exS fun a70 n70 c70 =>
 .exI fun i71 =>
 .exS fun a72 n72 c72 =>
 .isL v55 [.int .u64 i56, .int .i64 i57, .int .i64 i58, .int .i64 i59, .int .u64 i60, .int .u64 i61, .slice a62 n62 c62, .slice a63 n63 c63, .int .u64 i64, .int .i64 i65, .int .i64 i66, .slice a67 n67 c67, .slice a68 n68 c68, .slice a69 n69 c69, .slice a70 n70 c70, .int .u64 i71, .slice a72 n72 c72] <|
 .load ⟨p47, 17, none⟩ 3 fun v73 =>
 .exS fun a74 n74 c74 =>
 .exS fun a75 n75 c75 =>
 .exS fun a76 n76 c76 =>
 .isL v73 [.slice a74 n74 c74, .slice a75 n75 c75, .slice a76 n76 c76] <|
 .store ⟨p2, 0, none⟩ [.int .u64 i56, .int .i64 i57, .int .i64 i58, .int .i64 i59, .int .u64 i60, .int .u64 i61, .slice a62 n62 c62, .slice a63 n63 c63, .int .u64 i64, .int .i64 i65, .int .i64 i66, .slice a67 n67 c67, .slice a68 n68 c68, .slice a69 n69 c69, .slice a70 n70 c70, .int .u64 i71, .slice a72 n72 c72] <|
 .hold [(⟨p47, 17, none⟩, [.slice a74 n74 c74, .slice a75 n75 c75, .slice a76 n76 c76])] <|
 .store ⟨p3, 0, none⟩ [.slice a74 n74 c74, .slice a75 n75 c75, .slice a76 n76 c76] <|
 .load ⟨p2, 0, none⟩ 17 fun v77 =>
 .exI fun i78 =>
 .exI fun i79 =>
 .exI fun i80 =>
 .exI fun i81 =>
 .exI fun i82 =>
 .exI fun i83 =>
 .exS fun a84 n84 c84 =>
 .exS fun a85 n85 c85 =>
 .exI fun i86 =>
 .exI fun i87 =>
 .exI fun i88 =>
 .exS fun a89 n89 c89 =>
 .exS fun a90 n90 c90 =>
 .exS fun a91 n91 c91 =>
 .exS fun a92 n92 c92 =>
 .exI fun i93 =>
 .exS fun a94 n94 c94 =>
 .isL v77 [.int .u64 i78, .int .i64 i79, .int .i64 i80, .int .i64 i81, .int .u64 i82, .int .u64 i83, .slice a84 n84 c84, .slice a85 n85 c85, .int .u64 i86, .int .i64 i87, .int .i64 i88, .slice a89 n89 c89, .slice a90 n90 c90, .slice a91 n91 c91, .slice a92 n92 c92, .int .u64 i93, .slice a94 n94 c94] <|
 .load ⟨p3, 0, none⟩ 3 fun v95 =>
 .exS fun a96 n96 c96 =>
 .exS fun a97 n97 c97 =>
 .exS fun a98 n98 c98 =>
 .isL v95 [.slice a96 n96 c96, .slice a97 n97 c97, .slice a98 n98 c98] <|
 .ret (.tuple #[.agg #[.int .u64 i78, .int .i64 i79, .int .i64 i80, .int .i64 i81, .int .u64 i82, .int .u64 i83, .slice a84 n84 c84, .slice a85 n85 c85, .int .u64 i86, .int .i64 i87, .int .i64 i88, .slice a89 n89 c89, .slice a90 n90 c90, .slice a91 n91 c91, .slice a92 n92 c92, .int .u64 i93, .slice a94 n94 c94], .agg #[.slice a96 n96 c96, .slice a97 n97 c97, .slice a98 n98 c98], .bool true]))
theorem e42 (r0 : Int) (r1 : Int) (r2 : Int) (r3 : Int) (r4 : Int) (r5 : Int) (r6a : Option Addr) (r6n : Nat) (r6c : Nat) (r7a : Option Addr) (r7n : Nat) (r7c : Nat) (r8 : Int) (r9 : Int) (r10 : Int) (r11a : Option Addr) (r11n : Nat) (r11c : Nat) (r12a : Option Addr) (r12n : Nat) (r12c : Nat) (r13a : Option Addr) (r13n : Nat) (r13c : Nat) (r14a : Option Addr) (r14n : Nat) (r14c : Nat) (r15 : Int) (r16a : Option Addr) (r16n : Nat) (r16c : Nat) (dataa : Option Addr) (datan : Nat) (datac : Nat) : genFn Try.prog noM noM Try.f42 [.agg #[.int .u64 r0, .int .i64 r1, .int .i64 r2, .int .i64 r3, .int .u64 r4, .int .u64 r5, .slice r6a r6n r6c, .slice r7a r7n r7c, .int .u64 r8, .int .i64 r9, .int .i64 r10, .slice r11a r11n r11c, .slice r12a r12n r12c, .slice r13a r13n r13c, .slice r14a r14n r14c, .int .u64 r15, .slice r16a r16n r16c], .slice dataa datan datac] = t42 r0 r1 r2 r3 r4 r5 r6a r6n r6c r7a r7n r7c r8 r9 r10 r11a r11n r11c r12a r12n r12c r13a r13n r13c r14a r14n r14c r15 r16a r16n r16c dataa datan datac := by kernel_rfl
theorem r42 (r0 : Int) (r1 : Int) (r2 : Int) (r3 : Int) (r4 : Int) (r5 : Int) (r6a : Option Addr) (r6n : Nat) (r6c : Nat) (r7a : Option Addr) (r7n : Nat) (r7c : Nat) (r8 : Int) (r9 : Int) (r10 : Int) (r11a : Option Addr) (r11n : Nat) (r11c : Nat) (r12a : Option Addr) (r12n : Nat) (r12c : Nat) (r13a : Option Addr) (r13n : Nat) (r13c : Nat) (r14a : Option Addr) (r14n : Nat) (r14c : Nat) (r15 : Int) (r16a : Option Addr) (r16n : Nat) (r16c : Nat) (dataa : Option Addr) (datan : Nat) (datac : Nat) {R : Value → World → Prop} {w : World} (h : (t42 r0 r1 r2 r3 r4 r5 r6a r6n r6c r7a r7n r7c r8 r9 r10 r11a r11n r11c r12a r12n r12c r13a r13n r13c r14a r14n r14c r15 r16a r16n r16c dataa datan datac).wp Try.prog R (fun _ _ _ => False) w) : Runs Try.prog 42 [.agg #[.int .u64 r0, .int .i64 r1, .int .i64 r2, .int .i64 r3, .int .u64 r4, .int .u64 r5, .slice r6a r6n r6c, .slice r7a r7n r7c, .int .u64 r8, .int .i64 r9, .int .i64 r10, .slice r11a r11n r11c, .slice r12a r12n r12c, .slice r13a r13n r13c, .slice r14a r14n r14c, .int .u64 r15, .slice r16a r16n r16c], .slice dataa datan datac] w R :=
 genFn_runs mixed noM noM Try.func42 (by kernel_rfl) (by rw [e42]; exact h)
def t43 (r0 : Int) (r1 : Int) (r2 : Int) (r3 : Int) (r4 : Int) (r5 : Int) (r6a : Option Addr) (r6n : Nat) (r6c : Nat) (r7a : Option Addr) (r7n : Nat) (r7c : Nat) (r8 : Int) (r9 : Int) (r10 : Int) (r11a : Option Addr) (r11n : Nat) (r11c : Nat) (r12a : Option Addr) (r12n : Nat) (r12c : Nat) (r13a : Option Addr) (r13n : Nat) (r13c : Nat) (r14a : Option Addr) (r14n : Nat) (r14c : Nat) (r15 : Int) (r16a : Option Addr) (r16n : Nat) (r16c : Nat) (id : Int) : VC :=
 .new 36 [.int .u64 r0, .int .i64 r1, .int .i64 r2, .int .i64 r3, .int .u64 r4, .int .u64 r5, .slice r6a r6n r6c, .slice r7a r7n r7c, .int .u64 r8, .int .i64 r9, .int .i64 r10, .slice r11a r11n r11c, .slice r12a r12n r12c, .slice r13a r13n r13c, .slice r14a r14n r14c, .int .u64 r15, .slice r16a r16n r16c] fun p1 =>
 .new 36 [.int .u64 0, .int .i64 0, .int .i64 0, .int .i64 0, .int .u64 0, .int .u64 0, .slice none 0 0, .slice none 0 0, .int .u64 0, .int .i64 0, .int .i64 0, .slice none 0 0, .slice none 0 0, .slice none 0 0, .slice none 0 0, .int .u64 0, .slice none 0 0] fun p2 =>
 .new 48 [.slice none 0 0, .slice none 0 0, .slice none 0 0] fun p3 =>
 .load ⟨p1, 0, none⟩ 17 fun v4 =>
 .exI fun i5 =>
 .exI fun i6 =>
 .exI fun i7 =>
 .exI fun i8 =>
 .exI fun i9 =>
 .exI fun i10 =>
 .exS fun a11 n11 c11 =>
 .exS fun a12 n12 c12 =>
 .exI fun i13 =>
 .exI fun i14 =>
 .exI fun i15 =>
 .exS fun a16 n16 c16 =>
 .exS fun a17 n17 c17 =>
 .exS fun a18 n18 c18 =>
 .exS fun a19 n19 c19 =>
 .exI fun i20 =>
 .exS fun a21 n21 c21 =>
 .isL v4 [.int .u64 i5, .int .i64 i6, .int .i64 i7, .int .i64 i8, .int .u64 i9, .int .u64 i10, .slice a11 n11 c11, .slice a12 n12 c12, .int .u64 i13, .int .i64 i14, .int .i64 i15, .slice a16 n16 c16, .slice a17 n17 c17, .slice a18 n18 c18, .slice a19 n19 c19, .int .u64 i20, .slice a21 n21 c21] <|
 .load ⟨p1, 8, none⟩ 1 fun v22 =>
 .exI fun i23 =>
 .isL v22 [.int .u64 i23] <|
 .call 28 ([.agg #[.int .u64 i5, .int .i64 i6, .int .i64 i7, .int .i64 i8, .int .u64 i9, .int .u64 i10, .slice a11 n11 c11, .slice a12 n12 c12, .int .u64 i13, .int .i64 i14, .int .i64 i15, .slice a16 n16 c16, .slice a17 n17 c17, .slice a18 n18 c18, .slice a19 n19 c19, .int .u64 i20, .slice a21 n21 c21], .int .u64 i23]) fun v24 =>
 .exI fun i25 =>
 .exB fun b26 =>
 .isL [v24] [.tuple #[.int .u64 i25, .bool b26]] <|
 .load ⟨p1, 9, none⟩ 1 fun v27 =>
 .exI fun i28 =>
 .isL v27 [.int .i64 i28] <|
 bif (i28 != 2) then
  (.store ⟨p2, 0, none⟩ [.int .u64 0, .int .i64 0, .int .i64 0, .int .i64 0, .int .u64 0, .int .u64 0, .slice none 0 0, .slice none 0 0, .int .u64 0, .int .i64 0, .int .i64 0, .slice none 0 0, .slice none 0 0, .slice none 0 0, .slice none 0 0, .int .u64 0, .slice none 0 0] <|
  .store ⟨p3, 0, none⟩ [.slice none 0 0, .slice none 0 0, .slice none 0 0] <|
  .load ⟨p2, 0, none⟩ 17 fun v29 =>
  .exI fun i30 =>
  .exI fun i31 =>
  .exI fun i32 =>
  .exI fun i33 =>
  .exI fun i34 =>
  .exI fun i35 =>
  .exS fun a36 n36 c36 =>
  .exS fun a37 n37 c37 =>
  .exI fun i38 =>
  .exI fun i39 =>
  .exI fun i40 =>
  .exS fun a41 n41 c41 =>
  .exS fun a42 n42 c42 =>
  .exS fun a43 n43 c43 =>
  .exS fun a44 n44 c44 =>
  .exI fun i45 =>
  .exS fun a46 n46 c46 =>
  .isL v29 [.int .u64 i30, .int .i64 i31, .int .i64 i32, .int .i64 i33, .int .u64 i34, .int .u64 i35, .slice a36 n36 c36, .slice a37 n37 c37, .int .u64 i38, .int .i64 i39, .int .i64 i40, .slice a41 n41 c41, .slice a42 n42 c42, .slice a43 n43 c43, .slice a44 n44 c44, .int .u64 i45, .slice a46 n46 c46] <|
  .load ⟨p3, 0, none⟩ 3 fun v47 =>
  .exS fun a48 n48 c48 =>
  .exS fun a49 n49 c49 =>
  .exS fun a50 n50 c50 =>
  .isL v47 [.slice a48 n48 c48, .slice a49 n49 c49, .slice a50 n50 c50] <|
  .ret (.tuple #[.agg #[.int .u64 i30, .int .i64 i31, .int .i64 i32, .int .i64 i33, .int .u64 i34, .int .u64 i35, .slice a36 n36 c36, .slice a37 n37 c37, .int .u64 i38, .int .i64 i39, .int .i64 i40, .slice a41 n41 c41, .slice a42 n42 c42, .slice a43 n43 c43, .slice a44 n44 c44, .int .u64 i45, .slice a46 n46 c46], .agg #[.slice a48 n48 c48, .slice a49 n49 c49, .slice a50 n50 c50], .bool false]))
 else
 (bif !b26 then
  (.store ⟨p2, 0, none⟩ [.int .u64 0, .int .i64 0, .int .i64 0, .int .i64 0, .int .u64 0, .int .u64 0, .slice none 0 0, .slice none 0 0, .int .u64 0, .int .i64 0, .int .i64 0, .slice none 0 0, .slice none 0 0, .slice none 0 0, .slice none 0 0, .int .u64 0, .slice none 0 0] <|
  .store ⟨p3, 0, none⟩ [.slice none 0 0, .slice none 0 0, .slice none 0 0] <|
  .load ⟨p2, 0, none⟩ 17 fun v51 =>
  .exI fun i52 =>
  .exI fun i53 =>
  .exI fun i54 =>
  .exI fun i55 =>
  .exI fun i56 =>
  .exI fun i57 =>
  .exS fun a58 n58 c58 =>
  .exS fun a59 n59 c59 =>
  .exI fun i60 =>
  .exI fun i61 =>
  .exI fun i62 =>
  .exS fun a63 n63 c63 =>
  .exS fun a64 n64 c64 =>
  .exS fun a65 n65 c65 =>
  .exS fun a66 n66 c66 =>
  .exI fun i67 =>
  .exS fun a68 n68 c68 =>
  .isL v51 [.int .u64 i52, .int .i64 i53, .int .i64 i54, .int .i64 i55, .int .u64 i56, .int .u64 i57, .slice a58 n58 c58, .slice a59 n59 c59, .int .u64 i60, .int .i64 i61, .int .i64 i62, .slice a63 n63 c63, .slice a64 n64 c64, .slice a65 n65 c65, .slice a66 n66 c66, .int .u64 i67, .slice a68 n68 c68] <|
  .load ⟨p3, 0, none⟩ 3 fun v69 =>
  .exS fun a70 n70 c70 =>
  .exS fun a71 n71 c71 =>
  .exS fun a72 n72 c72 =>
  .isL v69 [.slice a70 n70 c70, .slice a71 n71 c71, .slice a72 n72 c72] <|
  .ret (.tuple #[.agg #[.int .u64 i52, .int .i64 i53, .int .i64 i54, .int .i64 i55, .int .u64 i56, .int .u64 i57, .slice a58 n58 c58, .slice a59 n59 c59, .int .u64 i60, .int .i64 i61, .int .i64 i62, .slice a63 n63 c63, .slice a64 n64 c64, .slice a65 n65 c65, .slice a66 n66 c66, .int .u64 i67, .slice a68 n68 c68], .agg #[.slice a70 n70 c70, .slice a71 n71 c71, .slice a72 n72 c72], .bool false]))
 else
 (.load ⟨p1, 0, none⟩ 1 fun v73 =>
 .exI fun i74 =>
 .isL v73 [.int .u64 i74] <|
 bif (i25 != i74) then
  (.store ⟨p2, 0, none⟩ [.int .u64 0, .int .i64 0, .int .i64 0, .int .i64 0, .int .u64 0, .int .u64 0, .slice none 0 0, .slice none 0 0, .int .u64 0, .int .i64 0, .int .i64 0, .slice none 0 0, .slice none 0 0, .slice none 0 0, .slice none 0 0, .int .u64 0, .slice none 0 0] <|
  .store ⟨p3, 0, none⟩ [.slice none 0 0, .slice none 0 0, .slice none 0 0] <|
  .load ⟨p2, 0, none⟩ 17 fun v75 =>
  .exI fun i76 =>
  .exI fun i77 =>
  .exI fun i78 =>
  .exI fun i79 =>
  .exI fun i80 =>
  .exI fun i81 =>
  .exS fun a82 n82 c82 =>
  .exS fun a83 n83 c83 =>
  .exI fun i84 =>
  .exI fun i85 =>
  .exI fun i86 =>
  .exS fun a87 n87 c87 =>
  .exS fun a88 n88 c88 =>
  .exS fun a89 n89 c89 =>
  .exS fun a90 n90 c90 =>
  .exI fun i91 =>
  .exS fun a92 n92 c92 =>
  .isL v75 [.int .u64 i76, .int .i64 i77, .int .i64 i78, .int .i64 i79, .int .u64 i80, .int .u64 i81, .slice a82 n82 c82, .slice a83 n83 c83, .int .u64 i84, .int .i64 i85, .int .i64 i86, .slice a87 n87 c87, .slice a88 n88 c88, .slice a89 n89 c89, .slice a90 n90 c90, .int .u64 i91, .slice a92 n92 c92] <|
  .load ⟨p3, 0, none⟩ 3 fun v93 =>
  .exS fun a94 n94 c94 =>
  .exS fun a95 n95 c95 =>
  .exS fun a96 n96 c96 =>
  .isL v93 [.slice a94 n94 c94, .slice a95 n95 c95, .slice a96 n96 c96] <|
  .ret (.tuple #[.agg #[.int .u64 i76, .int .i64 i77, .int .i64 i78, .int .i64 i79, .int .u64 i80, .int .u64 i81, .slice a82 n82 c82, .slice a83 n83 c83, .int .u64 i84, .int .i64 i85, .int .i64 i86, .slice a87 n87 c87, .slice a88 n88 c88, .slice a89 n89 c89, .slice a90 n90 c90, .int .u64 i91, .slice a92 n92 c92], .agg #[.slice a94 n94 c94, .slice a95 n95 c95, .slice a96 n96 c96], .bool false]))
 else
 (.load ⟨p1, 0, none⟩ 17 fun v97 =>
 .exI fun i98 =>
 .exI fun i99 =>
 .exI fun i100 =>
 .exI fun i101 =>
 .exI fun i102 =>
 .exI fun i103 =>
 .exS fun a104 n104 c104 =>
 .exS fun a105 n105 c105 =>
 .exI fun i106 =>
 .exI fun i107 =>
 .exI fun i108 =>
 .exS fun a109 n109 c109 =>
 .exS fun a110 n110 c110 =>
 .exS fun a111 n111 c111 =>
 .exS fun a112 n112 c112 =>
 .exI fun i113 =>
 .exS fun a114 n114 c114 =>
 .isL v97 [.int .u64 i98, .int .i64 i99, .int .i64 i100, .int .i64 i101, .int .u64 i102, .int .u64 i103, .slice a104 n104 c104, .slice a105 n105 c105, .int .u64 i106, .int .i64 i107, .int .i64 i108, .slice a109 n109 c109, .slice a110 n110 c110, .slice a111 n111 c111, .slice a112 n112 c112, .int .u64 i113, .slice a114 n114 c114] <|
 .call 69 ([.agg #[.int .u64 i98, .int .i64 i99, .int .i64 i100, .int .i64 i101, .int .u64 i102, .int .u64 i103, .slice a104 n104 c104, .slice a105 n105 c105, .int .u64 i106, .int .i64 i107, .int .i64 i108, .slice a109 n109 c109, .slice a110 n110 c110, .slice a111 n111 c111, .slice a112 n112 c112, .int .u64 i113, .slice a114 n114 c114]]) fun v115 =>
 .exN fun p116 =>
 .isL [v115] [.pointer (some ⟨p116, 0, none⟩)] <|
 .draw <|
 .load ⟨p116, 16, none⟩ 1 fun v117 =>
 .exS fun a118 n118 c118 =>
 .isL v117 [.slice a118 n118 c118] <|
 .load ⟨p1, 8, none⟩ 1 fun v119 =>
 .exI fun i120 =>
 .isL v119 [.int .u64 i120] <|
 .load ⟨p1, 15, none⟩ 1 fun v121 =>
 .exI fun i122 =>
 .isL v121 [.int .u64 i122] <|
 .new 62 [.int .u64 id, .int .u64 i120, .int .u64 (IntKind.u64.wrap (i122 + 1))] fun p123 =>
 .append 62 3 24 [.int .u64 0, .int .u64 0, .int .u64 0] a118 n118 c118 (some ⟨p123, 0, none⟩) 1 fun a124 n124 c124 =>
 .store ⟨p116, 16, none⟩ [.slice a124 n124 c124] <|
 .call 70 ([.pointer (some ⟨p116, 0, none⟩)]) fun v125 =>
 .isL [v125] [.tuple #[]] <|
 .draw <|
 .load ⟨p116, 0, none⟩ 17 fun v126 =>
 .exI fun i127 =>
 .exI fun i128 =>
 .exI fun i129 =>
 .exI fun i130 =>
 .exI fun i131 =>
 .exI fun i132 =>
 .exS fun a133 n133 c133 =>
 .exS fun a134 n134 c134 =>
 .exI fun i135 =>
 .exI fun i136 =>
 .exI fun i137 =>
 .exS fun a138 n138 c138 =>
 .exS fun a139 n139 c139 =>
 .exS fun a140 n140 c140 =>
 .exS fun a141 n141 c141 =>
 .exI fun i142 =>
 .exS fun a143 n143 c143 =>
 .isL v126 [.int .u64 i127, .int .i64 i128, .int .i64 i129, .int .i64 i130, .int .u64 i131, .int .u64 i132, .slice a133 n133 c133, .slice a134 n134 c134, .int .u64 i135, .int .i64 i136, .int .i64 i137, .slice a138 n138 c138, .slice a139 n139 c139, .slice a140 n140 c140, .slice a141 n141 c141, .int .u64 i142, .slice a143 n143 c143] <|
 .load ⟨p116, 17, none⟩ 3 fun v144 =>
 .exS fun a145 n145 c145 =>
 .exS fun a146 n146 c146 =>
 .exS fun a147 n147 c147 =>
 .isL v144 [.slice a145 n145 c145, .slice a146 n146 c146, .slice a147 n147 c147] <|
 .store ⟨p2, 0, none⟩ [.int .u64 i127, .int .i64 i128, .int .i64 i129, .int .i64 i130, .int .u64 i131, .int .u64 i132, .slice a133 n133 c133, .slice a134 n134 c134, .int .u64 i135, .int .i64 i136, .int .i64 i137, .slice a138 n138 c138, .slice a139 n139 c139, .slice a140 n140 c140, .slice a141 n141 c141, .int .u64 i142, .slice a143 n143 c143] <|
 .hold [(⟨p116, 17, none⟩, [.slice a145 n145 c145, .slice a146 n146 c146, .slice a147 n147 c147])] <|
 .store ⟨p3, 0, none⟩ [.slice a145 n145 c145, .slice a146 n146 c146, .slice a147 n147 c147] <|
 .load ⟨p2, 0, none⟩ 17 fun v148 =>
 .exI fun i149 =>
 .exI fun i150 =>
 .exI fun i151 =>
 .exI fun i152 =>
 .exI fun i153 =>
 .exI fun i154 =>
 .exS fun a155 n155 c155 =>
 .exS fun a156 n156 c156 =>
 .exI fun i157 =>
 .exI fun i158 =>
 .exI fun i159 =>
 .exS fun a160 n160 c160 =>
 .exS fun a161 n161 c161 =>
 .exS fun a162 n162 c162 =>
 .exS fun a163 n163 c163 =>
 .exI fun i164 =>
 .exS fun a165 n165 c165 =>
 .isL v148 [.int .u64 i149, .int .i64 i150, .int .i64 i151, .int .i64 i152, .int .u64 i153, .int .u64 i154, .slice a155 n155 c155, .slice a156 n156 c156, .int .u64 i157, .int .i64 i158, .int .i64 i159, .slice a160 n160 c160, .slice a161 n161 c161, .slice a162 n162 c162, .slice a163 n163 c163, .int .u64 i164, .slice a165 n165 c165] <|
 .load ⟨p3, 0, none⟩ 3 fun v166 =>
 .exS fun a167 n167 c167 =>
 .exS fun a168 n168 c168 =>
 .exS fun a169 n169 c169 =>
 .isL v166 [.slice a167 n167 c167, .slice a168 n168 c168, .slice a169 n169 c169] <|
 .ret (.tuple #[.agg #[.int .u64 i149, .int .i64 i150, .int .i64 i151, .int .i64 i152, .int .u64 i153, .int .u64 i154, .slice a155 n155 c155, .slice a156 n156 c156, .int .u64 i157, .int .i64 i158, .int .i64 i159, .slice a160 n160 c160, .slice a161 n161 c161, .slice a162 n162 c162, .slice a163 n163 c163, .int .u64 i164, .slice a165 n165 c165], .agg #[.slice a167 n167 c167, .slice a168 n168 c168, .slice a169 n169 c169], .bool true]))))
theorem e43 (r0 : Int) (r1 : Int) (r2 : Int) (r3 : Int) (r4 : Int) (r5 : Int) (r6a : Option Addr) (r6n : Nat) (r6c : Nat) (r7a : Option Addr) (r7n : Nat) (r7c : Nat) (r8 : Int) (r9 : Int) (r10 : Int) (r11a : Option Addr) (r11n : Nat) (r11c : Nat) (r12a : Option Addr) (r12n : Nat) (r12c : Nat) (r13a : Option Addr) (r13n : Nat) (r13c : Nat) (r14a : Option Addr) (r14n : Nat) (r14c : Nat) (r15 : Int) (r16a : Option Addr) (r16n : Nat) (r16c : Nat) (id : Int) : genFn Try.prog noM noM Try.f43 [.agg #[.int .u64 r0, .int .i64 r1, .int .i64 r2, .int .i64 r3, .int .u64 r4, .int .u64 r5, .slice r6a r6n r6c, .slice r7a r7n r7c, .int .u64 r8, .int .i64 r9, .int .i64 r10, .slice r11a r11n r11c, .slice r12a r12n r12c, .slice r13a r13n r13c, .slice r14a r14n r14c, .int .u64 r15, .slice r16a r16n r16c], .int .u64 id] = t43 r0 r1 r2 r3 r4 r5 r6a r6n r6c r7a r7n r7c r8 r9 r10 r11a r11n r11c r12a r12n r12c r13a r13n r13c r14a r14n r14c r15 r16a r16n r16c id := by kernel_rfl
theorem r43 (r0 : Int) (r1 : Int) (r2 : Int) (r3 : Int) (r4 : Int) (r5 : Int) (r6a : Option Addr) (r6n : Nat) (r6c : Nat) (r7a : Option Addr) (r7n : Nat) (r7c : Nat) (r8 : Int) (r9 : Int) (r10 : Int) (r11a : Option Addr) (r11n : Nat) (r11c : Nat) (r12a : Option Addr) (r12n : Nat) (r12c : Nat) (r13a : Option Addr) (r13n : Nat) (r13c : Nat) (r14a : Option Addr) (r14n : Nat) (r14c : Nat) (r15 : Int) (r16a : Option Addr) (r16n : Nat) (r16c : Nat) (id : Int) {R : Value → World → Prop} {w : World} (h : (t43 r0 r1 r2 r3 r4 r5 r6a r6n r6c r7a r7n r7c r8 r9 r10 r11a r11n r11c r12a r12n r12c r13a r13n r13c r14a r14n r14c r15 r16a r16n r16c id).wp Try.prog R (fun _ _ _ => False) w) : Runs Try.prog 43 [.agg #[.int .u64 r0, .int .i64 r1, .int .i64 r2, .int .i64 r3, .int .u64 r4, .int .u64 r5, .slice r6a r6n r6c, .slice r7a r7n r7c, .int .u64 r8, .int .i64 r9, .int .i64 r10, .slice r11a r11n r11c, .slice r12a r12n r12c, .slice r13a r13n r13c, .slice r14a r14n r14c, .int .u64 r15, .slice r16a r16n r16c], .int .u64 id] w R :=
 genFn_runs mixed noM noM Try.func43 (by kernel_rfl) (by rw [e43]; exact h)
def ct44 : Marks := (fun | some 6 => some [(9, .pointer none)] | _ => none)
def t44 (r0 : Int) (r1 : Int) (r2 : Int) (r3 : Int) (r4 : Int) (r5 : Int) (r6a : Option Addr) (r6n : Nat) (r6c : Nat) (r7a : Option Addr) (r7n : Nat) (r7c : Nat) (r8 : Int) (r9 : Int) (r10 : Int) (r11a : Option Addr) (r11n : Nat) (r11c : Nat) (r12a : Option Addr) (r12n : Nat) (r12c : Nat) (r13a : Option Addr) (r13n : Nat) (r13c : Nat) (r14a : Option Addr) (r14n : Nat) (r14c : Nat) (r15 : Int) (r16a : Option Addr) (r16n : Nat) (r16c : Nat) (statea : Option Addr) (staten : Nat) (statec : Nat) : VC :=
 .new 36 [.int .u64 r0, .int .i64 r1, .int .i64 r2, .int .i64 r3, .int .u64 r4, .int .u64 r5, .slice r6a r6n r6c, .slice r7a r7n r7c, .int .u64 r8, .int .i64 r9, .int .i64 r10, .slice r11a r11n r11c, .slice r12a r12n r12c, .slice r13a r13n r13c, .slice r14a r14n r14c, .int .u64 r15, .slice r16a r16n r16c] fun p1 =>
 .new 36 [.int .u64 0, .int .i64 0, .int .i64 0, .int .i64 0, .int .u64 0, .int .u64 0, .slice none 0 0, .slice none 0 0, .int .u64 0, .int .i64 0, .int .i64 0, .slice none 0 0, .slice none 0 0, .slice none 0 0, .slice none 0 0, .int .u64 0, .slice none 0 0] fun p2 =>
 .new 48 [.slice none 0 0, .slice none 0 0, .slice none 0 0] fun p3 =>
 .load ⟨p1, 0, none⟩ 17 fun v4 =>
 .exI fun i5 =>
 .exI fun i6 =>
 .exI fun i7 =>
 .exI fun i8 =>
 .exI fun i9 =>
 .exI fun i10 =>
 .exS fun a11 n11 c11 =>
 .exS fun a12 n12 c12 =>
 .exI fun i13 =>
 .exI fun i14 =>
 .exI fun i15 =>
 .exS fun a16 n16 c16 =>
 .exS fun a17 n17 c17 =>
 .exS fun a18 n18 c18 =>
 .exS fun a19 n19 c19 =>
 .exI fun i20 =>
 .exS fun a21 n21 c21 =>
 .isL v4 [.int .u64 i5, .int .i64 i6, .int .i64 i7, .int .i64 i8, .int .u64 i9, .int .u64 i10, .slice a11 n11 c11, .slice a12 n12 c12, .int .u64 i13, .int .i64 i14, .int .i64 i15, .slice a16 n16 c16, .slice a17 n17 c17, .slice a18 n18 c18, .slice a19 n19 c19, .int .u64 i20, .slice a21 n21 c21] <|
 .call 69 ([.agg #[.int .u64 i5, .int .i64 i6, .int .i64 i7, .int .i64 i8, .int .u64 i9, .int .u64 i10, .slice a11 n11 c11, .slice a12 n12 c12, .int .u64 i13, .int .i64 i14, .int .i64 i15, .slice a16 n16 c16, .slice a17 n17 c17, .slice a18 n18 c18, .slice a19 n19 c19, .int .u64 i20, .slice a21 n21 c21]]) fun v22 =>
 .exN fun p23 =>
 .isL [v22] [.pointer (some ⟨p23, 0, none⟩)] <|
 .load ⟨p1, 8, none⟩ 1 fun v24 =>
 .exI fun i25 =>
 .isL v24 [.int .u64 i25] <|
 .load ⟨p1, 4, none⟩ 1 fun v26 =>
 .exI fun i27 =>
 .isL v26 [.int .u64 i27] <|
 bif (decide (i25 ≤ i27)) then
  (.draw <|
  .load ⟨p23, 0, none⟩ 17 fun v28 =>
  .exI fun i29 =>
  .exI fun i30 =>
  .exI fun i31 =>
  .exI fun i32 =>
  .exI fun i33 =>
  .exI fun i34 =>
  .exS fun a35 n35 c35 =>
  .exS fun a36 n36 c36 =>
  .exI fun i37 =>
  .exI fun i38 =>
  .exI fun i39 =>
  .exS fun a40 n40 c40 =>
  .exS fun a41 n41 c41 =>
  .exS fun a42 n42 c42 =>
  .exS fun a43 n43 c43 =>
  .exI fun i44 =>
  .exS fun a45 n45 c45 =>
  .isL v28 [.int .u64 i29, .int .i64 i30, .int .i64 i31, .int .i64 i32, .int .u64 i33, .int .u64 i34, .slice a35 n35 c35, .slice a36 n36 c36, .int .u64 i37, .int .i64 i38, .int .i64 i39, .slice a40 n40 c40, .slice a41 n41 c41, .slice a42 n42 c42, .slice a43 n43 c43, .int .u64 i44, .slice a45 n45 c45] <|
  .load ⟨p23, 17, none⟩ 3 fun v46 =>
  .exS fun a47 n47 c47 =>
  .exS fun a48 n48 c48 =>
  .exS fun a49 n49 c49 =>
  .isL v46 [.slice a47 n47 c47, .slice a48 n48 c48, .slice a49 n49 c49] <|
  .store ⟨p2, 0, none⟩ [.int .u64 i29, .int .i64 i30, .int .i64 i31, .int .i64 i32, .int .u64 i33, .int .u64 i34, .slice a35 n35 c35, .slice a36 n36 c36, .int .u64 i37, .int .i64 i38, .int .i64 i39, .slice a40 n40 c40, .slice a41 n41 c41, .slice a42 n42 c42, .slice a43 n43 c43, .int .u64 i44, .slice a45 n45 c45] <|
  .hold [(⟨p23, 17, none⟩, [.slice a47 n47 c47, .slice a48 n48 c48, .slice a49 n49 c49])] <|
  .store ⟨p3, 0, none⟩ [.slice a47 n47 c47, .slice a48 n48 c48, .slice a49 n49 c49] <|
  .load ⟨p2, 0, none⟩ 17 fun v50 =>
  .exI fun i51 =>
  .exI fun i52 =>
  .exI fun i53 =>
  .exI fun i54 =>
  .exI fun i55 =>
  .exI fun i56 =>
  .exS fun a57 n57 c57 =>
  .exS fun a58 n58 c58 =>
  .exI fun i59 =>
  .exI fun i60 =>
  .exI fun i61 =>
  .exS fun a62 n62 c62 =>
  .exS fun a63 n63 c63 =>
  .exS fun a64 n64 c64 =>
  .exS fun a65 n65 c65 =>
  .exI fun i66 =>
  .exS fun a67 n67 c67 =>
  .isL v50 [.int .u64 i51, .int .i64 i52, .int .i64 i53, .int .i64 i54, .int .u64 i55, .int .u64 i56, .slice a57 n57 c57, .slice a58 n58 c58, .int .u64 i59, .int .i64 i60, .int .i64 i61, .slice a62 n62 c62, .slice a63 n63 c63, .slice a64 n64 c64, .slice a65 n65 c65, .int .u64 i66, .slice a67 n67 c67] <|
  .load ⟨p3, 0, none⟩ 3 fun v68 =>
  .exS fun a69 n69 c69 =>
  .exS fun a70 n70 c70 =>
  .exS fun a71 n71 c71 =>
  .isL v68 [.slice a69 n69 c69, .slice a70 n70 c70, .slice a71 n71 c71] <|
  .ret (.tuple #[.agg #[.int .u64 i51, .int .i64 i52, .int .i64 i53, .int .i64 i54, .int .u64 i55, .int .u64 i56, .slice a57 n57 c57, .slice a58 n58 c58, .int .u64 i59, .int .i64 i60, .int .i64 i61, .slice a62 n62 c62, .slice a63 n63 c63, .slice a64 n64 c64, .slice a65 n65 c65, .int .u64 i66, .slice a67 n67 c67], .agg #[.slice a69 n69 c69, .slice a70 n70 c70, .slice a71 n71 c71]]))
 else
 (.load ⟨p1, 0, none⟩ 17 fun v72 =>
 .exI fun i73 =>
 .exI fun i74 =>
 .exI fun i75 =>
 .exI fun i76 =>
 .exI fun i77 =>
 .exI fun i78 =>
 .exS fun a79 n79 c79 =>
 .exS fun a80 n80 c80 =>
 .exI fun i81 =>
 .exI fun i82 =>
 .exI fun i83 =>
 .exS fun a84 n84 c84 =>
 .exS fun a85 n85 c85 =>
 .exS fun a86 n86 c86 =>
 .exS fun a87 n87 c87 =>
 .exI fun i88 =>
 .exS fun a89 n89 c89 =>
 .isL v72 [.int .u64 i73, .int .i64 i74, .int .i64 i75, .int .i64 i76, .int .u64 i77, .int .u64 i78, .slice a79 n79 c79, .slice a80 n80 c80, .int .u64 i81, .int .i64 i82, .int .i64 i83, .slice a84 n84 c84, .slice a85 n85 c85, .slice a86 n86 c86, .slice a87 n87 c87, .int .u64 i88, .slice a89 n89 c89] <|
 .load ⟨p1, 8, none⟩ 1 fun v90 =>
 .exI fun i91 =>
 .isL v90 [.int .u64 i91] <|
 .call 28 ([.agg #[.int .u64 i73, .int .i64 i74, .int .i64 i75, .int .i64 i76, .int .u64 i77, .int .u64 i78, .slice a79 n79 c79, .slice a80 n80 c80, .int .u64 i81, .int .i64 i82, .int .i64 i83, .slice a84 n84 c84, .slice a85 n85 c85, .slice a86 n86 c86, .slice a87 n87 c87, .int .u64 i88, .slice a89 n89 c89], .int .u64 i91]) fun v92 =>
 .exI fun i93 =>
 .exB fun b94 =>
 .isL [v92] [.tuple #[.int .u64 i93, .bool b94]] <|
 .cut 0 (.draw <|
  .load ⟨p1, 8, none⟩ 1 fun v95 =>
  .exI fun i96 =>
  .isL v95 [.int .u64 i96] <|
  .both
   (.new 5 [] fun p97 =>
   .both
    (.append 5 1 1 [.int .u8 0] (some ⟨p97, 0, none⟩) 0 0 statea staten fun a98 n98 c98 =>
    .hold [(⟨p1, 8, none⟩, [.int .u64 i96])] <|
    .new 27 [.int .u64 0, .int .u64 0, .slice none 0 0] fun p99 =>
    .store ⟨p99, 0, none⟩ [.int .u64 i96, .int .u64 i93, .slice a98 n98 c98] <|
    .again 0 [.pointer (some ⟨p99, 0, none⟩)])
   (.new 27 [.int .u64 0, .int .u64 0, .slice none 0 0] fun p100 =>
   .append 5 1 1 [.int .u8 0] (some ⟨p97, 0, none⟩) 0 0 statea staten fun a101 n101 c101 =>
   .hold [(⟨p1, 8, none⟩, [.int .u64 i96])] <|
   .store ⟨p100, 0, none⟩ [.int .u64 i96, .int .u64 i93, .slice a101 n101 c101] <|
   .again 0 [.pointer (some ⟨p100, 0, none⟩)]))
  (.new 27 [.int .u64 0, .int .u64 0, .slice none 0 0] fun p102 =>
  .new 5 [] fun p103 =>
  .append 5 1 1 [.int .u8 0] (some ⟨p103, 0, none⟩) 0 0 statea staten fun a104 n104 c104 =>
  .hold [(⟨p1, 8, none⟩, [.int .u64 i96])] <|
  .store ⟨p102, 0, none⟩ [.int .u64 i96, .int .u64 i93, .slice a104 n104 c104] <|
  .again 0 [.pointer (some ⟨p102, 0, none⟩)])) (fun v1095 =>
 .exN fun p106 =>
 .isL v1095 [.pointer (some ⟨p106, 0, none⟩)] <|
 .draw <|
 .load ⟨p23, 7, none⟩ 1 fun v107 =>
 .exS fun a108 n108 c108 =>
 .isL v107 [.slice a108 n108 c108] <|
 .load ⟨p1, 8, none⟩ 1 fun v109 =>
 .exI fun i110 =>
 .isL v109 [.int .u64 i110] <|
 .load ⟨p1, 4, none⟩ 1 fun v111 =>
 .exI fun i112 =>
 .isL v111 [.int .u64 i112] <|
 .need ((0 : Int) ≤ IntKind.u64.wrap (i110 - i112) ∧ IntKind.u64.wrap (i110 - i112) ≤ (↑n108 : Int)) <|
 .new 57 [] fun p113 =>
 .append 57 2 32 [.int .u64 0, .slice none 0 0] (some ⟨p113, 0, none⟩) 0 0 (if c108 = (IntKind.u64.wrap (i110 - i112)).toNat then a108 else Option.map (fun x => x.add ((IntKind.u64.wrap (i110 - i112)).toNat * 2)) a108) (n108 - (IntKind.u64.wrap (i110 - i112)).toNat) fun a114 n114 c114 =>
 .store ⟨p23, 7, none⟩ [.slice a114 n114 c114] <|
 .load ⟨p106, 0, none⟩ 3 fun v115 =>
 .exI fun i116 =>
 .exI fun i117 =>
 .exS fun a118 n118 c118 =>
 .isL v115 [.int .u64 i116, .int .u64 i117, .slice a118 n118 c118] <|
 .store ⟨p23, 4, none⟩ [.int .u64 i116, .int .u64 i117, .slice a118 n118 c118] <|
 .draw <|
 .load ⟨p23, 17, none⟩ 1 fun v119 =>
 .exS fun a120 n120 c120 =>
 .isL v119 [.slice a120 n120 c120] <|
 .load ⟨p106, 0, none⟩ 3 fun v121 =>
 .exI fun i122 =>
 .exI fun i123 =>
 .exS fun a124 n124 c124 =>
 .isL v121 [.int .u64 i122, .int .u64 i123, .slice a124 n124 c124] <|
 .new 59 [.int .i64 4, .int .u64 0, .int .i64 0, .int .u64 0, .slice none 0 0, .int .u64 0, .int .u64 i122, .int .u64 i123, .slice a124 n124 c124] fun p125 =>
 .append 59 9 104 [.int .i64 0, .int .u64 0, .int .i64 0, .int .u64 0, .slice none 0 0, .int .u64 0, .int .u64 0, .int .u64 0, .slice none 0 0] a120 n120 c120 (some ⟨p125, 0, none⟩) 1 fun a126 n126 c126 =>
 .store ⟨p23, 17, none⟩ [.slice a126 n126 c126] <|
 .draw <|
 .load ⟨p23, 0, none⟩ 17 fun v127 =>
 .exI fun i128 =>
 .exI fun i129 =>
 .exI fun i130 =>
 .exI fun i131 =>
 .exI fun i132 =>
 .exI fun i133 =>
 .exS fun a134 n134 c134 =>
 .exS fun a135 n135 c135 =>
 .exI fun i136 =>
 .exI fun i137 =>
 .exI fun i138 =>
 .exS fun a139 n139 c139 =>
 .exS fun a140 n140 c140 =>
 .exS fun a141 n141 c141 =>
 .exS fun a142 n142 c142 =>
 .exI fun i143 =>
 .exS fun a144 n144 c144 =>
 .isL v127 [.int .u64 i128, .int .i64 i129, .int .i64 i130, .int .i64 i131, .int .u64 i132, .int .u64 i133, .slice a134 n134 c134, .slice a135 n135 c135, .int .u64 i136, .int .i64 i137, .int .i64 i138, .slice a139 n139 c139, .slice a140 n140 c140, .slice a141 n141 c141, .slice a142 n142 c142, .int .u64 i143, .slice a144 n144 c144] <|
 .load ⟨p23, 17, none⟩ 3 fun v145 =>
 .exS fun a146 n146 c146 =>
 .exS fun a147 n147 c147 =>
 .exS fun a148 n148 c148 =>
 .isL v145 [.slice a146 n146 c146, .slice a147 n147 c147, .slice a148 n148 c148] <|
 .store ⟨p2, 0, none⟩ [.int .u64 i128, .int .i64 i129, .int .i64 i130, .int .i64 i131, .int .u64 i132, .int .u64 i133, .slice a134 n134 c134, .slice a135 n135 c135, .int .u64 i136, .int .i64 i137, .int .i64 i138, .slice a139 n139 c139, .slice a140 n140 c140, .slice a141 n141 c141, .slice a142 n142 c142, .int .u64 i143, .slice a144 n144 c144] <|
 .hold [(⟨p23, 17, none⟩, [.slice a146 n146 c146, .slice a147 n147 c147, .slice a148 n148 c148])] <|
 .store ⟨p3, 0, none⟩ [.slice a146 n146 c146, .slice a147 n147 c147, .slice a148 n148 c148] <|
 .load ⟨p2, 0, none⟩ 17 fun v149 =>
 .exI fun i150 =>
 .exI fun i151 =>
 .exI fun i152 =>
 .exI fun i153 =>
 .exI fun i154 =>
 .exI fun i155 =>
 .exS fun a156 n156 c156 =>
 .exS fun a157 n157 c157 =>
 .exI fun i158 =>
 .exI fun i159 =>
 .exI fun i160 =>
 .exS fun a161 n161 c161 =>
 .exS fun a162 n162 c162 =>
 .exS fun a163 n163 c163 =>
 .exS fun a164 n164 c164 =>
 .exI fun i165 =>
 .exS fun a166 n166 c166 =>
 .isL v149 [.int .u64 i150, .int .i64 i151, .int .i64 i152, .int .i64 i153, .int .u64 i154, .int .u64 i155, .slice a156 n156 c156, .slice a157 n157 c157, .int .u64 i158, .int .i64 i159, .int .i64 i160, .slice a161 n161 c161, .slice a162 n162 c162, .slice a163 n163 c163, .slice a164 n164 c164, .int .u64 i165, .slice a166 n166 c166] <|
 .load ⟨p3, 0, none⟩ 3 fun v167 =>
 .exS fun a168 n168 c168 =>
 .exS fun a169 n169 c169 =>
 .exS fun a170 n170 c170 =>
 .isL v167 [.slice a168 n168 c168, .slice a169 n169 c169, .slice a170 n170 c170] <|
 .ret (.tuple #[.agg #[.int .u64 i150, .int .i64 i151, .int .i64 i152, .int .i64 i153, .int .u64 i154, .int .u64 i155, .slice a156 n156 c156, .slice a157 n157 c157, .int .u64 i158, .int .i64 i159, .int .i64 i160, .slice a161 n161 c161, .slice a162 n162 c162, .slice a163 n163 c163, .slice a164 n164 c164, .int .u64 i165, .slice a166 n166 c166], .agg #[.slice a168 n168 c168, .slice a169 n169 c169, .slice a170 n170 c170]])))
theorem e44 (r0 : Int) (r1 : Int) (r2 : Int) (r3 : Int) (r4 : Int) (r5 : Int) (r6a : Option Addr) (r6n : Nat) (r6c : Nat) (r7a : Option Addr) (r7n : Nat) (r7c : Nat) (r8 : Int) (r9 : Int) (r10 : Int) (r11a : Option Addr) (r11n : Nat) (r11c : Nat) (r12a : Option Addr) (r12n : Nat) (r12c : Nat) (r13a : Option Addr) (r13n : Nat) (r13c : Nat) (r14a : Option Addr) (r14n : Nat) (r14c : Nat) (r15 : Int) (r16a : Option Addr) (r16n : Nat) (r16c : Nat) (statea : Option Addr) (staten : Nat) (statec : Nat) : genFn Try.prog noM ct44 Try.f44 [.agg #[.int .u64 r0, .int .i64 r1, .int .i64 r2, .int .i64 r3, .int .u64 r4, .int .u64 r5, .slice r6a r6n r6c, .slice r7a r7n r7c, .int .u64 r8, .int .i64 r9, .int .i64 r10, .slice r11a r11n r11c, .slice r12a r12n r12c, .slice r13a r13n r13c, .slice r14a r14n r14c, .int .u64 r15, .slice r16a r16n r16c], .slice statea staten statec] = t44 r0 r1 r2 r3 r4 r5 r6a r6n r6c r7a r7n r7c r8 r9 r10 r11a r11n r11c r12a r12n r12c r13a r13n r13c r14a r14n r14c r15 r16a r16n r16c statea staten statec := by kernel_rfl
theorem r44 (r0 : Int) (r1 : Int) (r2 : Int) (r3 : Int) (r4 : Int) (r5 : Int) (r6a : Option Addr) (r6n : Nat) (r6c : Nat) (r7a : Option Addr) (r7n : Nat) (r7c : Nat) (r8 : Int) (r9 : Int) (r10 : Int) (r11a : Option Addr) (r11n : Nat) (r11c : Nat) (r12a : Option Addr) (r12n : Nat) (r12c : Nat) (r13a : Option Addr) (r13n : Nat) (r13c : Nat) (r14a : Option Addr) (r14n : Nat) (r14c : Nat) (r15 : Int) (r16a : Option Addr) (r16n : Nat) (r16c : Nat) (statea : Option Addr) (staten : Nat) (statec : Nat) {R : Value → World → Prop} {w : World} (h : (t44 r0 r1 r2 r3 r4 r5 r6a r6n r6c r7a r7n r7c r8 r9 r10 r11a r11n r11c r12a r12n r12c r13a r13n r13c r14a r14n r14c r15 r16a r16n r16c statea staten statec).wp Try.prog R (fun _ _ _ => False) w) : Runs Try.prog 44 [.agg #[.int .u64 r0, .int .i64 r1, .int .i64 r2, .int .i64 r3, .int .u64 r4, .int .u64 r5, .slice r6a r6n r6c, .slice r7a r7n r7c, .int .u64 r8, .int .i64 r9, .int .i64 r10, .slice r11a r11n r11c, .slice r12a r12n r12c, .slice r13a r13n r13c, .slice r14a r14n r14c, .int .u64 r15, .slice r16a r16n r16c], .slice statea staten statec] w R :=
 genFn_runs mixed noM ct44 Try.func44 (by kernel_rfl) (by rw [e44]; exact h)
end Go.Proofs.Ytnbfffmdplcajaa
