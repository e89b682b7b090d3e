/- The trees of verification conditions of functions 3-20: printed by a program of mine, checked here. -/
import Derived.Test.YtcfjglminflohaaTree0
set_option linter.unusedVariables false
set_option maxRecDepth 100000
namespace Go.Proofs.Ytcfjglminflohaa
open Go.Vc
def lv3 : Marks := (fun | some 10 => some [(7, .int .i64 0)] | _ => none)
def t3 (la : Option Addr) (ln : Nat) (lc : Nat) (cut : Int) : VC :=
 .call 5 ([]) fun v1 =>
 .exB fun b2 =>
 .isL [v1] [.bool b2] <|
 bif !b2 then
  (.ret (.bool false))
 else
 (bif (decide ((↑ln : Int) > 30)) then
  (.ret (.bool true))
 else
 (.call 6 ([]) fun v3 =>
 .exN fun p4 =>
 .isL [v3] [.pointer (some ⟨p4, 0, none⟩)] <|
 .need (IntKind.i64.wrap ((↑ln : Int) + 1) ≠ 0) <|
 .need ((0 : Int) ≤ (IntKind.i64.wrap cut).tmod (IntKind.i64.wrap ((↑ln : Int) + 1)) ∧ (IntKind.i64.wrap cut).tmod (IntKind.i64.wrap ((↑ln : Int) + 1)) ≤ (↑lc : Int)) <|
 .call 7 ([.pointer (some ⟨p4, 0, none⟩), .slice (if lc = 0 then la else Option.map (fun x => x) la) (((IntKind.i64.wrap cut).tmod (IntKind.i64.wrap ((↑ln : Int) + 1))).toNat - 0) (lc - 0)]) fun v5 =>
 .exI fun i6 =>
 .isL [v5] [.int .i64 i6] <|
 bif (i6 != (IntKind.i64.wrap cut).tmod (IntKind.i64.wrap ((↑ln : Int) + 1))) then
  (.ret (.bool false))
 else
 (.need ((0 : Int) ≤ (IntKind.i64.wrap cut).tmod (IntKind.i64.wrap ((↑ln : Int) + 1)) ∧ (IntKind.i64.wrap cut).tmod (IntKind.i64.wrap ((↑ln : Int) + 1)) ≤ (↑ln : Int)) <|
 .call 7 ([.pointer (some ⟨p4, 0, none⟩), .slice (if lc = ((IntKind.i64.wrap cut).tmod (IntKind.i64.wrap ((↑ln : Int) + 1))).toNat then la else Option.map (fun x => x.add (((IntKind.i64.wrap cut).tmod (IntKind.i64.wrap ((↑ln : Int) + 1))).toNat * 21)) la) (ln - ((IntKind.i64.wrap cut).tmod (IntKind.i64.wrap ((↑ln : Int) + 1))).toNat) (lc - ((IntKind.i64.wrap cut).tmod (IntKind.i64.wrap ((↑ln : Int) + 1))).toNat)]) fun v7 =>
 .exI fun i8 =>
 .isL [v7] [.int .i64 i8] <|
 bif (i8 != IntKind.i64.wrap ((↑ln : Int) - (IntKind.i64.wrap cut).tmod (IntKind.i64.wrap ((↑ln : Int) + 1)))) then
  (.ret (.bool false))
 else
 (.call 7 ([.pointer (some ⟨p4, 0, none⟩), .slice none 0 0]) fun v9 =>
 .exI fun i10 =>
 .isL [v9] [.int .i64 i10] <|
 bif (i10 != 0) then
  (.ret (.bool false))
 else
 (.loop 0 [.int .i64 0] (fun v11 =>
  .exI fun i12 =>
  .isL v11 [.int .i64 i12] <|
  bif (decide (i12 < (↑ln : Int))) then
   (.call 8 ([.pointer (some ⟨p4, 0, none⟩), .int .i64 0]) fun v13 =>
   .exI fun i14 =>
   .exI fun i15 =>
   .exI fun i16 =>
   .exI fun i17 =>
   .exI fun i18 =>
   .exI fun i19 =>
   .exS fun a20 n20 c20 =>
   .exI fun i21 =>
   .exI fun i22 =>
   .exB fun b23 =>
   .exI fun i24 =>
   .exI fun i25 =>
   .exS fun a26 n26 c26 =>
   .exI fun i27 =>
   .exI fun i28 =>
   .exI fun i29 =>
   .exT fun s30 =>
   .exT fun s31 =>
   .exI fun i32 =>
   .exI fun i33 =>
   .exT fun s34 =>
   .exI fun i35 =>
   .isL [v13] [.tuple #[.agg #[.int .i64 i14, .int .i64 i15, .int .i64 i16, .int .u64 i17, .int .u64 i18, .int .u64 i19, .slice a20 n20 c20, .int .u64 i21, .int .u64 i22, .bool b23, .int .u64 i24, .int .u64 i25, .slice a26 n26 c26, .int .i64 i27, .int .i64 i28, .int .u64 i29, .string s30, .string s31, .int .u64 i32, .int .i64 i33, .string s34], .int .i64 i35]] <|
   .new 38 [.int .i64 0, .int .i64 0, .int .i64 0, .int .u64 0, .int .u64 0, .int .u64 0, .slice none 0 0, .int .u64 0, .int .u64 0, .bool false, .int .u64 0, .int .u64 0, .slice none 0 0, .int .i64 0, .int .i64 0, .int .u64 0, .string ({ data := #[] }), .string ({ data := #[] }), .int .u64 0, .int .i64 0, .string ({ data := #[] })] fun p36 =>
   .store ⟨p36, 0, none⟩ [.int .i64 i14, .int .i64 i15, .int .i64 i16, .int .u64 i17, .int .u64 i18, .int .u64 i19, .slice a20 n20 c20, .int .u64 i21, .int .u64 i22, .bool b23, .int .u64 i24, .int .u64 i25, .slice a26 n26 c26, .int .i64 i27, .int .i64 i28, .int .u64 i29, .string s30, .string s31, .int .u64 i32, .int .i64 i33, .string s34] <|
   .draw <|
   bif (i35 != 0) then
    (.ret (.bool false))
   else
   (.load ⟨p36, 0, none⟩ 21 fun v37 =>
   .exI fun i38 =>
   .exI fun i39 =>
   .exI fun i40 =>
   .exI fun i41 =>
   .exI fun i42 =>
   .exI fun i43 =>
   .exS fun a44 n44 c44 =>
   .exI fun i45 =>
   .exI fun i46 =>
   .exB fun b47 =>
   .exI fun i48 =>
   .exI fun i49 =>
   .exS fun a50 n50 c50 =>
   .exI fun i51 =>
   .exI fun i52 =>
   .exI fun i53 =>
   .exT fun s54 =>
   .exT fun s55 =>
   .exI fun i56 =>
   .exI fun i57 =>
   .exT fun s58 =>
   .isL v37 [.int .i64 i38, .int .i64 i39, .int .i64 i40, .int .u64 i41, .int .u64 i42, .int .u64 i43, .slice a44 n44 c44, .int .u64 i45, .int .u64 i46, .bool b47, .int .u64 i48, .int .u64 i49, .slice a50 n50 c50, .int .i64 i51, .int .i64 i52, .int .u64 i53, .string s54, .string s55, .int .u64 i56, .int .i64 i57, .string s58] <|
   .some la fun x59 =>
   .need ((0 : Int) ≤ i12 ∧ i12 < (↑ln : Int)) <|
   .load (x59.add (i12.toNat * 21)) 21 fun v60 =>
   .exI fun i61 =>
   .exI fun i62 =>
   .exI fun i63 =>
   .exI fun i64 =>
   .exI fun i65 =>
   .exI fun i66 =>
   .exS fun a67 n67 c67 =>
   .exI fun i68 =>
   .exI fun i69 =>
   .exB fun b70 =>
   .exI fun i71 =>
   .exI fun i72 =>
   .exS fun a73 n73 c73 =>
   .exI fun i74 =>
   .exI fun i75 =>
   .exI fun i76 =>
   .exT fun s77 =>
   .exT fun s78 =>
   .exI fun i79 =>
   .exI fun i80 =>
   .exT fun s81 =>
   .isL v60 [.int .i64 i61, .int .i64 i62, .int .i64 i63, .int .u64 i64, .int .u64 i65, .int .u64 i66, .slice a67 n67 c67, .int .u64 i68, .int .u64 i69, .bool b70, .int .u64 i71, .int .u64 i72, .slice a73 n73 c73, .int .i64 i74, .int .i64 i75, .int .u64 i76, .string s77, .string s78, .int .u64 i79, .int .i64 i80, .string s81] <|
   .call 9 ([.agg #[.int .i64 i38, .int .i64 i39, .int .i64 i40, .int .u64 i41, .int .u64 i42, .int .u64 i43, .slice a44 n44 c44, .int .u64 i45, .int .u64 i46, .bool b47, .int .u64 i48, .int .u64 i49, .slice a50 n50 c50, .int .i64 i51, .int .i64 i52, .int .u64 i53, .string s54, .string s55, .int .u64 i56, .int .i64 i57, .string s58], .agg #[.int .i64 i61, .int .i64 i62, .int .i64 i63, .int .u64 i64, .int .u64 i65, .int .u64 i66, .slice a67 n67 c67, .int .u64 i68, .int .u64 i69, .bool b70, .int .u64 i71, .int .u64 i72, .slice a73 n73 c73, .int .i64 i74, .int .i64 i75, .int .u64 i76, .string s77, .string s78, .int .u64 i79, .int .i64 i80, .string s81]]) fun v82 =>
   .exB fun b83 =>
   .isL [v82] [.bool b83] <|
   bif !b83 then
    (.ret (.bool false))
   else
   (.again 0 [.int .i64 (IntKind.i64.wrap (i12 + 1))])))
  else
  (.call 10 ([.pointer (some ⟨p4, 0, none⟩)]) fun v84 =>
  .exI fun i85 =>
  .isL [v84] [.int .i64 i85] <|
  .ret (.bool (i85 == 0)))))))))
theorem e3 (la : Option Addr) (ln : Nat) (lc : Nat) (cut : Int) : genFn Try.prog lv3 noM Try.f3 [.slice la ln lc, .int .u8 cut] = t3 la ln lc cut := by kernel_rfl
theorem r3 (la : Option Addr) (ln : Nat) (lc : Nat) (cut : Int) {R : Value → World → Prop} {w : World} (h : (t3 la ln lc cut).wp Try.prog R (fun _ _ _ => False) w) : Runs Try.prog 3 [.slice la ln lc, .int .u8 cut] w R :=
 genFn_runs mixed lv3 noM Try.func3 (by kernel_rfl) (by rw [e3]; exact h)
def t5 : VC :=
 .call 6 ([]) fun v1 =>
 .exN fun p2 =>
 .isL [v1] [.pointer (some ⟨p2, 0, none⟩)] <|
 .new 38 [.int .i64 1, .int .i64 0, .int .i64 0, .int .u64 0, .int .u64 0, .int .u64 0, .slice none 0 0, .int .u64 0, .int .u64 0, .bool false, .int .u64 0, .int .u64 0, .slice none 0 0, .int .i64 0, .int .i64 0, .int .u64 0, .string ({ data := #[] }), .string ({ data := #[] }), .int .u64 0, .int .i64 0, .string ({ data := #[] }), .int .i64 2, .int .i64 0, .int .i64 0, .int .u64 0, .int .u64 0, .int .u64 0, .slice none 0 0, .int .u64 0, .int .u64 0, .bool false, .int .u64 0, .int .u64 0, .slice none 0 0, .int .i64 0, .int .i64 0, .int .u64 0, .string ({ data := #[] }), .string ({ data := #[] }), .int .u64 0, .int .i64 0, .string ({ data := #[] })] fun p3 =>
 .call 7 ([.pointer (some ⟨p2, 0, none⟩), .slice (some ⟨p3, 0, none⟩) 2 2]) fun v4 =>
 .exI fun i5 =>
 .isL [v4] [.int .i64 i5] <|
 bif (i5 != 2) then
  (.ret (.bool false))
 else
 (.call 10 ([.pointer (some ⟨p2, 0, none⟩)]) fun v6 =>
 .exI fun i7 =>
 .isL [v6] [.int .i64 i7] <|
 bif (i7 != 2) then
  (.ret (.bool false))
 else
 (.call 8 ([.pointer (some ⟨p2, 0, none⟩), .int .i64 0]) fun v8 =>
 .exI fun i9 =>
 .exI fun i10 =>
 .exI fun i11 =>
 .exI fun i12 =>
 .exI fun i13 =>
 .exI fun i14 =>
 .exS fun a15 n15 c15 =>
 .exI fun i16 =>
 .exI fun i17 =>
 .exB fun b18 =>
 .exI fun i19 =>
 .exI fun i20 =>
 .exS fun a21 n21 c21 =>
 .exI fun i22 =>
 .exI fun i23 =>
 .exI fun i24 =>
 .exT fun s25 =>
 .exT fun s26 =>
 .exI fun i27 =>
 .exI fun i28 =>
 .exT fun s29 =>
 .exI fun i30 =>
 .isL [v8] [.tuple #[.agg #[.int .i64 i9, .int .i64 i10, .int .i64 i11, .int .u64 i12, .int .u64 i13, .int .u64 i14, .slice a15 n15 c15, .int .u64 i16, .int .u64 i17, .bool b18, .int .u64 i19, .int .u64 i20, .slice a21 n21 c21, .int .i64 i22, .int .i64 i23, .int .u64 i24, .string s25, .string s26, .int .u64 i27, .int .i64 i28, .string s29], .int .i64 i30]] <|
 .new 38 [.int .i64 0, .int .i64 0, .int .i64 0, .int .u64 0, .int .u64 0, .int .u64 0, .slice none 0 0, .int .u64 0, .int .u64 0, .bool false, .int .u64 0, .int .u64 0, .slice none 0 0, .int .i64 0, .int .i64 0, .int .u64 0, .string ({ data := #[] }), .string ({ data := #[] }), .int .u64 0, .int .i64 0, .string ({ data := #[] })] fun p31 =>
 .store ⟨p31, 0, none⟩ [.int .i64 i9, .int .i64 i10, .int .i64 i11, .int .u64 i12, .int .u64 i13, .int .u64 i14, .slice a15 n15 c15, .int .u64 i16, .int .u64 i17, .bool b18, .int .u64 i19, .int .u64 i20, .slice a21 n21 c21, .int .i64 i22, .int .i64 i23, .int .u64 i24, .string s25, .string s26, .int .u64 i27, .int .i64 i28, .string s29] <|
 .call 11 ([.pointer (some ⟨p2, 0, none⟩), .int .i64 0]) fun v32 =>
 .exI fun i33 =>
 .exI fun i34 =>
 .exI fun i35 =>
 .exI fun i36 =>
 .exI fun i37 =>
 .exI fun i38 =>
 .exS fun a39 n39 c39 =>
 .exI fun i40 =>
 .exI fun i41 =>
 .exB fun b42 =>
 .exI fun i43 =>
 .exI fun i44 =>
 .exS fun a45 n45 c45 =>
 .exI fun i46 =>
 .exI fun i47 =>
 .exI fun i48 =>
 .exT fun s49 =>
 .exT fun s50 =>
 .exI fun i51 =>
 .exI fun i52 =>
 .exT fun s53 =>
 .exI fun i54 =>
 .isL [v32] [.tuple #[.agg #[.int .i64 i33, .int .i64 i34, .int .i64 i35, .int .u64 i36, .int .u64 i37, .int .u64 i38, .slice a39 n39 c39, .int .u64 i40, .int .u64 i41, .bool b42, .int .u64 i43, .int .u64 i44, .slice a45 n45 c45, .int .i64 i46, .int .i64 i47, .int .u64 i48, .string s49, .string s50, .int .u64 i51, .int .i64 i52, .string s53], .int .i64 i54]] <|
 .new 38 [.int .i64 0, .int .i64 0, .int .i64 0, .int .u64 0, .int .u64 0, .int .u64 0, .slice none 0 0, .int .u64 0, .int .u64 0, .bool false, .int .u64 0, .int .u64 0, .slice none 0 0, .int .i64 0, .int .i64 0, .int .u64 0, .string ({ data := #[] }), .string ({ data := #[] }), .int .u64 0, .int .i64 0, .string ({ data := #[] })] fun p55 =>
 .store ⟨p55, 0, none⟩ [.int .i64 i33, .int .i64 i34, .int .i64 i35, .int .u64 i36, .int .u64 i37, .int .u64 i38, .slice a39 n39 c39, .int .u64 i40, .int .u64 i41, .bool b42, .int .u64 i43, .int .u64 i44, .slice a45 n45 c45, .int .i64 i46, .int .i64 i47, .int .u64 i48, .string s49, .string s50, .int .u64 i51, .int .i64 i52, .string s53] <|
 bif (i30 == 0) then
  (.load ⟨p31, 0, none⟩ 1 fun v56 =>
  .exI fun i57 =>
  .isL v56 [.int .i64 i57] <|
  bif (i57 == 1) then
   (bif (i54 == 0) then
    (.load ⟨p55, 0, none⟩ 1 fun v58 =>
    .exI fun i59 =>
    .isL v58 [.int .i64 i59] <|
    bif (i59 == 2) then
     (.call 12 ([.pointer (some ⟨p2, 0, none⟩), .int .i64 0]) fun v60 =>
     .exI fun i61 =>
     .isL [v60] [.int .i64 i61] <|
     bif (i61 == 0) then
      (.call 13 ([.pointer (some ⟨p2, 0, none⟩), .int .i64 1]) fun v62 =>
      .exI fun i63 =>
      .isL [v62] [.int .i64 i63] <|
      bif (i63 == 0) then
       (.call 13 ([.pointer (some ⟨p2, 0, none⟩), .int .i64 1]) fun v64 =>
       .exI fun i65 =>
       .isL [v64] [.int .i64 i65] <|
       .ret (.bool (i65 == 10)))
      else
      (.ret (.bool false)))
     else
     (.ret (.bool false)))
    else
    (.ret (.bool false)))
   else
   (.ret (.bool false)))
  else
  (.ret (.bool false)))
 else
 (.ret (.bool false))))
theorem e5 : genFn Try.prog noM noM Try.f5 [] = t5 := by kernel_rfl
theorem r5 {R : Value → World → Prop} {w : World} (h : (t5).wp Try.prog R (fun _ _ _ => False) w) : Runs Try.prog 5 [] w R :=
 genFn_runs mixed noM noM Try.func5 (by kernel_rfl) (by rw [e5]; exact h)
def t6 : VC :=
 .new 48 [.slice none 0 0] fun p1 =>
 .ret (.pointer (some ⟨p1, 0, none⟩))
theorem e6 : genFn Try.prog noM noM Try.f6 [] = t6 := by kernel_rfl
theorem r6 {R : Value → World → Prop} {w : World} (h : (t6).wp Try.prog R (fun _ _ _ => False) w) : Runs Try.prog 6 [] w R :=
 genFn_runs mixed noM noM Try.func6 (by kernel_rfl) (by rw [e6]; exact h)
def lv7 : Marks := (fun | some 5 => some [(24, .int .i64 0)] | _ => none)
def t7 (n : Nat) (la : Option Addr) (ln : Nat) (lc : Nat) : VC :=
 .load ⟨n, 0, none⟩ 1 fun v1 =>
 .exS fun a2 n2 c2 =>
 .isL v1 [.slice a2 n2 c2] <|
 .need ((0 ≤ if (if 0 > IntKind.i64.wrap (400 - (↑n2 : Int)) then 0 else IntKind.i64.wrap (400 - (↑n2 : Int))) < (↑ln : Int) then if 0 > IntKind.i64.wrap (400 - (↑n2 : Int)) then 0 else IntKind.i64.wrap (400 - (↑n2 : Int)) else (↑ln : Int)) ∧ (if (if 0 > IntKind.i64.wrap (400 - (↑n2 : Int)) then 0 else IntKind.i64.wrap (400 - (↑n2 : Int))) < (↑ln : Int) then if 0 > IntKind.i64.wrap (400 - (↑n2 : Int)) then 0 else IntKind.i64.wrap (400 - (↑n2 : Int)) else (↑ln : Int)) ≤ (↑lc : Int)) <|
 .loop 0 [.int .i64 0] (fun v3 =>
  .exI fun i4 =>
  .isL v3 [.int .i64 i4] <|
  bif (decide (i4 < (↑((if (if 0 > IntKind.i64.wrap (400 - (↑n2 : Int)) then 0 else IntKind.i64.wrap (400 - (↑n2 : Int))) < (↑ln : Int) then if 0 > IntKind.i64.wrap (400 - (↑n2 : Int)) then 0 else IntKind.i64.wrap (400 - (↑n2 : Int)) else (↑ln : Int)).toNat - 0) : Int))) then
   (.some (if lc = 0 then la else Option.map (fun x => x) la) fun x5 =>
   .need ((0 : Int) ≤ i4 ∧ i4 < (↑((if (if 0 > IntKind.i64.wrap (400 - (↑n2 : Int)) then 0 else IntKind.i64.wrap (400 - (↑n2 : Int))) < (↑ln : Int) then if 0 > IntKind.i64.wrap (400 - (↑n2 : Int)) then 0 else IntKind.i64.wrap (400 - (↑n2 : Int)) else (↑ln : Int)).toNat - 0) : Int)) <|
   .load (x5.add (i4.toNat * 21)) 21 fun v6 =>
   .exI fun i7 =>
   .exI fun i8 =>
   .exI fun i9 =>
   .exI fun i10 =>
   .exI fun i11 =>
   .exI fun i12 =>
   .exS fun a13 n13 c13 =>
   .exI fun i14 =>
   .exI fun i15 =>
   .exB fun b16 =>
   .exI fun i17 =>
   .exI fun i18 =>
   .exS fun a19 n19 c19 =>
   .exI fun i20 =>
   .exI fun i21 =>
   .exI fun i22 =>
   .exT fun s23 =>
   .exT fun s24 =>
   .exI fun i25 =>
   .exI fun i26 =>
   .exT fun s27 =>
   .isL v6 [.int .i64 i7, .int .i64 i8, .int .i64 i9, .int .u64 i10, .int .u64 i11, .int .u64 i12, .slice a13 n13 c13, .int .u64 i14, .int .u64 i15, .bool b16, .int .u64 i17, .int .u64 i18, .slice a19 n19 c19, .int .i64 i20, .int .i64 i21, .int .u64 i22, .string s23, .string s24, .int .u64 i25, .int .i64 i26, .string s27] <|
   .new 38 [.int .i64 0, .int .i64 0, .int .i64 0, .int .u64 0, .int .u64 0, .int .u64 0, .slice none 0 0, .int .u64 0, .int .u64 0, .bool false, .int .u64 0, .int .u64 0, .slice none 0 0, .int .i64 0, .int .i64 0, .int .u64 0, .string ({ data := #[] }), .string ({ data := #[] }), .int .u64 0, .int .i64 0, .string ({ data := #[] })] fun p28 =>
   .store ⟨p28, 0, none⟩ [.int .i64 i7, .int .i64 i8, .int .i64 i9, .int .u64 i10, .int .u64 i11, .int .u64 i12, .slice a13 n13 c13, .int .u64 i14, .int .u64 i15, .bool b16, .int .u64 i17, .int .u64 i18, .slice a19 n19 c19, .int .i64 i20, .int .i64 i21, .int .u64 i22, .string s23, .string s24, .int .u64 i25, .int .i64 i26, .string s27] <|
   .draw <|
   .load ⟨n, 0, none⟩ 1 fun v29 =>
   .exS fun a30 n30 c30 =>
   .isL v29 [.slice a30 n30 c30] <|
   .load ⟨p28, 0, none⟩ 21 fun v31 =>
   .exI fun i32 =>
   .exI fun i33 =>
   .exI fun i34 =>
   .exI fun i35 =>
   .exI fun i36 =>
   .exI fun i37 =>
   .exS fun a38 n38 c38 =>
   .exI fun i39 =>
   .exI fun i40 =>
   .exB fun b41 =>
   .exI fun i42 =>
   .exI fun i43 =>
   .exS fun a44 n44 c44 =>
   .exI fun i45 =>
   .exI fun i46 =>
   .exI fun i47 =>
   .exT fun s48 =>
   .exT fun s49 =>
   .exI fun i50 =>
   .exI fun i51 =>
   .exT fun s52 =>
   .isL v31 [.int .i64 i32, .int .i64 i33, .int .i64 i34, .int .u64 i35, .int .u64 i36, .int .u64 i37, .slice a38 n38 c38, .int .u64 i39, .int .u64 i40, .bool b41, .int .u64 i42, .int .u64 i43, .slice a44 n44 c44, .int .i64 i45, .int .i64 i46, .int .u64 i47, .string s48, .string s49, .int .u64 i50, .int .i64 i51, .string s52] <|
   .call 14 ([.agg #[.int .i64 i32, .int .i64 i33, .int .i64 i34, .int .u64 i35, .int .u64 i36, .int .u64 i37, .slice a38 n38 c38, .int .u64 i39, .int .u64 i40, .bool b41, .int .u64 i42, .int .u64 i43, .slice a44 n44 c44, .int .i64 i45, .int .i64 i46, .int .u64 i47, .string s48, .string s49, .int .u64 i50, .int .i64 i51, .string s52]]) fun v53 =>
   .exI fun i54 =>
   .exI fun i55 =>
   .exI fun i56 =>
   .exI fun i57 =>
   .exI fun i58 =>
   .exI fun i59 =>
   .exS fun a60 n60 c60 =>
   .exI fun i61 =>
   .exI fun i62 =>
   .exB fun b63 =>
   .exI fun i64 =>
   .exI fun i65 =>
   .exS fun a66 n66 c66 =>
   .exI fun i67 =>
   .exI fun i68 =>
   .exI fun i69 =>
   .exT fun s70 =>
   .exT fun s71 =>
   .exI fun i72 =>
   .exI fun i73 =>
   .exT fun s74 =>
   .isL [v53] [.agg #[.int .i64 i54, .int .i64 i55, .int .i64 i56, .int .u64 i57, .int .u64 i58, .int .u64 i59, .slice a60 n60 c60, .int .u64 i61, .int .u64 i62, .bool b63, .int .u64 i64, .int .u64 i65, .slice a66 n66 c66, .int .i64 i67, .int .i64 i68, .int .u64 i69, .string s70, .string s71, .int .u64 i72, .int .i64 i73, .string s74]] <|
   .hold [(⟨n, 0, none⟩, [.slice a30 n30 c30])] <|
   .new 38 [.int .i64 i54, .int .i64 i55, .int .i64 i56, .int .u64 i57, .int .u64 i58, .int .u64 i59, .slice a60 n60 c60, .int .u64 i61, .int .u64 i62, .bool b63, .int .u64 i64, .int .u64 i65, .slice a66 n66 c66, .int .i64 i67, .int .i64 i68, .int .u64 i69, .string s70, .string s71, .int .u64 i72, .int .i64 i73, .string s74] fun p75 =>
   .append 38 21 224 [.int .i64 0, .int .i64 0, .int .i64 0, .int .u64 0, .int .u64 0, .int .u64 0, .slice none 0 0, .int .u64 0, .int .u64 0, .bool false, .int .u64 0, .int .u64 0, .slice none 0 0, .int .i64 0, .int .i64 0, .int .u64 0, .string ({ data := #[] }), .string ({ data := #[] }), .int .u64 0, .int .i64 0, .string ({ data := #[] })] a30 n30 c30 (some ⟨p75, 0, none⟩) 1 fun a76 n76 c76 =>
   .store ⟨n, 0, none⟩ [.slice a76 n76 c76] <|
   .again 0 [.int .i64 (IntKind.i64.wrap (i4 + 1))])
  else
  (.ret (.int .i64 ((↑((if (if 0 > IntKind.i64.wrap (400 - (↑n2 : Int)) then 0 else IntKind.i64.wrap (400 - (↑n2 : Int))) < (↑ln : Int) then if 0 > IntKind.i64.wrap (400 - (↑n2 : Int)) then 0 else IntKind.i64.wrap (400 - (↑n2 : Int)) else (↑ln : Int)).toNat - 0) : Int)))))
theorem e7 (n : Nat) (la : Option Addr) (ln : Nat) (lc : Nat) : genFn Try.prog lv7 noM Try.f7 [.pointer (some ⟨n, 0, none⟩), .slice la ln lc] = t7 n la ln lc := by kernel_rfl
theorem r7 (n : Nat) (la : Option Addr) (ln : Nat) (lc : Nat) {R : Value → World → Prop} {w : World} (h : (t7 n la ln lc).wp Try.prog R (fun _ _ _ => False) w) : Runs Try.prog 7 [.pointer (some ⟨n, 0, none⟩), .slice la ln lc] w R :=
 genFn_runs mixed lv7 noM Try.func7 (by kernel_rfl) (by rw [e7]; exact h)
def t8 (n : Nat) (i : Int) : VC :=
 .new 38 [.int .i64 0, .int .i64 0, .int .i64 0, .int .u64 0, .int .u64 0, .int .u64 0, .slice none 0 0, .int .u64 0, .int .u64 0, .bool false, .int .u64 0, .int .u64 0, .slice none 0 0, .int .i64 0, .int .i64 0, .int .u64 0, .string ({ data := #[] }), .string ({ data := #[] }), .int .u64 0, .int .i64 0, .string ({ data := #[] })] fun p1 =>
 .call 11 ([.pointer (some ⟨n, 0, none⟩), .int .i64 i]) fun v2 =>
 .exI fun i3 =>
 .exI fun i4 =>
 .exI fun i5 =>
 .exI fun i6 =>
 .exI fun i7 =>
 .exI fun i8 =>
 .exS fun a9 n9 c9 =>
 .exI fun i10 =>
 .exI fun i11 =>
 .exB fun b12 =>
 .exI fun i13 =>
 .exI fun i14 =>
 .exS fun a15 n15 c15 =>
 .exI fun i16 =>
 .exI fun i17 =>
 .exI fun i18 =>
 .exT fun s19 =>
 .exT fun s20 =>
 .exI fun i21 =>
 .exI fun i22 =>
 .exT fun s23 =>
 .exI fun i24 =>
 .isL [v2] [.tuple #[.agg #[.int .i64 i3, .int .i64 i4, .int .i64 i5, .int .u64 i6, .int .u64 i7, .int .u64 i8, .slice a9 n9 c9, .int .u64 i10, .int .u64 i11, .bool b12, .int .u64 i13, .int .u64 i14, .slice a15 n15 c15, .int .i64 i16, .int .i64 i17, .int .u64 i18, .string s19, .string s20, .int .u64 i21, .int .i64 i22, .string s23], .int .i64 i24]] <|
 .new 38 [.int .i64 0, .int .i64 0, .int .i64 0, .int .u64 0, .int .u64 0, .int .u64 0, .slice none 0 0, .int .u64 0, .int .u64 0, .bool false, .int .u64 0, .int .u64 0, .slice none 0 0, .int .i64 0, .int .i64 0, .int .u64 0, .string ({ data := #[] }), .string ({ data := #[] }), .int .u64 0, .int .i64 0, .string ({ data := #[] })] fun p25 =>
 .store ⟨p25, 0, none⟩ [.int .i64 i3, .int .i64 i4, .int .i64 i5, .int .u64 i6, .int .u64 i7, .int .u64 i8, .slice a9 n9 c9, .int .u64 i10, .int .u64 i11, .bool b12, .int .u64 i13, .int .u64 i14, .slice a15 n15 c15, .int .i64 i16, .int .i64 i17, .int .u64 i18, .string s19, .string s20, .int .u64 i21, .int .i64 i22, .string s23] <|
 bif (i24 == 0) then
  (.load ⟨n, 0, none⟩ 1 fun v26 =>
  .exS fun a27 n27 c27 =>
  .isL v26 [.slice a27 n27 c27] <|
  .call 15 ([.slice a27 n27 c27, .int .i64 i, .int .i64 (IntKind.i64.wrap (i + 1))]) fun v28 =>
  .exS fun a29 n29 c29 =>
  .isL [v28] [.slice a29 n29 c29] <|
  .store ⟨n, 0, none⟩ [.slice a29 n29 c29] <|
  .load ⟨p25, 0, none⟩ 21 fun v30 =>
  .exI fun i31 =>
  .exI fun i32 =>
  .exI fun i33 =>
  .exI fun i34 =>
  .exI fun i35 =>
  .exI fun i36 =>
  .exS fun a37 n37 c37 =>
  .exI fun i38 =>
  .exI fun i39 =>
  .exB fun b40 =>
  .exI fun i41 =>
  .exI fun i42 =>
  .exS fun a43 n43 c43 =>
  .exI fun i44 =>
  .exI fun i45 =>
  .exI fun i46 =>
  .exT fun s47 =>
  .exT fun s48 =>
  .exI fun i49 =>
  .exI fun i50 =>
  .exT fun s51 =>
  .isL v30 [.int .i64 i31, .int .i64 i32, .int .i64 i33, .int .u64 i34, .int .u64 i35, .int .u64 i36, .slice a37 n37 c37, .int .u64 i38, .int .u64 i39, .bool b40, .int .u64 i41, .int .u64 i42, .slice a43 n43 c43, .int .i64 i44, .int .i64 i45, .int .u64 i46, .string s47, .string s48, .int .u64 i49, .int .i64 i50, .string s51] <|
  .store ⟨p1, 0, none⟩ [.int .i64 i31, .int .i64 i32, .int .i64 i33, .int .u64 i34, .int .u64 i35, .int .u64 i36, .slice a37 n37 c37, .int .u64 i38, .int .u64 i39, .bool b40, .int .u64 i41, .int .u64 i42, .slice a43 n43 c43, .int .i64 i44, .int .i64 i45, .int .u64 i46, .string s47, .string s48, .int .u64 i49, .int .i64 i50, .string s51] <|
  .load ⟨p1, 0, none⟩ 21 fun v52 =>
  .exI fun i53 =>
  .exI fun i54 =>
  .exI fun i55 =>
  .exI fun i56 =>
  .exI fun i57 =>
  .exI fun i58 =>
  .exS fun a59 n59 c59 =>
  .exI fun i60 =>
  .exI fun i61 =>
  .exB fun b62 =>
  .exI fun i63 =>
  .exI fun i64 =>
  .exS fun a65 n65 c65 =>
  .exI fun i66 =>
  .exI fun i67 =>
  .exI fun i68 =>
  .exT fun s69 =>
  .exT fun s70 =>
  .exI fun i71 =>
  .exI fun i72 =>
  .exT fun s73 =>
  .isL v52 [.int .i64 i53, .int .i64 i54, .int .i64 i55, .int .u64 i56, .int .u64 i57, .int .u64 i58, .slice a59 n59 c59, .int .u64 i60, .int .u64 i61, .bool b62, .int .u64 i63, .int .u64 i64, .slice a65 n65 c65, .int .i64 i66, .int .i64 i67, .int .u64 i68, .string s69, .string s70, .int .u64 i71, .int .i64 i72, .string s73] <|
  .ret (.tuple #[.agg #[.int .i64 i53, .int .i64 i54, .int .i64 i55, .int .u64 i56, .int .u64 i57, .int .u64 i58, .slice a59 n59 c59, .int .u64 i60, .int .u64 i61, .bool b62, .int .u64 i63, .int .u64 i64, .slice a65 n65 c65, .int .i64 i66, .int .i64 i67, .int .u64 i68, .string s69, .string s70, .int .u64 i71, .int .i64 i72, .string s73], .int .i64 i24]))
 else
 (.load ⟨p25, 0, none⟩ 21 fun v74 =>
 .exI fun i75 =>
 .exI fun i76 =>
 .exI fun i77 =>
 .exI fun i78 =>
 .exI fun i79 =>
 .exI fun i80 =>
 .exS fun a81 n81 c81 =>
 .exI fun i82 =>
 .exI fun i83 =>
 .exB fun b84 =>
 .exI fun i85 =>
 .exI fun i86 =>
 .exS fun a87 n87 c87 =>
 .exI fun i88 =>
 .exI fun i89 =>
 .exI fun i90 =>
 .exT fun s91 =>
 .exT fun s92 =>
 .exI fun i93 =>
 .exI fun i94 =>
 .exT fun s95 =>
 .isL v74 [.int .i64 i75, .int .i64 i76, .int .i64 i77, .int .u64 i78, .int .u64 i79, .int .u64 i80, .slice a81 n81 c81, .int .u64 i82, .int .u64 i83, .bool b84, .int .u64 i85, .int .u64 i86, .slice a87 n87 c87, .int .i64 i88, .int .i64 i89, .int .u64 i90, .string s91, .string s92, .int .u64 i93, .int .i64 i94, .string s95] <|
 .store ⟨p1, 0, none⟩ [.int .i64 i75, .int .i64 i76, .int .i64 i77, .int .u64 i78, .int .u64 i79, .int .u64 i80, .slice a81 n81 c81, .int .u64 i82, .int .u64 i83, .bool b84, .int .u64 i85, .int .u64 i86, .slice a87 n87 c87, .int .i64 i88, .int .i64 i89, .int .u64 i90, .string s91, .string s92, .int .u64 i93, .int .i64 i94, .string s95] <|
 .load ⟨p1, 0, none⟩ 21 fun v96 =>
 .exI fun i97 =>
 .exI fun i98 =>
 .exI fun i99 =>
 .exI fun i100 =>
 .exI fun i101 =>
 .exI fun i102 =>
 .exS fun a103 n103 c103 =>
 .exI fun i104 =>
 .exI fun i105 =>
 .exB fun b106 =>
 .exI fun i107 =>
 .exI fun i108 =>
 .exS fun a109 n109 c109 =>
 .exI fun i110 =>
 .exI fun i111 =>
 .exI fun i112 =>
 .exT fun s113 =>
 .exT fun s114 =>
 .exI fun i115 =>
 .exI fun i116 =>
 .exT fun s117 =>
 .isL v96 [.int .i64 i97, .int .i64 i98, .int .i64 i99, .int .u64 i100, .int .u64 i101, .int .u64 i102, .slice a103 n103 c103, .int .u64 i104, .int .u64 i105, .bool b106, .int .u64 i107, .int .u64 i108, .slice a109 n109 c109, .int .i64 i110, .int .i64 i111, .int .u64 i112, .string s113, .string s114, .int .u64 i115, .int .i64 i116, .string s117] <|
 .ret (.tuple #[.agg #[.int .i64 i97, .int .i64 i98, .int .i64 i99, .int .u64 i100, .int .u64 i101, .int .u64 i102, .slice a103 n103 c103, .int .u64 i104, .int .u64 i105, .bool b106, .int .u64 i107, .int .u64 i108, .slice a109 n109 c109, .int .i64 i110, .int .i64 i111, .int .u64 i112, .string s113, .string s114, .int .u64 i115, .int .i64 i116, .string s117], .int .i64 i24]))
theorem e8 (n : Nat) (i : Int) : genFn Try.prog noM noM Try.f8 [.pointer (some ⟨n, 0, none⟩), .int .i64 i] = t8 n i := by kernel_rfl
theorem r8 (n : Nat) (i : Int) {R : Value → World → Prop} {w : World} (h : (t8 n i).wp Try.prog R (fun _ _ _ => False) w) : Runs Try.prog 8 [.pointer (some ⟨n, 0, none⟩), .int .i64 i] w R :=
 genFn_runs mixed noM noM Try.func8 (by kernel_rfl) (by rw [e8]; exact h)
def t9 (a0 : Int) (a1 : Int) (a2 : Int) (a3 : Int) (a4 : Int) (a5 : Int) (a6a : Option Addr) (a6n : Nat) (a6c : Nat) (a7 : Int) (a8 : Int) (a9 : Bool) (a10 : Int) (a11 : Int) (a12a : Option Addr) (a12n : Nat) (a12c : Nat) (a13 : Int) (a14 : Int) (a15 : Int) (a16 : ByteArray) (a17 : ByteArray) (a18 : Int) (a19 : Int) (a20 : ByteArray) (b0 : Int) (b1 : Int) (b2 : Int) (b3 : Int) (b4 : Int) (b5 : Int) (b6a : Option Addr) (b6n : Nat) (b6c : Nat) (b7 : Int) (b8 : Int) (b9 : Bool) (b10 : Int) (b11 : Int) (b12a : Option Addr) (b12n : Nat) (b12c : Nat) (b13 : Int) (b14 : Int) (b15 : Int) (b16 : ByteArray) (b17 : ByteArray) (b18 : Int) (b19 : Int) (b20 : ByteArray) : VC :=
 .new 38 [.int .i64 a0, .int .i64 a1, .int .i64 a2, .int .u64 a3, .int .u64 a4, .int .u64 a5, .slice a6a a6n a6c, .int .u64 a7, .int .u64 a8, .bool a9, .int .u64 a10, .int .u64 a11, .slice a12a a12n a12c, .int .i64 a13, .int .i64 a14, .int .u64 a15, .string a16, .string a17, .int .u64 a18, .int .i64 a19, .string a20] fun p1 =>
 .new 38 [.int .i64 b0, .int .i64 b1, .int .i64 b2, .int .u64 b3, .int .u64 b4, .int .u64 b5, .slice b6a b6n b6c, .int .u64 b7, .int .u64 b8, .bool b9, .int .u64 b10, .int .u64 b11, .slice b12a b12n b12c, .int .i64 b13, .int .i64 b14, .int .u64 b15, .string b16, .string b17, .int .u64 b18, .int .i64 b19, .string b20] fun p2 =>
 .load ⟨p1, 0, none⟩ 1 fun v3 =>
 .exI fun i4 =>
 .isL v3 [.int .i64 i4] <|
 .load ⟨p2, 0, none⟩ 1 fun v5 =>
 .exI fun i6 =>
 .isL v5 [.int .i64 i6] <|
 bif (i4 == i6) then
  (.load ⟨p1, 1, none⟩ 1 fun v7 =>
  .exI fun i8 =>
  .isL v7 [.int .i64 i8] <|
  .load ⟨p2, 1, none⟩ 1 fun v9 =>
  .exI fun i10 =>
  .isL v9 [.int .i64 i10] <|
  bif (i8 == i10) then
   (.load ⟨p1, 2, none⟩ 1 fun v11 =>
   .exI fun i12 =>
   .isL v11 [.int .i64 i12] <|
   .load ⟨p2, 2, none⟩ 1 fun v13 =>
   .exI fun i14 =>
   .isL v13 [.int .i64 i14] <|
   bif (i12 == i14) then
    (.load ⟨p1, 3, none⟩ 1 fun v15 =>
    .exI fun i16 =>
    .isL v15 [.int .u64 i16] <|
    .load ⟨p2, 3, none⟩ 1 fun v17 =>
    .exI fun i18 =>
    .isL v17 [.int .u64 i18] <|
    bif (i16 == i18) then
     (.load ⟨p1, 4, none⟩ 1 fun v19 =>
     .exI fun i20 =>
     .isL v19 [.int .u64 i20] <|
     .load ⟨p2, 4, none⟩ 1 fun v21 =>
     .exI fun i22 =>
     .isL v21 [.int .u64 i22] <|
     bif (i20 == i22) then
      (.load ⟨p1, 5, none⟩ 1 fun v23 =>
      .exI fun i24 =>
      .isL v23 [.int .u64 i24] <|
      .load ⟨p2, 5, none⟩ 1 fun v25 =>
      .exI fun i26 =>
      .isL v25 [.int .u64 i26] <|
      bif (i24 == i26) then
       (.load ⟨p1, 7, none⟩ 1 fun v27 =>
       .exI fun i28 =>
       .isL v27 [.int .u64 i28] <|
       .load ⟨p2, 7, none⟩ 1 fun v29 =>
       .exI fun i30 =>
       .isL v29 [.int .u64 i30] <|
       bif (i28 == i30) then
        (.load ⟨p1, 8, none⟩ 1 fun v31 =>
        .exI fun i32 =>
        .isL v31 [.int .u64 i32] <|
        .load ⟨p2, 8, none⟩ 1 fun v33 =>
        .exI fun i34 =>
        .isL v33 [.int .u64 i34] <|
        bif (i32 == i34) then
         (.load ⟨p1, 9, none⟩ 1 fun v35 =>
         .exB fun b36 =>
         .isL v35 [.bool b36] <|
         .load ⟨p2, 9, none⟩ 1 fun v37 =>
         .exB fun b38 =>
         .isL v37 [.bool b38] <|
         bif (b36 == b38) then
          (.load ⟨p1, 6, none⟩ 1 fun v39 =>
          .exS fun a40 n40 c40 =>
          .isL v39 [.slice a40 n40 c40] <|
          .load ⟨p2, 6, none⟩ 1 fun v41 =>
          .exS fun a42 n42 c42 =>
          .isL v41 [.slice a42 n42 c42] <|
          .call 16 ([.slice a40 n40 c40, .slice a42 n42 c42]) fun v43 =>
          .exB fun b44 =>
          .isL [v43] [.bool b44] <|
          bif b44 then
           (.load ⟨p1, 10, none⟩ 3 fun v45 =>
           .exI fun i46 =>
           .exI fun i47 =>
           .exS fun a48 n48 c48 =>
           .isL v45 [.int .u64 i46, .int .u64 i47, .slice a48 n48 c48] <|
           .load ⟨p2, 10, none⟩ 3 fun v49 =>
           .exI fun i50 =>
           .exI fun i51 =>
           .exS fun a52 n52 c52 =>
           .isL v49 [.int .u64 i50, .int .u64 i51, .slice a52 n52 c52] <|
           .call 17 ([.agg #[.int .u64 i46, .int .u64 i47, .slice a48 n48 c48], .agg #[.int .u64 i50, .int .u64 i51, .slice a52 n52 c52]]) fun v53 =>
           .exB fun b54 =>
           .isL [v53] [.bool b54] <|
           bif b54 then
            (.load ⟨p1, 13, none⟩ 6 fun v55 =>
            .exI fun i56 =>
            .exI fun i57 =>
            .exI fun i58 =>
            .exT fun s59 =>
            .exT fun s60 =>
            .exI fun i61 =>
            .isL v55 [.int .i64 i56, .int .i64 i57, .int .u64 i58, .string s59, .string s60, .int .u64 i61] <|
            .load ⟨p2, 13, none⟩ 6 fun v62 =>
            .exI fun i63 =>
            .exI fun i64 =>
            .exI fun i65 =>
            .exT fun s66 =>
            .exT fun s67 =>
            .exI fun i68 =>
            .isL v62 [.int .i64 i63, .int .i64 i64, .int .u64 i65, .string s66, .string s67, .int .u64 i68] <|
            bif (i56 == i63 && (i57 == i64 && (i58 == i65 && (s59.toList == s66.toList && (s60.toList == s67.toList && (i61 == i68 && true)))))) then
             (.load ⟨p1, 19, none⟩ 2 fun v69 =>
             .exI fun i70 =>
             .exT fun s71 =>
             .isL v69 [.int .i64 i70, .string s71] <|
             .load ⟨p2, 19, none⟩ 2 fun v72 =>
             .exI fun i73 =>
             .exT fun s74 =>
             .isL v72 [.int .i64 i73, .string s74] <|
             .ret (.bool (i70 == i73 && (s71.toList == s74.toList && true))))
            else
            (.ret (.bool false)))
           else
           (.ret (.bool false)))
          else
          (.ret (.bool false)))
         else
         (.ret (.bool false)))
        else
        (.ret (.bool false)))
       else
       (.ret (.bool false)))
      else
      (.ret (.bool false)))
     else
     (.ret (.bool false)))
    else
    (.ret (.bool false)))
   else
   (.ret (.bool false)))
  else
  (.ret (.bool false)))
 else
 (.ret (.bool false))
theorem e9 (a0 : Int) (a1 : Int) (a2 : Int) (a3 : Int) (a4 : Int) (a5 : Int) (a6a : Option Addr) (a6n : Nat) (a6c : Nat) (a7 : Int) (a8 : Int) (a9 : Bool) (a10 : Int) (a11 : Int) (a12a : Option Addr) (a12n : Nat) (a12c : Nat) (a13 : Int) (a14 : Int) (a15 : Int) (a16 : ByteArray) (a17 : ByteArray) (a18 : Int) (a19 : Int) (a20 : ByteArray) (b0 : Int) (b1 : Int) (b2 : Int) (b3 : Int) (b4 : Int) (b5 : Int) (b6a : Option Addr) (b6n : Nat) (b6c : Nat) (b7 : Int) (b8 : Int) (b9 : Bool) (b10 : Int) (b11 : Int) (b12a : Option Addr) (b12n : Nat) (b12c : Nat) (b13 : Int) (b14 : Int) (b15 : Int) (b16 : ByteArray) (b17 : ByteArray) (b18 : Int) (b19 : Int) (b20 : ByteArray) : genFn Try.prog noM noM Try.f9 [.agg #[.int .i64 a0, .int .i64 a1, .int .i64 a2, .int .u64 a3, .int .u64 a4, .int .u64 a5, .slice a6a a6n a6c, .int .u64 a7, .int .u64 a8, .bool a9, .int .u64 a10, .int .u64 a11, .slice a12a a12n a12c, .int .i64 a13, .int .i64 a14, .int .u64 a15, .string a16, .string a17, .int .u64 a18, .int .i64 a19, .string a20], .agg #[.int .i64 b0, .int .i64 b1, .int .i64 b2, .int .u64 b3, .int .u64 b4, .int .u64 b5, .slice b6a b6n b6c, .int .u64 b7, .int .u64 b8, .bool b9, .int .u64 b10, .int .u64 b11, .slice b12a b12n b12c, .int .i64 b13, .int .i64 b14, .int .u64 b15, .string b16, .string b17, .int .u64 b18, .int .i64 b19, .string b20]] = t9 a0 a1 a2 a3 a4 a5 a6a a6n a6c a7 a8 a9 a10 a11 a12a a12n a12c a13 a14 a15 a16 a17 a18 a19 a20 b0 b1 b2 b3 b4 b5 b6a b6n b6c b7 b8 b9 b10 b11 b12a b12n b12c b13 b14 b15 b16 b17 b18 b19 b20 := by kernel_rfl
theorem r9 (a0 : Int) (a1 : Int) (a2 : Int) (a3 : Int) (a4 : Int) (a5 : Int) (a6a : Option Addr) (a6n : Nat) (a6c : Nat) (a7 : Int) (a8 : Int) (a9 : Bool) (a10 : Int) (a11 : Int) (a12a : Option Addr) (a12n : Nat) (a12c : Nat) (a13 : Int) (a14 : Int) (a15 : Int) (a16 : ByteArray) (a17 : ByteArray) (a18 : Int) (a19 : Int) (a20 : ByteArray) (b0 : Int) (b1 : Int) (b2 : Int) (b3 : Int) (b4 : Int) (b5 : Int) (b6a : Option Addr) (b6n : Nat) (b6c : Nat) (b7 : Int) (b8 : Int) (b9 : Bool) (b10 : Int) (b11 : Int) (b12a : Option Addr) (b12n : Nat) (b12c : Nat) (b13 : Int) (b14 : Int) (b15 : Int) (b16 : ByteArray) (b17 : ByteArray) (b18 : Int) (b19 : Int) (b20 : ByteArray) {R : Value → World → Prop} {w : World} (h : (t9 a0 a1 a2 a3 a4 a5 a6a a6n a6c a7 a8 a9 a10 a11 a12a a12n a12c a13 a14 a15 a16 a17 a18 a19 a20 b0 b1 b2 b3 b4 b5 b6a b6n b6c b7 b8 b9 b10 b11 b12a b12n b12c b13 b14 b15 b16 b17 b18 b19 b20).wp Try.prog R (fun _ _ _ => False) w) : Runs Try.prog 9 [.agg #[.int .i64 a0, .int .i64 a1, .int .i64 a2, .int .u64 a3, .int .u64 a4, .int .u64 a5, .slice a6a a6n a6c, .int .u64 a7, .int .u64 a8, .bool a9, .int .u64 a10, .int .u64 a11, .slice a12a a12n a12c, .int .i64 a13, .int .i64 a14, .int .u64 a15, .string a16, .string a17, .int .u64 a18, .int .i64 a19, .string a20], .agg #[.int .i64 b0, .int .i64 b1, .int .i64 b2, .int .u64 b3, .int .u64 b4, .int .u64 b5, .slice b6a b6n b6c, .int .u64 b7, .int .u64 b8, .bool b9, .int .u64 b10, .int .u64 b11, .slice b12a b12n b12c, .int .i64 b13, .int .i64 b14, .int .u64 b15, .string b16, .string b17, .int .u64 b18, .int .i64 b19, .string b20]] w R :=
 genFn_runs mixed noM noM Try.func9 (by kernel_rfl) (by rw [e9]; exact h)
def t10 (n : Nat) : VC :=
 .load ⟨n, 0, none⟩ 1 fun v1 =>
 .exS fun a2 n2 c2 =>
 .isL v1 [.slice a2 n2 c2] <|
 .ret (.int .i64 ((↑n2 : Int)))
theorem e10 (n : Nat) : genFn Try.prog noM noM Try.f10 [.pointer (some ⟨n, 0, none⟩)] = t10 n := by kernel_rfl
theorem r10 (n : Nat) {R : Value → World → Prop} {w : World} (h : (t10 n).wp Try.prog R (fun _ _ _ => False) w) : Runs Try.prog 10 [.pointer (some ⟨n, 0, none⟩)] w R :=
 genFn_runs mixed noM noM Try.func10 (by kernel_rfl) (by rw [e10]; exact h)
def t11 (n : Nat) (i : Int) : VC :=
 .new 38 [.int .i64 0, .int .i64 0, .int .i64 0, .int .u64 0, .int .u64 0, .int .u64 0, .slice none 0 0, .int .u64 0, .int .u64 0, .bool false, .int .u64 0, .int .u64 0, .slice none 0 0, .int .i64 0, .int .i64 0, .int .u64 0, .string ({ data := #[] }), .string ({ data := #[] }), .int .u64 0, .int .i64 0, .string ({ data := #[] })] fun p1 =>
 .call 18 ([.pointer (some ⟨n, 0, none⟩), .int .i64 i]) fun v2 =>
 .exB fun b3 =>
 .isL [v2] [.bool b3] <|
 bif !b3 then
  (.store ⟨p1, 0, none⟩ [.int .i64 0, .int .i64 0, .int .i64 0, .int .u64 0, .int .u64 0, .int .u64 0, .slice none 0 0, .int .u64 0, .int .u64 0, .bool false, .int .u64 0, .int .u64 0, .slice none 0 0, .int .i64 0, .int .i64 0, .int .u64 0, .string ({ data := #[] }), .string ({ data := #[] }), .int .u64 0, .int .i64 0, .string ({ data := #[] })] <|
  .load ⟨p1, 0, none⟩ 21 fun v4 =>
  .exI fun i5 =>
  .exI fun i6 =>
  .exI fun i7 =>
  .exI fun i8 =>
  .exI fun i9 =>
  .exI fun i10 =>
  .exS fun a11 n11 c11 =>
  .exI fun i12 =>
  .exI fun i13 =>
  .exB fun b14 =>
  .exI fun i15 =>
  .exI fun i16 =>
  .exS fun a17 n17 c17 =>
  .exI fun i18 =>
  .exI fun i19 =>
  .exI fun i20 =>
  .exT fun s21 =>
  .exT fun s22 =>
  .exI fun i23 =>
  .exI fun i24 =>
  .exT fun s25 =>
  .isL v4 [.int .i64 i5, .int .i64 i6, .int .i64 i7, .int .u64 i8, .int .u64 i9, .int .u64 i10, .slice a11 n11 c11, .int .u64 i12, .int .u64 i13, .bool b14, .int .u64 i15, .int .u64 i16, .slice a17 n17 c17, .int .i64 i18, .int .i64 i19, .int .u64 i20, .string s21, .string s22, .int .u64 i23, .int .i64 i24, .string s25] <|
  .ret (.tuple #[.agg #[.int .i64 i5, .int .i64 i6, .int .i64 i7, .int .u64 i8, .int .u64 i9, .int .u64 i10, .slice a11 n11 c11, .int .u64 i12, .int .u64 i13, .bool b14, .int .u64 i15, .int .u64 i16, .slice a17 n17 c17, .int .i64 i18, .int .i64 i19, .int .u64 i20, .string s21, .string s22, .int .u64 i23, .int .i64 i24, .string s25], .int .i64 10]))
 else
 (.load ⟨n, 0, none⟩ 1 fun v26 =>
 .exS fun a27 n27 c27 =>
 .isL v26 [.slice a27 n27 c27] <|
 .some a27 fun x28 =>
 .need ((0 : Int) ≤ i ∧ i < (↑n27 : Int)) <|
 .load (x28.add (i.toNat * 21)) 21 fun v29 =>
 .exI fun i30 =>
 .exI fun i31 =>
 .exI fun i32 =>
 .exI fun i33 =>
 .exI fun i34 =>
 .exI fun i35 =>
 .exS fun a36 n36 c36 =>
 .exI fun i37 =>
 .exI fun i38 =>
 .exB fun b39 =>
 .exI fun i40 =>
 .exI fun i41 =>
 .exS fun a42 n42 c42 =>
 .exI fun i43 =>
 .exI fun i44 =>
 .exI fun i45 =>
 .exT fun s46 =>
 .exT fun s47 =>
 .exI fun i48 =>
 .exI fun i49 =>
 .exT fun s50 =>
 .isL v29 [.int .i64 i30, .int .i64 i31, .int .i64 i32, .int .u64 i33, .int .u64 i34, .int .u64 i35, .slice a36 n36 c36, .int .u64 i37, .int .u64 i38, .bool b39, .int .u64 i40, .int .u64 i41, .slice a42 n42 c42, .int .i64 i43, .int .i64 i44, .int .u64 i45, .string s46, .string s47, .int .u64 i48, .int .i64 i49, .string s50] <|
 .call 14 ([.agg #[.int .i64 i30, .int .i64 i31, .int .i64 i32, .int .u64 i33, .int .u64 i34, .int .u64 i35, .slice a36 n36 c36, .int .u64 i37, .int .u64 i38, .bool b39, .int .u64 i40, .int .u64 i41, .slice a42 n42 c42, .int .i64 i43, .int .i64 i44, .int .u64 i45, .string s46, .string s47, .int .u64 i48, .int .i64 i49, .string s50]]) fun v51 =>
 .exI fun i52 =>
 .exI fun i53 =>
 .exI fun i54 =>
 .exI fun i55 =>
 .exI fun i56 =>
 .exI fun i57 =>
 .exS fun a58 n58 c58 =>
 .exI fun i59 =>
 .exI fun i60 =>
 .exB fun b61 =>
 .exI fun i62 =>
 .exI fun i63 =>
 .exS fun a64 n64 c64 =>
 .exI fun i65 =>
 .exI fun i66 =>
 .exI fun i67 =>
 .exT fun s68 =>
 .exT fun s69 =>
 .exI fun i70 =>
 .exI fun i71 =>
 .exT fun s72 =>
 .isL [v51] [.agg #[.int .i64 i52, .int .i64 i53, .int .i64 i54, .int .u64 i55, .int .u64 i56, .int .u64 i57, .slice a58 n58 c58, .int .u64 i59, .int .u64 i60, .bool b61, .int .u64 i62, .int .u64 i63, .slice a64 n64 c64, .int .i64 i65, .int .i64 i66, .int .u64 i67, .string s68, .string s69, .int .u64 i70, .int .i64 i71, .string s72]] <|
 .store ⟨p1, 0, none⟩ [.int .i64 i52, .int .i64 i53, .int .i64 i54, .int .u64 i55, .int .u64 i56, .int .u64 i57, .slice a58 n58 c58, .int .u64 i59, .int .u64 i60, .bool b61, .int .u64 i62, .int .u64 i63, .slice a64 n64 c64, .int .i64 i65, .int .i64 i66, .int .u64 i67, .string s68, .string s69, .int .u64 i70, .int .i64 i71, .string s72] <|
 .load ⟨p1, 0, none⟩ 21 fun v73 =>
 .exI fun i74 =>
 .exI fun i75 =>
 .exI fun i76 =>
 .exI fun i77 =>
 .exI fun i78 =>
 .exI fun i79 =>
 .exS fun a80 n80 c80 =>
 .exI fun i81 =>
 .exI fun i82 =>
 .exB fun b83 =>
 .exI fun i84 =>
 .exI fun i85 =>
 .exS fun a86 n86 c86 =>
 .exI fun i87 =>
 .exI fun i88 =>
 .exI fun i89 =>
 .exT fun s90 =>
 .exT fun s91 =>
 .exI fun i92 =>
 .exI fun i93 =>
 .exT fun s94 =>
 .isL v73 [.int .i64 i74, .int .i64 i75, .int .i64 i76, .int .u64 i77, .int .u64 i78, .int .u64 i79, .slice a80 n80 c80, .int .u64 i81, .int .u64 i82, .bool b83, .int .u64 i84, .int .u64 i85, .slice a86 n86 c86, .int .i64 i87, .int .i64 i88, .int .u64 i89, .string s90, .string s91, .int .u64 i92, .int .i64 i93, .string s94] <|
 .ret (.tuple #[.agg #[.int .i64 i74, .int .i64 i75, .int .i64 i76, .int .u64 i77, .int .u64 i78, .int .u64 i79, .slice a80 n80 c80, .int .u64 i81, .int .u64 i82, .bool b83, .int .u64 i84, .int .u64 i85, .slice a86 n86 c86, .int .i64 i87, .int .i64 i88, .int .u64 i89, .string s90, .string s91, .int .u64 i92, .int .i64 i93, .string s94], .int .i64 0]))
theorem e11 (n : Nat) (i : Int) : genFn Try.prog noM noM Try.f11 [.pointer (some ⟨n, 0, none⟩), .int .i64 i] = t11 n i := by kernel_rfl
theorem r11 (n : Nat) (i : Int) {R : Value → World → Prop} {w : World} (h : (t11 n i).wp Try.prog R (fun _ _ _ => False) w) : Runs Try.prog 11 [.pointer (some ⟨n, 0, none⟩), .int .i64 i] w R :=
 genFn_runs mixed noM noM Try.func11 (by kernel_rfl) (by rw [e11]; exact h)
def t12 (n : Nat) (i : Int) : VC :=
 .call 11 ([.pointer (some ⟨n, 0, none⟩), .int .i64 i]) fun v1 =>
 .exI fun i2 =>
 .exI fun i3 =>
 .exI fun i4 =>
 .exI fun i5 =>
 .exI fun i6 =>
 .exI fun i7 =>
 .exS fun a8 n8 c8 =>
 .exI fun i9 =>
 .exI fun i10 =>
 .exB fun b11 =>
 .exI fun i12 =>
 .exI fun i13 =>
 .exS fun a14 n14 c14 =>
 .exI fun i15 =>
 .exI fun i16 =>
 .exI fun i17 =>
 .exT fun s18 =>
 .exT fun s19 =>
 .exI fun i20 =>
 .exI fun i21 =>
 .exT fun s22 =>
 .exI fun i23 =>
 .isL [v1] [.tuple #[.agg #[.int .i64 i2, .int .i64 i3, .int .i64 i4, .int .u64 i5, .int .u64 i6, .int .u64 i7, .slice a8 n8 c8, .int .u64 i9, .int .u64 i10, .bool b11, .int .u64 i12, .int .u64 i13, .slice a14 n14 c14, .int .i64 i15, .int .i64 i16, .int .u64 i17, .string s18, .string s19, .int .u64 i20, .int .i64 i21, .string s22], .int .i64 i23]] <|
 .new 38 [.int .i64 0, .int .i64 0, .int .i64 0, .int .u64 0, .int .u64 0, .int .u64 0, .slice none 0 0, .int .u64 0, .int .u64 0, .bool false, .int .u64 0, .int .u64 0, .slice none 0 0, .int .i64 0, .int .i64 0, .int .u64 0, .string ({ data := #[] }), .string ({ data := #[] }), .int .u64 0, .int .i64 0, .string ({ data := #[] })] fun p24 =>
 .store ⟨p24, 0, none⟩ [.int .i64 i2, .int .i64 i3, .int .i64 i4, .int .u64 i5, .int .u64 i6, .int .u64 i7, .slice a8 n8 c8, .int .u64 i9, .int .u64 i10, .bool b11, .int .u64 i12, .int .u64 i13, .slice a14 n14 c14, .int .i64 i15, .int .i64 i16, .int .u64 i17, .string s18, .string s19, .int .u64 i20, .int .i64 i21, .string s22] <|
 bif (i23 == 0) then
  (.load ⟨p24, 0, none⟩ 21 fun v25 =>
  .exI fun i26 =>
  .exI fun i27 =>
  .exI fun i28 =>
  .exI fun i29 =>
  .exI fun i30 =>
  .exI fun i31 =>
  .exS fun a32 n32 c32 =>
  .exI fun i33 =>
  .exI fun i34 =>
  .exB fun b35 =>
  .exI fun i36 =>
  .exI fun i37 =>
  .exS fun a38 n38 c38 =>
  .exI fun i39 =>
  .exI fun i40 =>
  .exI fun i41 =>
  .exT fun s42 =>
  .exT fun s43 =>
  .exI fun i44 =>
  .exI fun i45 =>
  .exT fun s46 =>
  .isL v25 [.int .i64 i26, .int .i64 i27, .int .i64 i28, .int .u64 i29, .int .u64 i30, .int .u64 i31, .slice a32 n32 c32, .int .u64 i33, .int .u64 i34, .bool b35, .int .u64 i36, .int .u64 i37, .slice a38 n38 c38, .int .i64 i39, .int .i64 i40, .int .u64 i41, .string s42, .string s43, .int .u64 i44, .int .i64 i45, .string s46] <|
  .new 38 [.int .i64 i26, .int .i64 i27, .int .i64 i28, .int .u64 i29, .int .u64 i30, .int .u64 i31, .slice a32 n32 c32, .int .u64 i33, .int .u64 i34, .bool b35, .int .u64 i36, .int .u64 i37, .slice a38 n38 c38, .int .i64 i39, .int .i64 i40, .int .u64 i41, .string s42, .string s43, .int .u64 i44, .int .i64 i45, .string s46] fun p47 =>
  .call 7 ([.pointer (some ⟨n, 0, none⟩), .slice (some ⟨p47, 0, none⟩) 1 1]) fun v48 =>
  .exI fun i49 =>
  .isL [v48] [.int .i64 i49] <|
  bif (i49 == 0) then
   (.ret (.int .i64 12))
  else
  (.ret (.int .i64 i23)))
 else
 (.ret (.int .i64 i23))
theorem e12 (n : Nat) (i : Int) : genFn Try.prog noM noM Try.f12 [.pointer (some ⟨n, 0, none⟩), .int .i64 i] = t12 n i := by kernel_rfl
theorem r12 (n : Nat) (i : Int) {R : Value → World → Prop} {w : World} (h : (t12 n i).wp Try.prog R (fun _ _ _ => False) w) : Runs Try.prog 12 [.pointer (some ⟨n, 0, none⟩), .int .i64 i] w R :=
 genFn_runs mixed noM noM Try.func12 (by kernel_rfl) (by rw [e12]; exact h)
def t13 (n : Nat) (i : Int) : VC :=
 .call 8 ([.pointer (some ⟨n, 0, none⟩), .int .i64 i]) fun v1 =>
 .exI fun i2 =>
 .exI fun i3 =>
 .exI fun i4 =>
 .exI fun i5 =>
 .exI fun i6 =>
 .exI fun i7 =>
 .exS fun a8 n8 c8 =>
 .exI fun i9 =>
 .exI fun i10 =>
 .exB fun b11 =>
 .exI fun i12 =>
 .exI fun i13 =>
 .exS fun a14 n14 c14 =>
 .exI fun i15 =>
 .exI fun i16 =>
 .exI fun i17 =>
 .exT fun s18 =>
 .exT fun s19 =>
 .exI fun i20 =>
 .exI fun i21 =>
 .exT fun s22 =>
 .exI fun i23 =>
 .isL [v1] [.tuple #[.agg #[.int .i64 i2, .int .i64 i3, .int .i64 i4, .int .u64 i5, .int .u64 i6, .int .u64 i7, .slice a8 n8 c8, .int .u64 i9, .int .u64 i10, .bool b11, .int .u64 i12, .int .u64 i13, .slice a14 n14 c14, .int .i64 i15, .int .i64 i16, .int .u64 i17, .string s18, .string s19, .int .u64 i20, .int .i64 i21, .string s22], .int .i64 i23]] <|
 .new 38 [.int .i64 0, .int .i64 0, .int .i64 0, .int .u64 0, .int .u64 0, .int .u64 0, .slice none 0 0, .int .u64 0, .int .u64 0, .bool false, .int .u64 0, .int .u64 0, .slice none 0 0, .int .i64 0, .int .i64 0, .int .u64 0, .string ({ data := #[] }), .string ({ data := #[] }), .int .u64 0, .int .i64 0, .string ({ data := #[] })] fun p24 =>
 .store ⟨p24, 0, none⟩ [.int .i64 i2, .int .i64 i3, .int .i64 i4, .int .u64 i5, .int .u64 i6, .int .u64 i7, .slice a8 n8 c8, .int .u64 i9, .int .u64 i10, .bool b11, .int .u64 i12, .int .u64 i13, .slice a14 n14 c14, .int .i64 i15, .int .i64 i16, .int .u64 i17, .string s18, .string s19, .int .u64 i20, .int .i64 i21, .string s22] <|
 .ret (.int .i64 i23)
theorem e13 (n : Nat) (i : Int) : genFn Try.prog noM noM Try.f13 [.pointer (some ⟨n, 0, none⟩), .int .i64 i] = t13 n i := by kernel_rfl
theorem r13 (n : Nat) (i : Int) {R : Value → World → Prop} {w : World} (h : (t13 n i).wp Try.prog R (fun _ _ _ => False) w) : Runs Try.prog 13 [.pointer (some ⟨n, 0, none⟩), .int .i64 i] w R :=
 genFn_runs mixed noM noM Try.func13 (by kernel_rfl) (by rw [e13]; exact h)
def lv14 : Marks := (fun | some 3 => some [(11, .int .i64 0)] | _ => none)
def t14 (m0 : Int) (m1 : Int) (m2 : Int) (m3 : Int) (m4 : Int) (m5 : Int) (m6a : Option Addr) (m6n : Nat) (m6c : Nat) (m7 : Int) (m8 : Int) (m9 : Bool) (m10 : Int) (m11 : Int) (m12a : Option Addr) (m12n : Nat) (m12c : Nat) (m13 : Int) (m14 : Int) (m15 : Int) (m16 : ByteArray) (m17 : ByteArray) (m18 : Int) (m19 : Int) (m20 : ByteArray) : VC :=
 .new 38 [.int .i64 m0, .int .i64 m1, .int .i64 m2, .int .u64 m3, .int .u64 m4, .int .u64 m5, .slice m6a m6n m6c, .int .u64 m7, .int .u64 m8, .bool m9, .int .u64 m10, .int .u64 m11, .slice m12a m12n m12c, .int .i64 m13, .int .i64 m14, .int .u64 m15, .string m16, .string m17, .int .u64 m18, .int .i64 m19, .string m20] fun p1 =>
 .new 38 [.int .i64 0, .int .i64 0, .int .i64 0, .int .u64 0, .int .u64 0, .int .u64 0, .slice none 0 0, .int .u64 0, .int .u64 0, .bool false, .int .u64 0, .int .u64 0, .slice none 0 0, .int .i64 0, .int .i64 0, .int .u64 0, .string ({ data := #[] }), .string ({ data := #[] }), .int .u64 0, .int .i64 0, .string ({ data := #[] })] fun p2 =>
 .load ⟨p1, 6, none⟩ 1 fun v3 =>
 .exS fun a4 n4 c4 =>
 .isL v3 [.slice a4 n4 c4] <|
 .call 19 ([.slice a4 n4 c4]) fun v5 =>
 .exS fun a6 n6 c6 =>
 .isL [v5] [.slice a6 n6 c6] <|
 .store ⟨p1, 6, none⟩ [.slice a6 n6 c6] <|
 .load ⟨p1, 6, none⟩ 1 fun v7 =>
 .exS fun a8 n8 c8 =>
 .isL v7 [.slice a8 n8 c8] <|
 .loop 0 [.int .i64 0] (fun v9 =>
  .exI fun i10 =>
  .isL v9 [.int .i64 i10] <|
  bif (decide (i10 < (↑n8 : Int))) then
   (.draw <|
   .load ⟨p1, 6, none⟩ 1 fun v11 =>
   .exS fun a12 n12 c12 =>
   .isL v11 [.slice a12 n12 c12] <|
   .load ⟨p1, 6, none⟩ 1 fun v13 =>
   .exS fun a14 n14 c14 =>
   .isL v13 [.slice a14 n14 c14] <|
   .some a14 fun x15 =>
   .need ((0 : Int) ≤ i10 ∧ i10 < (↑n14 : Int)) <|
   .load ((x15.add (i10.toNat * 2)).add 1) 1 fun v16 =>
   .exS fun a17 n17 c17 =>
   .isL v16 [.slice a17 n17 c17] <|
   .call 20 ([.slice a17 n17 c17]) fun v18 =>
   .exS fun a19 n19 c19 =>
   .isL [v18] [.slice a19 n19 c19] <|
   .hold [(⟨p1, 6, none⟩, [.slice a12 n12 c12])] <|
   .some a12 fun x20 =>
   .need ((0 : Int) ≤ i10 ∧ i10 < (↑n12 : Int)) <|
   .store ((x20.add (i10.toNat * 2)).add 1) [.slice a19 n19 c19] <|
   .again 0 [.int .i64 (IntKind.i64.wrap (i10 + 1))])
  else
  (.load ⟨p1, 12, none⟩ 1 fun v21 =>
  .exS fun a22 n22 c22 =>
  .isL v21 [.slice a22 n22 c22] <|
  .call 20 ([.slice a22 n22 c22]) fun v23 =>
  .exS fun a24 n24 c24 =>
  .isL [v23] [.slice a24 n24 c24] <|
  .store ⟨p1, 12, none⟩ [.slice a24 n24 c24] <|
  .load ⟨p1, 0, none⟩ 21 fun v25 =>
  .exI fun i26 =>
  .exI fun i27 =>
  .exI fun i28 =>
  .exI fun i29 =>
  .exI fun i30 =>
  .exI fun i31 =>
  .exS fun a32 n32 c32 =>
  .exI fun i33 =>
  .exI fun i34 =>
  .exB fun b35 =>
  .exI fun i36 =>
  .exI fun i37 =>
  .exS fun a38 n38 c38 =>
  .exI fun i39 =>
  .exI fun i40 =>
  .exI fun i41 =>
  .exT fun s42 =>
  .exT fun s43 =>
  .exI fun i44 =>
  .exI fun i45 =>
  .exT fun s46 =>
  .isL v25 [.int .i64 i26, .int .i64 i27, .int .i64 i28, .int .u64 i29, .int .u64 i30, .int .u64 i31, .slice a32 n32 c32, .int .u64 i33, .int .u64 i34, .bool b35, .int .u64 i36, .int .u64 i37, .slice a38 n38 c38, .int .i64 i39, .int .i64 i40, .int .u64 i41, .string s42, .string s43, .int .u64 i44, .int .i64 i45, .string s46] <|
  .store ⟨p2, 0, none⟩ [.int .i64 i26, .int .i64 i27, .int .i64 i28, .int .u64 i29, .int .u64 i30, .int .u64 i31, .slice a32 n32 c32, .int .u64 i33, .int .u64 i34, .bool b35, .int .u64 i36, .int .u64 i37, .slice a38 n38 c38, .int .i64 i39, .int .i64 i40, .int .u64 i41, .string s42, .string s43, .int .u64 i44, .int .i64 i45, .string s46] <|
  .load ⟨p2, 0, none⟩ 21 fun v47 =>
  .exI fun i48 =>
  .exI fun i49 =>
  .exI fun i50 =>
  .exI fun i51 =>
  .exI fun i52 =>
  .exI fun i53 =>
  .exS fun a54 n54 c54 =>
  .exI fun i55 =>
  .exI fun i56 =>
  .exB fun b57 =>
  .exI fun i58 =>
  .exI fun i59 =>
  .exS fun a60 n60 c60 =>
  .exI fun i61 =>
  .exI fun i62 =>
  .exI fun i63 =>
  .exT fun s64 =>
  .exT fun s65 =>
  .exI fun i66 =>
  .exI fun i67 =>
  .exT fun s68 =>
  .isL v47 [.int .i64 i48, .int .i64 i49, .int .i64 i50, .int .u64 i51, .int .u64 i52, .int .u64 i53, .slice a54 n54 c54, .int .u64 i55, .int .u64 i56, .bool b57, .int .u64 i58, .int .u64 i59, .slice a60 n60 c60, .int .i64 i61, .int .i64 i62, .int .u64 i63, .string s64, .string s65, .int .u64 i66, .int .i64 i67, .string s68] <|
  .ret (.agg #[.int .i64 i48, .int .i64 i49, .int .i64 i50, .int .u64 i51, .int .u64 i52, .int .u64 i53, .slice a54 n54 c54, .int .u64 i55, .int .u64 i56, .bool b57, .int .u64 i58, .int .u64 i59, .slice a60 n60 c60, .int .i64 i61, .int .i64 i62, .int .u64 i63, .string s64, .string s65, .int .u64 i66, .int .i64 i67, .string s68])))
theorem e14 (m0 : Int) (m1 : Int) (m2 : Int) (m3 : Int) (m4 : Int) (m5 : Int) (m6a : Option Addr) (m6n : Nat) (m6c : Nat) (m7 : Int) (m8 : Int) (m9 : Bool) (m10 : Int) (m11 : Int) (m12a : Option Addr) (m12n : Nat) (m12c : Nat) (m13 : Int) (m14 : Int) (m15 : Int) (m16 : ByteArray) (m17 : ByteArray) (m18 : Int) (m19 : Int) (m20 : ByteArray) : genFn Try.prog lv14 noM Try.f14 [.agg #[.int .i64 m0, .int .i64 m1, .int .i64 m2, .int .u64 m3, .int .u64 m4, .int .u64 m5, .slice m6a m6n m6c, .int .u64 m7, .int .u64 m8, .bool m9, .int .u64 m10, .int .u64 m11, .slice m12a m12n m12c, .int .i64 m13, .int .i64 m14, .int .u64 m15, .string m16, .string m17, .int .u64 m18, .int .i64 m19, .string m20]] = t14 m0 m1 m2 m3 m4 m5 m6a m6n m6c m7 m8 m9 m10 m11 m12a m12n m12c m13 m14 m15 m16 m17 m18 m19 m20 := by kernel_rfl
theorem r14 (m0 : Int) (m1 : Int) (m2 : Int) (m3 : Int) (m4 : Int) (m5 : Int) (m6a : Option Addr) (m6n : Nat) (m6c : Nat) (m7 : Int) (m8 : Int) (m9 : Bool) (m10 : Int) (m11 : Int) (m12a : Option Addr) (m12n : Nat) (m12c : Nat) (m13 : Int) (m14 : Int) (m15 : Int) (m16 : ByteArray) (m17 : ByteArray) (m18 : Int) (m19 : Int) (m20 : ByteArray) {R : Value → World → Prop} {w : World} (h : (t14 m0 m1 m2 m3 m4 m5 m6a m6n m6c m7 m8 m9 m10 m11 m12a m12n m12c m13 m14 m15 m16 m17 m18 m19 m20).wp Try.prog R (fun _ _ _ => False) w) : Runs Try.prog 14 [.agg #[.int .i64 m0, .int .i64 m1, .int .i64 m2, .int .u64 m3, .int .u64 m4, .int .u64 m5, .slice m6a m6n m6c, .int .u64 m7, .int .u64 m8, .bool m9, .int .u64 m10, .int .u64 m11, .slice m12a m12n m12c, .int .i64 m13, .int .i64 m14, .int .u64 m15, .string m16, .string m17, .int .u64 m18, .int .i64 m19, .string m20]] w R :=
 genFn_runs mixed lv14 noM Try.func14 (by kernel_rfl) (by rw [e14]; exact h)
def t15 (sa : Option Addr) (sn : Nat) (sc : Nat) (i : Int) (j : Int) : VC :=
 .need ((0 : Int) ≤ (↑sn : Int) ∧ (↑sn : Int) ≤ (↑sc : Int)) <|
 .need ((0 : Int) ≤ j ∧ j ≤ (↑(↑sn : Int).toNat : Int)) <|
 .need ((0 : Int) ≤ i ∧ i ≤ (↑j.toNat : Int)) <|
 bif (i == j) then
  (.ret (.slice sa sn sc))
 else
 (.draw <|
 .need ((0 : Int) ≤ i ∧ i ≤ (↑sc : Int)) <|
 .need ((0 : Int) ≤ j ∧ j ≤ (↑sn : Int)) <|
 .append 38 21 224 [.int .i64 0, .int .i64 0, .int .i64 0, .int .u64 0, .int .u64 0, .int .u64 0, .slice none 0 0, .int .u64 0, .int .u64 0, .bool false, .int .u64 0, .int .u64 0, .slice none 0 0, .int .i64 0, .int .i64 0, .int .u64 0, .string ({ data := #[] }), .string ({ data := #[] }), .int .u64 0, .int .i64 0, .string ({ data := #[] })] (if sc = 0 then sa else Option.map (fun x => x) sa) (i.toNat - 0) (sc - 0) (if sc = j.toNat then sa else Option.map (fun x => x.add (j.toNat * 21)) sa) (sn - j.toNat) fun a1 n1 c1 =>
 .need ((0 : Int) ≤ (↑sn : Int) ∧ (↑sn : Int) ≤ (↑c1 : Int)) <|
 .need ((0 : Int) ≤ (↑n1 : Int) ∧ (↑n1 : Int) ≤ (↑(↑sn : Int).toNat : Int)) <|
 .clear (if c1 = (↑n1 : Int).toNat then a1 else Option.map (fun x => x.add ((↑n1 : Int).toNat * 21)) a1) [.int .i64 0, .int .i64 0, .int .i64 0, .int .u64 0, .int .u64 0, .int .u64 0, .slice none 0 0, .int .u64 0, .int .u64 0, .bool false, .int .u64 0, .int .u64 0, .slice none 0 0, .int .i64 0, .int .i64 0, .int .u64 0, .string ({ data := #[] }), .string ({ data := #[] }), .int .u64 0, .int .i64 0, .string ({ data := #[] })] ((↑sn : Int).toNat - (↑n1 : Int).toNat) <|
 .ret (.slice a1 n1 c1))
theorem e15 (sa : Option Addr) (sn : Nat) (sc : Nat) (i : Int) (j : Int) : genFn Try.prog noM noM Try.f15 [.slice sa sn sc, .int .i64 i, .int .i64 j] = t15 sa sn sc i j := by kernel_rfl
theorem r15 (sa : Option Addr) (sn : Nat) (sc : Nat) (i : Int) (j : Int) {R : Value → World → Prop} {w : World} (h : (t15 sa sn sc i j).wp Try.prog R (fun _ _ _ => False) w) : Runs Try.prog 15 [.slice sa sn sc, .int .i64 i, .int .i64 j] w R :=
 genFn_runs mixed noM noM Try.func15 (by kernel_rfl) (by rw [e15]; exact h)
def lv16 : Marks := (fun | some 4 => some [(5, .int .i64 0)] | _ => none)
def t16 (aa : Option Addr) (an : Nat) (ac : Nat) (ba : Option Addr) (bn : Nat) (bc : Nat) : VC :=
 bif ((↑an : Int) != (↑bn : Int)) then
  (.ret (.bool false))
 else
 (.loop 0 [.int .i64 0] (fun v1 =>
  .exI fun i2 =>
  .isL v1 [.int .i64 i2] <|
  bif (decide (i2 < (↑an : Int))) then
   (.draw <|
   .some aa fun x3 =>
   .need ((0 : Int) ≤ i2 ∧ i2 < (↑an : Int)) <|
   .load (x3.add (i2.toNat * 2)) 1 fun v4 =>
   .exI fun i5 =>
   .isL v4 [.int .u64 i5] <|
   .some ba fun x6 =>
   .need ((0 : Int) ≤ i2 ∧ i2 < (↑bn : Int)) <|
   .load (x6.add (i2.toNat * 2)) 1 fun v7 =>
   .exI fun i8 =>
   .isL v7 [.int .u64 i8] <|
   bif (i5 != i8) then
    (.ret (.bool false))
   else
   (.some aa fun x9 =>
   .need ((0 : Int) ≤ i2 ∧ i2 < (↑an : Int)) <|
   .load ((x9.add (i2.toNat * 2)).add 1) 1 fun v10 =>
   .exS fun a11 n11 c11 =>
   .isL v10 [.slice a11 n11 c11] <|
   .bytes a11 n11 fun s12 =>
   .some ba fun x13 =>
   .need ((0 : Int) ≤ i2 ∧ i2 < (↑bn : Int)) <|
   .load ((x13.add (i2.toNat * 2)).add 1) 1 fun v14 =>
   .exS fun a15 n15 c15 =>
   .isL v14 [.slice a15 n15 c15] <|
   .bytes a15 n15 fun s16 =>
   bif (!s12.toList == s16.toList) then
    (.ret (.bool false))
   else
   (.again 0 [.int .i64 (IntKind.i64.wrap (i2 + 1))])))
  else
  (.ret (.bool true))))
theorem e16 (aa : Option Addr) (an : Nat) (ac : Nat) (ba : Option Addr) (bn : Nat) (bc : Nat) : genFn Try.prog lv16 noM Try.f16 [.slice aa an ac, .slice ba bn bc] = t16 aa an ac ba bn bc := by kernel_rfl
theorem r16 (aa : Option Addr) (an : Nat) (ac : Nat) (ba : Option Addr) (bn : Nat) (bc : Nat) {R : Value → World → Prop} {w : World} (h : (t16 aa an ac ba bn bc).wp Try.prog R (fun _ _ _ => False) w) : Runs Try.prog 16 [.slice aa an ac, .slice ba bn bc] w R :=
 genFn_runs mixed lv16 noM Try.func16 (by kernel_rfl) (by rw [e16]; exact h)
def t17 (a0 : Int) (a1 : Int) (a2a : Option Addr) (a2n : Nat) (a2c : Nat) (b0 : Int) (b1 : Int) (b2a : Option Addr) (b2n : Nat) (b2c : Nat) : VC :=
 .new 31 [.int .u64 a0, .int .u64 a1, .slice a2a a2n a2c] fun p1 =>
 .new 31 [.int .u64 b0, .int .u64 b1, .slice b2a b2n b2c] fun p2 =>
 .load ⟨p1, 0, none⟩ 1 fun v3 =>
 .exI fun i4 =>
 .isL v3 [.int .u64 i4] <|
 .load ⟨p2, 0, none⟩ 1 fun v5 =>
 .exI fun i6 =>
 .isL v5 [.int .u64 i6] <|
 bif (i4 == i6) then
  (.load ⟨p1, 1, none⟩ 1 fun v7 =>
  .exI fun i8 =>
  .isL v7 [.int .u64 i8] <|
  .load ⟨p2, 1, none⟩ 1 fun v9 =>
  .exI fun i10 =>
  .isL v9 [.int .u64 i10] <|
  bif (i8 == i10) then
   (.load ⟨p1, 2, none⟩ 1 fun v11 =>
   .exS fun a12 n12 c12 =>
   .isL v11 [.slice a12 n12 c12] <|
   .bytes a12 n12 fun s13 =>
   .load ⟨p2, 2, none⟩ 1 fun v14 =>
   .exS fun a15 n15 c15 =>
   .isL v14 [.slice a15 n15 c15] <|
   .bytes a15 n15 fun s16 =>
   .ret (.bool (s13.toList == s16.toList)))
  else
  (.ret (.bool false)))
 else
 (.ret (.bool false))
theorem e17 (a0 : Int) (a1 : Int) (a2a : Option Addr) (a2n : Nat) (a2c : Nat) (b0 : Int) (b1 : Int) (b2a : Option Addr) (b2n : Nat) (b2c : Nat) : genFn Try.prog noM noM Try.f17 [.agg #[.int .u64 a0, .int .u64 a1, .slice a2a a2n a2c], .agg #[.int .u64 b0, .int .u64 b1, .slice b2a b2n b2c]] = t17 a0 a1 a2a a2n a2c b0 b1 b2a b2n b2c := by kernel_rfl
theorem r17 (a0 : Int) (a1 : Int) (a2a : Option Addr) (a2n : Nat) (a2c : Nat) (b0 : Int) (b1 : Int) (b2a : Option Addr) (b2n : Nat) (b2c : Nat) {R : Value → World → Prop} {w : World} (h : (t17 a0 a1 a2a a2n a2c b0 b1 b2a b2n b2c).wp Try.prog R (fun _ _ _ => False) w) : Runs Try.prog 17 [.agg #[.int .u64 a0, .int .u64 a1, .slice a2a a2n a2c], .agg #[.int .u64 b0, .int .u64 b1, .slice b2a b2n b2c]] w R :=
 genFn_runs mixed noM noM Try.func17 (by kernel_rfl) (by rw [e17]; exact h)
def t18 (b : Nat) (i : Int) : VC :=
 bif (decide (i ≥ 0)) then
  (.load ⟨b, 0, none⟩ 1 fun v1 =>
  .exS fun a2 n2 c2 =>
  .isL v1 [.slice a2 n2 c2] <|
  .ret (.bool (decide (i < (↑n2 : Int)))))
 else
 (.ret (.bool false))
theorem e18 (b : Nat) (i : Int) : genFn Try.prog noM noM Try.f18 [.pointer (some ⟨b, 0, none⟩), .int .i64 i] = t18 b i := by kernel_rfl
theorem r18 (b : Nat) (i : Int) {R : Value → World → Prop} {w : World} (h : (t18 b i).wp Try.prog R (fun _ _ _ => False) w) : Runs Try.prog 18 [.pointer (some ⟨b, 0, none⟩), .int .i64 i] w R :=
 genFn_runs mixed noM noM Try.func18 (by kernel_rfl) (by rw [e18]; exact h)
def t19 (sa : Option Addr) (sn : Nat) (sc : Nat) : VC :=
 bif sa.isNone then
  (.ret (.slice none 0 0))
 else
 (.new 56 [] fun p1 =>
 .append 56 2 32 [.int .u64 0, .slice none 0 0] (some ⟨p1, 0, none⟩) 0 0 sa sn fun a2 n2 c2 =>
 .ret (.slice a2 n2 c2))
theorem e19 (sa : Option Addr) (sn : Nat) (sc : Nat) : genFn Try.prog noM noM Try.f19 [.slice sa sn sc] = t19 sa sn sc := by kernel_rfl
theorem r19 (sa : Option Addr) (sn : Nat) (sc : Nat) {R : Value → World → Prop} {w : World} (h : (t19 sa sn sc).wp Try.prog R (fun _ _ _ => False) w) : Runs Try.prog 19 [.slice sa sn sc] w R :=
 genFn_runs mixed noM noM Try.func19 (by kernel_rfl) (by rw [e19]; exact h)
def t20 (sa : Option Addr) (sn : Nat) (sc : Nat) : VC :=
 bif sa.isNone then
  (.ret (.slice none 0 0))
 else
 (.new 5 [] fun p1 =>
 .append 5 1 1 [.int .u8 0] (some ⟨p1, 0, none⟩) 0 0 sa sn fun a2 n2 c2 =>
 .ret (.slice a2 n2 c2))
theorem e20 (sa : Option Addr) (sn : Nat) (sc : Nat) : genFn Try.prog noM noM Try.f20 [.slice sa sn sc] = t20 sa sn sc := by kernel_rfl
theorem r20 (sa : Option Addr) (sn : Nat) (sc : Nat) {R : Value → World → Prop} {w : World} (h : (t20 sa sn sc).wp Try.prog R (fun _ _ _ => False) w) : Runs Try.prog 20 [.slice sa sn sc] w R :=
 genFn_runs mixed noM noM Try.func20 (by kernel_rfl) (by rw [e20]; exact h)
end Go.Proofs.Ytcfjglminflohaa
