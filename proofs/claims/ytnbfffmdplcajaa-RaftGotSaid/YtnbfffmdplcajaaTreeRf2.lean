/- The trees of verification conditions of functions 86, 88, 89, 90, 91, 92, 93, 46: printed by a program of mine, checked here. -/
import Derived.Test.YtnbfffmdplcajaaTree0
set_option linter.unusedVariables false
set_option maxRecDepth 100000
namespace Go.Proofs.Ytnbfffmdplcajaa
open Go.Vc
def lv86 : Marks := (fun | some 2 => some [(5, .int .i64 0)] | some 12 => some [(7, .int .i64 0)] | _ => none)
def t86 (k0 : Int) (k1 : Int) (k2 : Int) (k3 : Int) (k4a : Option Addr) (k4n : Nat) (k4c : Nat) (k5a : Option Addr) (k5n : Nat) (k5c : Nat) (la : Option Addr) (ln : Nat) (lc : Nat) : VC :=
 .new 30 [.int .u64 k0, .int .i64 k1, .int .u64 k2, .int .u64 k3, .slice k4a k4n k4c, .slice k5a k5n k5c] fun p1 =>
 .new 30 [.int .u64 0, .int .i64 0, .int .u64 0, .int .u64 0, .slice none 0 0, .slice none 0 0] fun p2 =>
 .loop 0 [.int .i64 0] (fun v3 =>
  .exI fun i4 =>
  .isL v3 [.int .i64 i4] <|
  bif (decide (i4 < (↑ln : Int))) then
   (.some la fun x5 =>
   .need ((0 : Int) ≤ i4 ∧ i4 < (↑ln : Int)) <|
   .load (x5.add (i4.toNat * 9)) 9 fun v6 =>
   .exI fun i7 =>
   .exI fun i8 =>
   .exI fun i9 =>
   .exI fun i10 =>
   .exS fun a11 n11 c11 =>
   .exI fun i12 =>
   .exI fun i13 =>
   .exI fun i14 =>
   .exS fun a15 n15 c15 =>
   .isL v6 [.int .i64 i7, .int .u64 i8, .int .i64 i9, .int .u64 i10, .slice a11 n11 c11, .int .u64 i12, .int .u64 i13, .int .u64 i14, .slice a15 n15 c15] <|
   .new 59 [.int .i64 0, .int .u64 0, .int .i64 0, .int .u64 0, .slice none 0 0, .int .u64 0, .int .u64 0, .int .u64 0, .slice none 0 0] fun p16 =>
   .store ⟨p16, 0, none⟩ [.int .i64 i7, .int .u64 i8, .int .i64 i9, .int .u64 i10, .slice a11 n11 c11, .int .u64 i12, .int .u64 i13, .int .u64 i14, .slice a15 n15 c15] <|
   .load ⟨p16, 0, none⟩ 1 fun v17 =>
   .exI fun i18 =>
   .isL v17 [.int .i64 i18] <|
   bif (i18 == 1) then
    (.load ⟨p16, 1, none⟩ 2 fun v19 =>
    .exI fun i20 =>
    .exI fun i21 =>
    .isL v19 [.int .u64 i20, .int .i64 i21] <|
    .store ⟨p1, 0, none⟩ [.int .u64 i20, .int .i64 i21] <|
    .again 0 [.int .i64 (IntKind.i64.wrap (i4 + 1))])
   else
   (bif (i18 == 2) then
    (.draw <|
    .load ⟨p1, 5, none⟩ 1 fun v22 =>
    .exS fun a23 n23 c23 =>
    .isL v22 [.slice a23 n23 c23] <|
    .load ⟨p16, 3, none⟩ 2 fun v24 =>
    .exI fun i25 =>
    .exS fun a26 n26 c26 =>
    .isL v24 [.int .u64 i25, .slice a26 n26 c26] <|
    .both
     (.new 57 [] fun p27 =>
     .both
      (.append 57 2 32 [.int .u64 0, .slice none 0 0] (some ⟨p27, 0, none⟩) 0 0 a23 n23 fun a28 n28 c28 =>
      .hold [(⟨p16, 3, none⟩, [.int .u64 i25, .slice a26 n26 c26])] <|
      .new 57 [.int .u64 i25, .slice a26 n26 c26] fun p29 =>
      .append 57 2 32 [.int .u64 0, .slice none 0 0] a28 n28 c28 (some ⟨p29, 0, none⟩) 1 fun a30 n30 c30 =>
      .store ⟨p1, 5, none⟩ [.slice a30 n30 c30] <|
      .again 0 [.int .i64 (IntKind.i64.wrap (i4 + 1))])
     (.new 57 [.int .u64 i25, .slice a26 n26 c26] fun p31 =>
     .append 57 2 32 [.int .u64 0, .slice none 0 0] (some ⟨p27, 0, none⟩) 0 0 a23 n23 fun a32 n32 c32 =>
     .append 57 2 32 [.int .u64 0, .slice none 0 0] a32 n32 c32 (some ⟨p31, 0, none⟩) 1 fun a33 n33 c33 =>
     .store ⟨p1, 5, none⟩ [.slice a33 n33 c33] <|
     .again 0 [.int .i64 (IntKind.i64.wrap (i4 + 1))]))
    (.new 57 [.int .u64 i25, .slice a26 n26 c26] fun p34 =>
    .new 57 [] fun p35 =>
    .append 57 2 32 [.int .u64 0, .slice none 0 0] (some ⟨p35, 0, none⟩) 0 0 a23 n23 fun a36 n36 c36 =>
    .append 57 2 32 [.int .u64 0, .slice none 0 0] a36 n36 c36 (some ⟨p34, 0, none⟩) 1 fun a37 n37 c37 =>
    .store ⟨p1, 5, none⟩ [.slice a37 n37 c37] <|
    .again 0 [.int .i64 (IntKind.i64.wrap (i4 + 1))]))
   else
   (bif (i18 == 3) then
    (.loop 1 [.int .i64 0] (fun v38 =>
     .exI fun i39 =>
     .isL v38 [.int .i64 i39] <|
     .load ⟨p1, 5, none⟩ 1 fun v40 =>
     .exS fun a41 n41 c41 =>
     .isL v40 [.slice a41 n41 c41] <|
     bif (decide (i39 < (↑n41 : Int))) then
      (.load ⟨p16, 5, none⟩ 1 fun v42 =>
      .exI fun i43 =>
      .isL v42 [.int .u64 i43] <|
      .load ⟨p1, 2, none⟩ 1 fun v44 =>
      .exI fun i45 =>
      .isL v44 [.int .u64 i45] <|
      bif (decide (i43 > i45)) then
       (.load ⟨p16, 5, none⟩ 1 fun v46 =>
       .exI fun i47 =>
       .isL v46 [.int .u64 i47] <|
       .load ⟨p1, 2, none⟩ 1 fun v48 =>
       .exI fun i49 =>
       .isL v48 [.int .u64 i49] <|
       bif (decide (IntKind.u64.wrap i39 < IntKind.u64.wrap (IntKind.u64.wrap (i47 - i49) - 1))) then
        (.again 1 [.int .i64 (IntKind.i64.wrap (i39 + 1))])
       else
       (.new 57 [] fun p50 =>
       .load ⟨p1, 5, none⟩ 1 fun v51 =>
       .exS fun a52 n52 c52 =>
       .isL v51 [.slice a52 n52 c52] <|
       .need ((0 : Int) ≤ i39 ∧ i39 ≤ (↑c52 : Int)) <|
       .append 57 2 32 [.int .u64 0, .slice none 0 0] (some ⟨p50, 0, none⟩) 0 0 (if c52 = 0 then a52 else Option.map (fun x => x) a52) (i39.toNat - 0) fun a53 n53 c53 =>
       .store ⟨p1, 5, none⟩ [.slice a53 n53 c53] <|
       .again 0 [.int .i64 (IntKind.i64.wrap (i4 + 1))]))
      else
      (.new 57 [] fun p54 =>
      .load ⟨p1, 5, none⟩ 1 fun v55 =>
      .exS fun a56 n56 c56 =>
      .isL v55 [.slice a56 n56 c56] <|
      .need ((0 : Int) ≤ i39 ∧ i39 ≤ (↑c56 : Int)) <|
      .append 57 2 32 [.int .u64 0, .slice none 0 0] (some ⟨p54, 0, none⟩) 0 0 (if c56 = 0 then a56 else Option.map (fun x => x) a56) (i39.toNat - 0) fun a57 n57 c57 =>
      .store ⟨p1, 5, none⟩ [.slice a57 n57 c57] <|
      .again 0 [.int .i64 (IntKind.i64.wrap (i4 + 1))]))
     else
     (.new 57 [] fun p58 =>
     .load ⟨p1, 5, none⟩ 1 fun v59 =>
     .exS fun a60 n60 c60 =>
     .isL v59 [.slice a60 n60 c60] <|
     .need ((0 : Int) ≤ i39 ∧ i39 ≤ (↑c60 : Int)) <|
     .append 57 2 32 [.int .u64 0, .slice none 0 0] (some ⟨p58, 0, none⟩) 0 0 (if c60 = 0 then a60 else Option.map (fun x => x) a60) (i39.toNat - 0) fun a61 n61 c61 =>
     .store ⟨p1, 5, none⟩ [.slice a61 n61 c61] <|
     .again 0 [.int .i64 (IntKind.i64.wrap (i4 + 1))])))
   else
   (bif (i18 == 4) then
    (.load ⟨p16, 6, none⟩ 1 fun v62 =>
    .exI fun i63 =>
    .isL v62 [.int .u64 i63] <|
    .load ⟨p1, 2, none⟩ 1 fun v64 =>
    .exI fun i65 =>
    .isL v64 [.int .u64 i65] <|
    bif (decide (i63 > i65)) then
     (.load ⟨p16, 6, none⟩ 1 fun v66 =>
     .exI fun i67 =>
     .isL v66 [.int .u64 i67] <|
     .load ⟨p1, 2, none⟩ 1 fun v68 =>
     .exI fun i69 =>
     .isL v68 [.int .u64 i69] <|
     .draw <|
     .load ⟨p1, 5, none⟩ 1 fun v70 =>
     .exS fun a71 n71 c71 =>
     .isL v70 [.slice a71 n71 c71] <|
     bif (decide (IntKind.u64.wrap (i67 - i69) ≤ IntKind.u64.wrap (↑n71 : Int))) then
      (.load ⟨p1, 5, none⟩ 1 fun v72 =>
      .exS fun a73 n73 c73 =>
      .isL v72 [.slice a73 n73 c73] <|
      .some a73 fun x74 =>
      .need ((0 : Int) ≤ IntKind.u64.wrap (IntKind.u64.wrap (i67 - i69) - 1) ∧ IntKind.u64.wrap (IntKind.u64.wrap (i67 - i69) - 1) < (↑n73 : Int)) <|
      .load (x74.add ((IntKind.u64.wrap (IntKind.u64.wrap (i67 - i69) - 1)).toNat * 2)) 1 fun v75 =>
      .exI fun i76 =>
      .isL v75 [.int .u64 i76] <|
      .load ⟨p16, 7, none⟩ 1 fun v77 =>
      .exI fun i78 =>
      .isL v77 [.int .u64 i78] <|
      bif (i76 == i78) then
       (.load ⟨p1, 5, none⟩ 1 fun v79 =>
       .exS fun a80 n80 c80 =>
       .isL v79 [.slice a80 n80 c80] <|
       .need ((0 : Int) ≤ IntKind.u64.wrap (i67 - i69) ∧ IntKind.u64.wrap (i67 - i69) ≤ (↑n80 : Int)) <|
       .append 57 2 32 [.int .u64 0, .slice none 0 0] none 0 0 (if c80 = (IntKind.u64.wrap (i67 - i69)).toNat then a80 else Option.map (fun x => x.add ((IntKind.u64.wrap (i67 - i69)).toNat * 2)) a80) (n80 - (IntKind.u64.wrap (i67 - i69)).toNat) fun a81 n81 c81 =>
       .load ⟨p16, 6, none⟩ 3 fun v82 =>
       .exI fun i83 =>
       .exI fun i84 =>
       .exS fun a85 n85 c85 =>
       .isL v82 [.int .u64 i83, .int .u64 i84, .slice a85 n85 c85] <|
       .store ⟨p1, 2, none⟩ [.int .u64 i83, .int .u64 i84, .slice a85 n85 c85] <|
       .store ⟨p1, 5, none⟩ [.slice a81 n81 c81] <|
       .again 0 [.int .i64 (IntKind.i64.wrap (i4 + 1))])
      else
      (.load ⟨p16, 6, none⟩ 3 fun v86 =>
      .exI fun i87 =>
      .exI fun i88 =>
      .exS fun a89 n89 c89 =>
      .isL v86 [.int .u64 i87, .int .u64 i88, .slice a89 n89 c89] <|
      .store ⟨p1, 2, none⟩ [.int .u64 i87, .int .u64 i88, .slice a89 n89 c89] <|
      .store ⟨p1, 5, none⟩ [.slice none 0 0] <|
      .again 0 [.int .i64 (IntKind.i64.wrap (i4 + 1))]))
     else
     (.load ⟨p16, 6, none⟩ 3 fun v90 =>
     .exI fun i91 =>
     .exI fun i92 =>
     .exS fun a93 n93 c93 =>
     .isL v90 [.int .u64 i91, .int .u64 i92, .slice a93 n93 c93] <|
     .store ⟨p1, 2, none⟩ [.int .u64 i91, .int .u64 i92, .slice a93 n93 c93] <|
     .store ⟨p1, 5, none⟩ [.slice none 0 0] <|
     .again 0 [.int .i64 (IntKind.i64.wrap (i4 + 1))]))
    else
    (.again 0 [.int .i64 (IntKind.i64.wrap (i4 + 1))]))
   else
   (.again 0 [.int .i64 (IntKind.i64.wrap (i4 + 1))])))))
  else
  (.load ⟨p1, 0, none⟩ 6 fun v94 =>
  .exI fun i95 =>
  .exI fun i96 =>
  .exI fun i97 =>
  .exI fun i98 =>
  .exS fun a99 n99 c99 =>
  .exS fun a100 n100 c100 =>
  .isL v94 [.int .u64 i95, .int .i64 i96, .int .u64 i97, .int .u64 i98, .slice a99 n99 c99, .slice a100 n100 c100] <|
  .store ⟨p2, 0, none⟩ [.int .u64 i95, .int .i64 i96, .int .u64 i97, .int .u64 i98, .slice a99 n99 c99, .slice a100 n100 c100] <|
  .load ⟨p2, 0, none⟩ 6 fun v101 =>
  .exI fun i102 =>
  .exI fun i103 =>
  .exI fun i104 =>
  .exI fun i105 =>
  .exS fun a106 n106 c106 =>
  .exS fun a107 n107 c107 =>
  .isL v101 [.int .u64 i102, .int .i64 i103, .int .u64 i104, .int .u64 i105, .slice a106 n106 c106, .slice a107 n107 c107] <|
  .ret (.agg #[.int .u64 i102, .int .i64 i103, .int .u64 i104, .int .u64 i105, .slice a106 n106 c106, .slice a107 n107 c107])))
theorem e86 (k0 : Int) (k1 : Int) (k2 : Int) (k3 : Int) (k4a : Option Addr) (k4n : Nat) (k4c : Nat) (k5a : Option Addr) (k5n : Nat) (k5c : Nat) (la : Option Addr) (ln : Nat) (lc : Nat) : genFn Try.prog lv86 noM Try.f86 [.agg #[.int .u64 k0, .int .i64 k1, .int .u64 k2, .int .u64 k3, .slice k4a k4n k4c, .slice k5a k5n k5c], .slice la ln lc] = t86 k0 k1 k2 k3 k4a k4n k4c k5a k5n k5c la ln lc := by kernel_rfl
theorem r86 (k0 : Int) (k1 : Int) (k2 : Int) (k3 : Int) (k4a : Option Addr) (k4n : Nat) (k4c : Nat) (k5a : Option Addr) (k5n : Nat) (k5c : Nat) (la : Option Addr) (ln : Nat) (lc : Nat) {R : Value → World → Prop} {w : World} (h : (t86 k0 k1 k2 k3 k4a k4n k4c k5a k5n k5c la ln lc).wp Try.prog R (fun _ _ _ => False) w) : Runs Try.prog 86 [.agg #[.int .u64 k0, .int .i64 k1, .int .u64 k2, .int .u64 k3, .slice k4a k4n k4c, .slice k5a k5n k5c], .slice la ln lc] w R :=
 genFn_runs mixed lv86 noM Try.func86 (by kernel_rfl) (by rw [e86]; exact h)
def t88 (s : Nat) (term : Int) : VC :=
 .store ⟨s, 0, none⟩ [.int .u64 term] <|
 .store ⟨s, 1, none⟩ [.int .i64 0] <|
 .call 77 ([.pointer (some ⟨s, 0, none⟩), .int .i64 0, .int .i64 0]) fun v1 =>
 .isL [v1] [.tuple #[]] <|
 .call 78 ([.pointer (some ⟨s, 0, none⟩)]) fun v2 =>
 .isL [v2] [.tuple #[]] <|
 .ret (.tuple #[])
theorem e88 (s : Nat) (term : Int) : genFn Try.prog noM noM Try.f88 [.pointer (some ⟨s, 0, none⟩), .int .u64 term] = t88 s term := by kernel_rfl
theorem r88 (s : Nat) (term : Int) {R : Value → World → Prop} {w : World} (h : (t88 s term).wp Try.prog R (fun _ _ _ => False) w) : Runs Try.prog 88 [.pointer (some ⟨s, 0, none⟩), .int .u64 term] w R :=
 genFn_runs mixed noM noM Try.func88 (by kernel_rfl) (by rw [e88]; exact h)
def t89 (s : Nat) (m0 : Int) (m1 : Int) (m2 : Int) (m3 : Int) (m4 : Int) (m5 : Int) (m6a : Option Addr) (m6n : Nat) (m6c : Nat) (m7 : Int) (m8 : Int) (m9 : Bool) (m10 : Int) (m11 : Int) (m12a : Option Addr) (m12n : Nat) (m12c : Nat) (m13 : Int) (m14 : Int) (m15 : Int) (m16 : ByteArray) (m17 : ByteArray) (m18 : Int) (m19 : Int) (m20 : ByteArray) : VC :=
 .new 70 [.int .i64 m0, .int .i64 m1, .int .i64 m2, .int .u64 m3, .int .u64 m4, .int .u64 m5, .slice m6a m6n m6c, .int .u64 m7, .int .u64 m8, .bool m9, .int .u64 m10, .int .u64 m11, .slice m12a m12n m12c, .int .i64 m13, .int .i64 m14, .int .u64 m15, .string m16, .string m17, .int .u64 m18, .int .i64 m19, .string m20] fun p1 =>
 .load ⟨s, 0, none⟩ 17 fun v2 =>
 .exI fun i3 =>
 .exI fun i4 =>
 .exI fun i5 =>
 .exI fun i6 =>
 .exI fun i7 =>
 .exI fun i8 =>
 .exS fun a9 n9 c9 =>
 .exS fun a10 n10 c10 =>
 .exI fun i11 =>
 .exI fun i12 =>
 .exI fun i13 =>
 .exS fun a14 n14 c14 =>
 .exS fun a15 n15 c15 =>
 .exS fun a16 n16 c16 =>
 .exS fun a17 n17 c17 =>
 .exI fun i18 =>
 .exS fun a19 n19 c19 =>
 .isL v2 [.int .u64 i3, .int .i64 i4, .int .i64 i5, .int .i64 i6, .int .u64 i7, .int .u64 i8, .slice a9 n9 c9, .slice a10 n10 c10, .int .u64 i11, .int .i64 i12, .int .i64 i13, .slice a14 n14 c14, .slice a15 n15 c15, .slice a16 n16 c16, .slice a17 n17 c17, .int .u64 i18, .slice a19 n19 c19] <|
 .call 26 ([.agg #[.int .u64 i3, .int .i64 i4, .int .i64 i5, .int .i64 i6, .int .u64 i7, .int .u64 i8, .slice a9 n9 c9, .slice a10 n10 c10, .int .u64 i11, .int .i64 i12, .int .i64 i13, .slice a14 n14 c14, .slice a15 n15 c15, .slice a16 n16 c16, .slice a17 n17 c17, .int .u64 i18, .slice a19 n19 c19]]) fun v20 =>
 .exI fun i21 =>
 .exI fun i22 =>
 .isL [v20] [.tuple #[.int .u64 i21, .int .u64 i22]] <|
 .draw <|
 .load ⟨p1, 3, none⟩ 1 fun v23 =>
 .exI fun i24 =>
 .isL v23 [.int .u64 i24] <|
 .load ⟨s, 0, none⟩ 1 fun v25 =>
 .exI fun i26 =>
 .isL v25 [.int .u64 i26] <|
 bif (i24 == i26) then
  (.load ⟨s, 1, none⟩ 1 fun v27 =>
  .exI fun i28 =>
  .isL v27 [.int .i64 i28] <|
  bif (i28 == 0) then
   (.load ⟨p1, 5, none⟩ 1 fun v29 =>
   .exI fun i30 =>
   .isL v29 [.int .u64 i30] <|
   bif (decide (i30 > i22)) then
    (.draw <|
    .load ⟨s, 1, none⟩ 1 fun v31 =>
    .exI fun i32 =>
    .isL v31 [.int .i64 i32] <|
    .load ⟨p1, 1, none⟩ 1 fun v33 =>
    .exI fun i34 =>
    .isL v33 [.int .i64 i34] <|
    bif (i32 != i34) then
     (.load ⟨p1, 1, none⟩ 1 fun v35 =>
     .exI fun i36 =>
     .isL v35 [.int .i64 i36] <|
     .store ⟨s, 1, none⟩ [.int .i64 i36] <|
     .call 78 ([.pointer (some ⟨s, 0, none⟩)]) fun v37 =>
     .isL [v37] [.tuple #[]] <|
     .load ⟨p1, 1, none⟩ 1 fun v38 =>
     .exI fun i39 =>
     .isL v38 [.int .i64 i39] <|
     .call 81 ([.pointer (some ⟨s, 0, none⟩), .agg #[.int .i64 2, .int .i64 0, .int .i64 i39, .int .u64 0, .int .u64 0, .int .u64 0, .slice none 0 0, .int .u64 0, .int .u64 0, .bool true, .int .u64 0, .int .u64 0, .slice none 0 0, .int .i64 0, .int .i64 0, .int .u64 0, .string ({ data := #[] }), .string ({ data := #[] }), .int .u64 0, .int .i64 0, .string ({ data := #[] })]]) fun v40 =>
     .isL [v40] [.tuple #[]] <|
     .ret (.tuple #[]))
    else
    (.load ⟨p1, 1, none⟩ 1 fun v41 =>
    .exI fun i42 =>
    .isL v41 [.int .i64 i42] <|
    .call 81 ([.pointer (some ⟨s, 0, none⟩), .agg #[.int .i64 2, .int .i64 0, .int .i64 i42, .int .u64 0, .int .u64 0, .int .u64 0, .slice none 0 0, .int .u64 0, .int .u64 0, .bool true, .int .u64 0, .int .u64 0, .slice none 0 0, .int .i64 0, .int .i64 0, .int .u64 0, .string ({ data := #[] }), .string ({ data := #[] }), .int .u64 0, .int .i64 0, .string ({ data := #[] })]]) fun v43 =>
    .isL [v43] [.tuple #[]] <|
    .ret (.tuple #[])))
   else
   (.load ⟨p1, 5, none⟩ 1 fun v44 =>
   .exI fun i45 =>
   .isL v44 [.int .u64 i45] <|
   bif (i45 == i22) then
    (.load ⟨p1, 4, none⟩ 1 fun v46 =>
    .exI fun i47 =>
    .isL v46 [.int .u64 i47] <|
    .draw <|
    bif (decide (i47 ≥ i21)) then
     (.load ⟨s, 1, none⟩ 1 fun v48 =>
     .exI fun i49 =>
     .isL v48 [.int .i64 i49] <|
     .load ⟨p1, 1, none⟩ 1 fun v50 =>
     .exI fun i51 =>
     .isL v50 [.int .i64 i51] <|
     bif (i49 != i51) then
      (.load ⟨p1, 1, none⟩ 1 fun v52 =>
      .exI fun i53 =>
      .isL v52 [.int .i64 i53] <|
      .store ⟨s, 1, none⟩ [.int .i64 i53] <|
      .call 78 ([.pointer (some ⟨s, 0, none⟩)]) fun v54 =>
      .isL [v54] [.tuple #[]] <|
      .load ⟨p1, 1, none⟩ 1 fun v55 =>
      .exI fun i56 =>
      .isL v55 [.int .i64 i56] <|
      .call 81 ([.pointer (some ⟨s, 0, none⟩), .agg #[.int .i64 2, .int .i64 0, .int .i64 i56, .int .u64 0, .int .u64 0, .int .u64 0, .slice none 0 0, .int .u64 0, .int .u64 0, .bool (decide (i47 ≥ i21)), .int .u64 0, .int .u64 0, .slice none 0 0, .int .i64 0, .int .i64 0, .int .u64 0, .string ({ data := #[] }), .string ({ data := #[] }), .int .u64 0, .int .i64 0, .string ({ data := #[] })]]) fun v57 =>
      .isL [v57] [.tuple #[]] <|
      .ret (.tuple #[]))
     else
     (.load ⟨p1, 1, none⟩ 1 fun v58 =>
     .exI fun i59 =>
     .isL v58 [.int .i64 i59] <|
     .call 81 ([.pointer (some ⟨s, 0, none⟩), .agg #[.int .i64 2, .int .i64 0, .int .i64 i59, .int .u64 0, .int .u64 0, .int .u64 0, .slice none 0 0, .int .u64 0, .int .u64 0, .bool (decide (i47 ≥ i21)), .int .u64 0, .int .u64 0, .slice none 0 0, .int .i64 0, .int .i64 0, .int .u64 0, .string ({ data := #[] }), .string ({ data := #[] }), .int .u64 0, .int .i64 0, .string ({ data := #[] })]]) fun v60 =>
     .isL [v60] [.tuple #[]] <|
     .ret (.tuple #[])))
    else
    (.load ⟨p1, 1, none⟩ 1 fun v61 =>
    .exI fun i62 =>
    .isL v61 [.int .i64 i62] <|
    .call 81 ([.pointer (some ⟨s, 0, none⟩), .agg #[.int .i64 2, .int .i64 0, .int .i64 i62, .int .u64 0, .int .u64 0, .int .u64 0, .slice none 0 0, .int .u64 0, .int .u64 0, .bool (decide (i47 ≥ i21)), .int .u64 0, .int .u64 0, .slice none 0 0, .int .i64 0, .int .i64 0, .int .u64 0, .string ({ data := #[] }), .string ({ data := #[] }), .int .u64 0, .int .i64 0, .string ({ data := #[] })]]) fun v63 =>
    .isL [v63] [.tuple #[]] <|
    .ret (.tuple #[])))
   else
   (.draw <|
   .load ⟨p1, 1, none⟩ 1 fun v64 =>
   .exI fun i65 =>
   .isL v64 [.int .i64 i65] <|
   .call 81 ([.pointer (some ⟨s, 0, none⟩), .agg #[.int .i64 2, .int .i64 0, .int .i64 i65, .int .u64 0, .int .u64 0, .int .u64 0, .slice none 0 0, .int .u64 0, .int .u64 0, .bool false, .int .u64 0, .int .u64 0, .slice none 0 0, .int .i64 0, .int .i64 0, .int .u64 0, .string ({ data := #[] }), .string ({ data := #[] }), .int .u64 0, .int .i64 0, .string ({ data := #[] })]]) fun v66 =>
   .isL [v66] [.tuple #[]] <|
   .ret (.tuple #[]))))
  else
  (.load ⟨s, 1, none⟩ 1 fun v67 =>
  .exI fun i68 =>
  .isL v67 [.int .i64 i68] <|
  .load ⟨p1, 1, none⟩ 1 fun v69 =>
  .exI fun i70 =>
  .isL v69 [.int .i64 i70] <|
  bif (i68 == i70) then
   (.load ⟨p1, 5, none⟩ 1 fun v71 =>
   .exI fun i72 =>
   .isL v71 [.int .u64 i72] <|
   bif (decide (i72 > i22)) then
    (.draw <|
    .load ⟨s, 1, none⟩ 1 fun v73 =>
    .exI fun i74 =>
    .isL v73 [.int .i64 i74] <|
    .load ⟨p1, 1, none⟩ 1 fun v75 =>
    .exI fun i76 =>
    .isL v75 [.int .i64 i76] <|
    bif (i74 != i76) then
     (.load ⟨p1, 1, none⟩ 1 fun v77 =>
     .exI fun i78 =>
     .isL v77 [.int .i64 i78] <|
     .store ⟨s, 1, none⟩ [.int .i64 i78] <|
     .call 78 ([.pointer (some ⟨s, 0, none⟩)]) fun v79 =>
     .isL [v79] [.tuple #[]] <|
     .load ⟨p1, 1, none⟩ 1 fun v80 =>
     .exI fun i81 =>
     .isL v80 [.int .i64 i81] <|
     .call 81 ([.pointer (some ⟨s, 0, none⟩), .agg #[.int .i64 2, .int .i64 0, .int .i64 i81, .int .u64 0, .int .u64 0, .int .u64 0, .slice none 0 0, .int .u64 0, .int .u64 0, .bool true, .int .u64 0, .int .u64 0, .slice none 0 0, .int .i64 0, .int .i64 0, .int .u64 0, .string ({ data := #[] }), .string ({ data := #[] }), .int .u64 0, .int .i64 0, .string ({ data := #[] })]]) fun v82 =>
     .isL [v82] [.tuple #[]] <|
     .ret (.tuple #[]))
    else
    (.load ⟨p1, 1, none⟩ 1 fun v83 =>
    .exI fun i84 =>
    .isL v83 [.int .i64 i84] <|
    .call 81 ([.pointer (some ⟨s, 0, none⟩), .agg #[.int .i64 2, .int .i64 0, .int .i64 i84, .int .u64 0, .int .u64 0, .int .u64 0, .slice none 0 0, .int .u64 0, .int .u64 0, .bool true, .int .u64 0, .int .u64 0, .slice none 0 0, .int .i64 0, .int .i64 0, .int .u64 0, .string ({ data := #[] }), .string ({ data := #[] }), .int .u64 0, .int .i64 0, .string ({ data := #[] })]]) fun v85 =>
    .isL [v85] [.tuple #[]] <|
    .ret (.tuple #[])))
   else
   (.load ⟨p1, 5, none⟩ 1 fun v86 =>
   .exI fun i87 =>
   .isL v86 [.int .u64 i87] <|
   bif (i87 == i22) then
    (.load ⟨p1, 4, none⟩ 1 fun v88 =>
    .exI fun i89 =>
    .isL v88 [.int .u64 i89] <|
    .draw <|
    bif (decide (i89 ≥ i21)) then
     (.load ⟨s, 1, none⟩ 1 fun v90 =>
     .exI fun i91 =>
     .isL v90 [.int .i64 i91] <|
     .load ⟨p1, 1, none⟩ 1 fun v92 =>
     .exI fun i93 =>
     .isL v92 [.int .i64 i93] <|
     bif (i91 != i93) then
      (.load ⟨p1, 1, none⟩ 1 fun v94 =>
      .exI fun i95 =>
      .isL v94 [.int .i64 i95] <|
      .store ⟨s, 1, none⟩ [.int .i64 i95] <|
      .call 78 ([.pointer (some ⟨s, 0, none⟩)]) fun v96 =>
      .isL [v96] [.tuple #[]] <|
      .load ⟨p1, 1, none⟩ 1 fun v97 =>
      .exI fun i98 =>
      .isL v97 [.int .i64 i98] <|
      .call 81 ([.pointer (some ⟨s, 0, none⟩), .agg #[.int .i64 2, .int .i64 0, .int .i64 i98, .int .u64 0, .int .u64 0, .int .u64 0, .slice none 0 0, .int .u64 0, .int .u64 0, .bool (decide (i89 ≥ i21)), .int .u64 0, .int .u64 0, .slice none 0 0, .int .i64 0, .int .i64 0, .int .u64 0, .string ({ data := #[] }), .string ({ data := #[] }), .int .u64 0, .int .i64 0, .string ({ data := #[] })]]) fun v99 =>
      .isL [v99] [.tuple #[]] <|
      .ret (.tuple #[]))
     else
     (.load ⟨p1, 1, none⟩ 1 fun v100 =>
     .exI fun i101 =>
     .isL v100 [.int .i64 i101] <|
     .call 81 ([.pointer (some ⟨s, 0, none⟩), .agg #[.int .i64 2, .int .i64 0, .int .i64 i101, .int .u64 0, .int .u64 0, .int .u64 0, .slice none 0 0, .int .u64 0, .int .u64 0, .bool (decide (i89 ≥ i21)), .int .u64 0, .int .u64 0, .slice none 0 0, .int .i64 0, .int .i64 0, .int .u64 0, .string ({ data := #[] }), .string ({ data := #[] }), .int .u64 0, .int .i64 0, .string ({ data := #[] })]]) fun v102 =>
     .isL [v102] [.tuple #[]] <|
     .ret (.tuple #[])))
    else
    (.load ⟨p1, 1, none⟩ 1 fun v103 =>
    .exI fun i104 =>
    .isL v103 [.int .i64 i104] <|
    .call 81 ([.pointer (some ⟨s, 0, none⟩), .agg #[.int .i64 2, .int .i64 0, .int .i64 i104, .int .u64 0, .int .u64 0, .int .u64 0, .slice none 0 0, .int .u64 0, .int .u64 0, .bool (decide (i89 ≥ i21)), .int .u64 0, .int .u64 0, .slice none 0 0, .int .i64 0, .int .i64 0, .int .u64 0, .string ({ data := #[] }), .string ({ data := #[] }), .int .u64 0, .int .i64 0, .string ({ data := #[] })]]) fun v105 =>
    .isL [v105] [.tuple #[]] <|
    .ret (.tuple #[])))
   else
   (.draw <|
   .load ⟨p1, 1, none⟩ 1 fun v106 =>
   .exI fun i107 =>
   .isL v106 [.int .i64 i107] <|
   .call 81 ([.pointer (some ⟨s, 0, none⟩), .agg #[.int .i64 2, .int .i64 0, .int .i64 i107, .int .u64 0, .int .u64 0, .int .u64 0, .slice none 0 0, .int .u64 0, .int .u64 0, .bool false, .int .u64 0, .int .u64 0, .slice none 0 0, .int .i64 0, .int .i64 0, .int .u64 0, .string ({ data := #[] }), .string ({ data := #[] }), .int .u64 0, .int .i64 0, .string ({ data := #[] })]]) fun v108 =>
   .isL [v108] [.tuple #[]] <|
   .ret (.tuple #[]))))
  else
  (.draw <|
  .load ⟨p1, 1, none⟩ 1 fun v109 =>
  .exI fun i110 =>
  .isL v109 [.int .i64 i110] <|
  .call 81 ([.pointer (some ⟨s, 0, none⟩), .agg #[.int .i64 2, .int .i64 0, .int .i64 i110, .int .u64 0, .int .u64 0, .int .u64 0, .slice none 0 0, .int .u64 0, .int .u64 0, .bool false, .int .u64 0, .int .u64 0, .slice none 0 0, .int .i64 0, .int .i64 0, .int .u64 0, .string ({ data := #[] }), .string ({ data := #[] }), .int .u64 0, .int .i64 0, .string ({ data := #[] })]]) fun v111 =>
  .isL [v111] [.tuple #[]] <|
  .ret (.tuple #[]))))
 else
 (.draw <|
 .load ⟨p1, 1, none⟩ 1 fun v112 =>
 .exI fun i113 =>
 .isL v112 [.int .i64 i113] <|
 .call 81 ([.pointer (some ⟨s, 0, none⟩), .agg #[.int .i64 2, .int .i64 0, .int .i64 i113, .int .u64 0, .int .u64 0, .int .u64 0, .slice none 0 0, .int .u64 0, .int .u64 0, .bool false, .int .u64 0, .int .u64 0, .slice none 0 0, .int .i64 0, .int .i64 0, .int .u64 0, .string ({ data := #[] }), .string ({ data := #[] }), .int .u64 0, .int .i64 0, .string ({ data := #[] })]]) fun v114 =>
 .isL [v114] [.tuple #[]] <|
 .ret (.tuple #[]))
theorem e89 (s : Nat) (m0 : Int) (m1 : Int) (m2 : Int) (m3 : Int) (m4 : Int) (m5 : Int) (m6a : Option Addr) (m6n : Nat) (m6c : Nat) (m7 : Int) (m8 : Int) (m9 : Bool) (m10 : Int) (m11 : Int) (m12a : Option Addr) (m12n : Nat) (m12c : Nat) (m13 : Int) (m14 : Int) (m15 : Int) (m16 : ByteArray) (m17 : ByteArray) (m18 : Int) (m19 : Int) (m20 : ByteArray) : genFn Try.prog noM noM Try.f89 [.pointer (some ⟨s, 0, none⟩), .agg #[.int .i64 m0, .int .i64 m1, .int .i64 m2, .int .u64 m3, .int .u64 m4, .int .u64 m5, .slice m6a m6n m6c, .int .u64 m7, .int .u64 m8, .bool m9, .int .u64 m10, .int .u64 m11, .slice m12a m12n m12c, .int .i64 m13, .int .i64 m14, .int .u64 m15, .string m16, .string m17, .int .u64 m18, .int .i64 m19, .string m20]] = t89 s m0 m1 m2 m3 m4 m5 m6a m6n m6c m7 m8 m9 m10 m11 m12a m12n m12c m13 m14 m15 m16 m17 m18 m19 m20 := by kernel_rfl
theorem r89 (s : Nat) (m0 : Int) (m1 : Int) (m2 : Int) (m3 : Int) (m4 : Int) (m5 : Int) (m6a : Option Addr) (m6n : Nat) (m6c : Nat) (m7 : Int) (m8 : Int) (m9 : Bool) (m10 : Int) (m11 : Int) (m12a : Option Addr) (m12n : Nat) (m12c : Nat) (m13 : Int) (m14 : Int) (m15 : Int) (m16 : ByteArray) (m17 : ByteArray) (m18 : Int) (m19 : Int) (m20 : ByteArray) {R : Value → World → Prop} {w : World} (h : (t89 s m0 m1 m2 m3 m4 m5 m6a m6n m6c m7 m8 m9 m10 m11 m12a m12n m12c m13 m14 m15 m16 m17 m18 m19 m20).wp Try.prog R (fun _ _ _ => False) w) : Runs Try.prog 89 [.pointer (some ⟨s, 0, none⟩), .agg #[.int .i64 m0, .int .i64 m1, .int .i64 m2, .int .u64 m3, .int .u64 m4, .int .u64 m5, .slice m6a m6n m6c, .int .u64 m7, .int .u64 m8, .bool m9, .int .u64 m10, .int .u64 m11, .slice m12a m12n m12c, .int .i64 m13, .int .i64 m14, .int .u64 m15, .string m16, .string m17, .int .u64 m18, .int .i64 m19, .string m20]] w R :=
 genFn_runs mixed noM noM Try.func89 (by kernel_rfl) (by rw [e89]; exact h)
def lv90 : Marks := (fun | some 5 => some [(4, .int .i64 0), (5, .int .i64 0)] | _ => none)
def t90 (s : Nat) (m0 : Int) (m1 : Int) (m2 : Int) (m3 : Int) (m4 : Int) (m5 : Int) (m6a : Option Addr) (m6n : Nat) (m6c : Nat) (m7 : Int) (m8 : Int) (m9 : Bool) (m10 : Int) (m11 : Int) (m12a : Option Addr) (m12n : Nat) (m12c : Nat) (m13 : Int) (m14 : Int) (m15 : Int) (m16 : ByteArray) (m17 : ByteArray) (m18 : Int) (m19 : Int) (m20 : ByteArray) : VC :=
 .new 70 [.int .i64 m0, .int .i64 m1, .int .i64 m2, .int .u64 m3, .int .u64 m4, .int .u64 m5, .slice m6a m6n m6c, .int .u64 m7, .int .u64 m8, .bool m9, .int .u64 m10, .int .u64 m11, .slice m12a m12n m12c, .int .i64 m13, .int .i64 m14, .int .u64 m15, .string m16, .string m17, .int .u64 m18, .int .i64 m19, .string m20] fun p1 =>
 .draw <|
 .load ⟨s, 9, none⟩ 1 fun v2 =>
 .exI fun i3 =>
 .isL v2 [.int .i64 i3] <|
 bif (i3 != 1) then
  (.ret (.tuple #[]))
 else
 (.load ⟨p1, 3, none⟩ 1 fun v4 =>
 .exI fun i5 =>
 .isL v4 [.int .u64 i5] <|
 .load ⟨s, 0, none⟩ 1 fun v6 =>
 .exI fun i7 =>
 .isL v6 [.int .u64 i7] <|
 bif (i5 != i7) then
  (.ret (.tuple #[]))
 else
 (.load ⟨p1, 9, none⟩ 1 fun v8 =>
 .exB fun b9 =>
 .isL v8 [.bool b9] <|
 bif !b9 then
  (.ret (.tuple #[]))
 else
 (.draw <|
 .load ⟨s, 11, none⟩ 1 fun v10 =>
 .exS fun a11 n11 c11 =>
 .isL v10 [.slice a11 n11 c11] <|
 .load ⟨p1, 1, none⟩ 1 fun v12 =>
 .exI fun i13 =>
 .isL v12 [.int .i64 i13] <|
 .some a11 fun x14 =>
 .need ((0 : Int) ≤ IntKind.i64.wrap (i13 - 1) ∧ IntKind.i64.wrap (i13 - 1) < (↑n11 : Int)) <|
 .store (x14.add ((IntKind.i64.wrap (i13 - 1)).toNat * 1)) [.bool true] <|
 .loop 0 [.int .i64 0, .int .i64 0] (fun v15 =>
  .exI fun i16 =>
  .exI fun i17 =>
  .isL v15 [.int .i64 i16, .int .i64 i17] <|
  .load ⟨s, 3, none⟩ 1 fun v18 =>
  .exI fun i19 =>
  .isL v18 [.int .i64 i19] <|
  bif (decide (i17 < i19)) then
   (.load ⟨s, 11, none⟩ 1 fun v20 =>
   .exS fun a21 n21 c21 =>
   .isL v20 [.slice a21 n21 c21] <|
   .some a21 fun x22 =>
   .need ((0 : Int) ≤ i17 ∧ i17 < (↑n21 : Int)) <|
   .load (x22.add (i17.toNat * 1)) 1 fun v23 =>
   .exB fun b24 =>
   .isL v23 [.bool b24] <|
   bif b24 then
    (.again 0 [.int .i64 (IntKind.i64.wrap (i16 + 1)), .int .i64 (IntKind.i64.wrap (i17 + 1))])
   else
   (.again 0 [.int .i64 i16, .int .i64 (IntKind.i64.wrap (i17 + 1))]))
  else
  (.call 79 ([.pointer (some ⟨s, 0, none⟩), .int .i64 i16]) fun v25 =>
  .exB fun b26 =>
  .isL [v25] [.bool b26] <|
  bif b26 then
   (.call 80 ([.pointer (some ⟨s, 0, none⟩)]) fun v27 =>
   .isL [v27] [.tuple #[]] <|
   .ret (.tuple #[]))
  else
  (.ret (.tuple #[])))))))
theorem e90 (s : Nat) (m0 : Int) (m1 : Int) (m2 : Int) (m3 : Int) (m4 : Int) (m5 : Int) (m6a : Option Addr) (m6n : Nat) (m6c : Nat) (m7 : Int) (m8 : Int) (m9 : Bool) (m10 : Int) (m11 : Int) (m12a : Option Addr) (m12n : Nat) (m12c : Nat) (m13 : Int) (m14 : Int) (m15 : Int) (m16 : ByteArray) (m17 : ByteArray) (m18 : Int) (m19 : Int) (m20 : ByteArray) : genFn Try.prog lv90 noM Try.f90 [.pointer (some ⟨s, 0, none⟩), .agg #[.int .i64 m0, .int .i64 m1, .int .i64 m2, .int .u64 m3, .int .u64 m4, .int .u64 m5, .slice m6a m6n m6c, .int .u64 m7, .int .u64 m8, .bool m9, .int .u64 m10, .int .u64 m11, .slice m12a m12n m12c, .int .i64 m13, .int .i64 m14, .int .u64 m15, .string m16, .string m17, .int .u64 m18, .int .i64 m19, .string m20]] = t90 s m0 m1 m2 m3 m4 m5 m6a m6n m6c m7 m8 m9 m10 m11 m12a m12n m12c m13 m14 m15 m16 m17 m18 m19 m20 := by kernel_rfl
theorem r90 (s : Nat) (m0 : Int) (m1 : Int) (m2 : Int) (m3 : Int) (m4 : Int) (m5 : Int) (m6a : Option Addr) (m6n : Nat) (m6c : Nat) (m7 : Int) (m8 : Int) (m9 : Bool) (m10 : Int) (m11 : Int) (m12a : Option Addr) (m12n : Nat) (m12c : Nat) (m13 : Int) (m14 : Int) (m15 : Int) (m16 : ByteArray) (m17 : ByteArray) (m18 : Int) (m19 : Int) (m20 : ByteArray) {R : Value → World → Prop} {w : World} (h : (t90 s m0 m1 m2 m3 m4 m5 m6a m6n m6c m7 m8 m9 m10 m11 m12a m12n m12c m13 m14 m15 m16 m17 m18 m19 m20).wp Try.prog R (fun _ _ _ => False) w) : Runs Try.prog 90 [.pointer (some ⟨s, 0, none⟩), .agg #[.int .i64 m0, .int .i64 m1, .int .i64 m2, .int .u64 m3, .int .u64 m4, .int .u64 m5, .slice m6a m6n m6c, .int .u64 m7, .int .u64 m8, .bool m9, .int .u64 m10, .int .u64 m11, .slice m12a m12n m12c, .int .i64 m13, .int .i64 m14, .int .u64 m15, .string m16, .string m17, .int .u64 m18, .int .i64 m19, .string m20]] w R :=
 genFn_runs mixed lv90 noM Try.func90 (by kernel_rfl) (by rw [e90]; exact h)
def lv91 : Marks := (fun | some 12 => some [(9, .int .i64 0)] | _ => none)
def t91 (s : Nat) (m0 : Int) (m1 : Int) (m2 : Int) (m3 : Int) (m4 : Int) (m5 : Int) (m6a : Option Addr) (m6n : Nat) (m6c : Nat) (m7 : Int) (m8 : Int) (m9 : Bool) (m10 : Int) (m11 : Int) (m12a : Option Addr) (m12n : Nat) (m12c : Nat) (m13 : Int) (m14 : Int) (m15 : Int) (m16 : ByteArray) (m17 : ByteArray) (m18 : Int) (m19 : Int) (m20 : ByteArray) : VC :=
 .new 70 [.int .i64 m0, .int .i64 m1, .int .i64 m2, .int .u64 m3, .int .u64 m4, .int .u64 m5, .slice m6a m6n m6c, .int .u64 m7, .int .u64 m8, .bool m9, .int .u64 m10, .int .u64 m11, .slice m12a m12n m12c, .int .i64 m13, .int .i64 m14, .int .u64 m15, .string m16, .string m17, .int .u64 m18, .int .i64 m19, .string m20] fun p1 =>
 .draw <|
 .load ⟨p1, 3, none⟩ 1 fun v2 =>
 .exI fun i3 =>
 .isL v2 [.int .u64 i3] <|
 .load ⟨s, 0, none⟩ 1 fun v4 =>
 .exI fun i5 =>
 .isL v4 [.int .u64 i5] <|
 bif (decide (i3 < i5)) then
  (.load ⟨p1, 1, none⟩ 1 fun v6 =>
  .exI fun i7 =>
  .isL v6 [.int .i64 i7] <|
  .load ⟨p1, 8, none⟩ 1 fun v8 =>
  .exI fun i9 =>
  .isL v8 [.int .u64 i9] <|
  .call 81 ([.pointer (some ⟨s, 0, none⟩), .agg #[.int .i64 4, .int .i64 0, .int .i64 i7, .int .u64 0, .int .u64 0, .int .u64 0, .slice none 0 0, .int .u64 0, .int .u64 i9, .bool false, .int .u64 0, .int .u64 0, .slice none 0 0, .int .i64 0, .int .i64 0, .int .u64 0, .string ({ data := #[] }), .string ({ data := #[] }), .int .u64 0, .int .i64 0, .string ({ data := #[] })]]) fun v10 =>
  .isL [v10] [.tuple #[]] <|
  .ret (.tuple #[]))
 else
 (.load ⟨p1, 1, none⟩ 1 fun v11 =>
 .exI fun i12 =>
 .isL v11 [.int .i64 i12] <|
 .call 77 ([.pointer (some ⟨s, 0, none⟩), .int .i64 0, .int .i64 i12]) fun v13 =>
 .isL [v13] [.tuple #[]] <|
 .load ⟨s, 0, none⟩ 17 fun v14 =>
 .exI fun i15 =>
 .exI fun i16 =>
 .exI fun i17 =>
 .exI fun i18 =>
 .exI fun i19 =>
 .exI fun i20 =>
 .exS fun a21 n21 c21 =>
 .exS fun a22 n22 c22 =>
 .exI fun i23 =>
 .exI fun i24 =>
 .exI fun i25 =>
 .exS fun a26 n26 c26 =>
 .exS fun a27 n27 c27 =>
 .exS fun a28 n28 c28 =>
 .exS fun a29 n29 c29 =>
 .exI fun i30 =>
 .exS fun a31 n31 c31 =>
 .isL v14 [.int .u64 i15, .int .i64 i16, .int .i64 i17, .int .i64 i18, .int .u64 i19, .int .u64 i20, .slice a21 n21 c21, .slice a22 n22 c22, .int .u64 i23, .int .i64 i24, .int .i64 i25, .slice a26 n26 c26, .slice a27 n27 c27, .slice a28 n28 c28, .slice a29 n29 c29, .int .u64 i30, .slice a31 n31 c31] <|
 .call 26 ([.agg #[.int .u64 i15, .int .i64 i16, .int .i64 i17, .int .i64 i18, .int .u64 i19, .int .u64 i20, .slice a21 n21 c21, .slice a22 n22 c22, .int .u64 i23, .int .i64 i24, .int .i64 i25, .slice a26 n26 c26, .slice a27 n27 c27, .slice a28 n28 c28, .slice a29 n29 c29, .int .u64 i30, .slice a31 n31 c31]]) fun v32 =>
 .exI fun i33 =>
 .exI fun i34 =>
 .isL [v32] [.tuple #[.int .u64 i33, .int .u64 i34]] <|
 .draw <|
 .load ⟨s, 0, none⟩ 17 fun v35 =>
 .exI fun i36 =>
 .exI fun i37 =>
 .exI fun i38 =>
 .exI fun i39 =>
 .exI fun i40 =>
 .exI fun i41 =>
 .exS fun a42 n42 c42 =>
 .exS fun a43 n43 c43 =>
 .exI fun i44 =>
 .exI fun i45 =>
 .exI fun i46 =>
 .exS fun a47 n47 c47 =>
 .exS fun a48 n48 c48 =>
 .exS fun a49 n49 c49 =>
 .exS fun a50 n50 c50 =>
 .exI fun i51 =>
 .exS fun a52 n52 c52 =>
 .isL v35 [.int .u64 i36, .int .i64 i37, .int .i64 i38, .int .i64 i39, .int .u64 i40, .int .u64 i41, .slice a42 n42 c42, .slice a43 n43 c43, .int .u64 i44, .int .i64 i45, .int .i64 i46, .slice a47 n47 c47, .slice a48 n48 c48, .slice a49 n49 c49, .slice a50 n50 c50, .int .u64 i51, .slice a52 n52 c52] <|
 .load ⟨p1, 4, none⟩ 1 fun v53 =>
 .exI fun i54 =>
 .isL v53 [.int .u64 i54] <|
 .call 28 ([.agg #[.int .u64 i36, .int .i64 i37, .int .i64 i38, .int .i64 i39, .int .u64 i40, .int .u64 i41, .slice a42 n42 c42, .slice a43 n43 c43, .int .u64 i44, .int .i64 i45, .int .i64 i46, .slice a47 n47 c47, .slice a48 n48 c48, .slice a49 n49 c49, .slice a50 n50 c50, .int .u64 i51, .slice a52 n52 c52], .int .u64 i54]) fun v55 =>
 .exI fun i56 =>
 .exB fun b57 =>
 .isL [v55] [.tuple #[.int .u64 i56, .bool b57]] <|
 .draw <|
 .load ⟨p1, 4, none⟩ 1 fun v58 =>
 .exI fun i59 =>
 .isL v58 [.int .u64 i59] <|
 .load ⟨s, 4, none⟩ 1 fun v60 =>
 .exI fun i61 =>
 .isL v60 [.int .u64 i61] <|
 bif (decide (i59 ≥ i61)) then
  (bif !b57 then
   (.load ⟨p1, 4, none⟩ 1 fun v62 =>
   .exI fun i63 =>
   .isL v62 [.int .u64 i63] <|
   bif (decide (i63 > 0)) then
    (.load ⟨p1, 4, none⟩ 1 fun v64 =>
    .exI fun i65 =>
    .isL v64 [.int .u64 i65] <|
    .load ⟨p1, 1, none⟩ 1 fun v66 =>
    .exI fun i67 =>
    .isL v66 [.int .i64 i67] <|
    .load ⟨p1, 8, none⟩ 1 fun v68 =>
    .exI fun i69 =>
    .isL v68 [.int .u64 i69] <|
    .call 81 ([.pointer (some ⟨s, 0, none⟩), .agg #[.int .i64 4, .int .i64 0, .int .i64 i67, .int .u64 0, .int .u64 (if IntKind.u64.wrap (i65 - 1) < i33 then IntKind.u64.wrap (i65 - 1) else i33), .int .u64 0, .slice none 0 0, .int .u64 0, .int .u64 i69, .bool false, .int .u64 0, .int .u64 0, .slice none 0 0, .int .i64 0, .int .i64 0, .int .u64 0, .string ({ data := #[] }), .string ({ data := #[] }), .int .u64 0, .int .i64 0, .string ({ data := #[] })]]) fun v70 =>
    .isL [v70] [.tuple #[]] <|
    .ret (.tuple #[]))
   else
   (.load ⟨p1, 1, none⟩ 1 fun v71 =>
   .exI fun i72 =>
   .isL v71 [.int .i64 i72] <|
   .load ⟨p1, 8, none⟩ 1 fun v73 =>
   .exI fun i74 =>
   .isL v73 [.int .u64 i74] <|
   .call 81 ([.pointer (some ⟨s, 0, none⟩), .agg #[.int .i64 4, .int .i64 0, .int .i64 i72, .int .u64 0, .int .u64 0, .int .u64 0, .slice none 0 0, .int .u64 0, .int .u64 i74, .bool false, .int .u64 0, .int .u64 0, .slice none 0 0, .int .i64 0, .int .i64 0, .int .u64 0, .string ({ data := #[] }), .string ({ data := #[] }), .int .u64 0, .int .i64 0, .string ({ data := #[] })]]) fun v75 =>
   .isL [v75] [.tuple #[]] <|
   .ret (.tuple #[])))
  else
  (.load ⟨p1, 5, none⟩ 1 fun v76 =>
  .exI fun i77 =>
  .isL v76 [.int .u64 i77] <|
  bif (i56 != i77) then
   (.load ⟨p1, 4, none⟩ 1 fun v78 =>
   .exI fun i79 =>
   .isL v78 [.int .u64 i79] <|
   bif (decide (i79 > 0)) then
    (.load ⟨p1, 4, none⟩ 1 fun v80 =>
    .exI fun i81 =>
    .isL v80 [.int .u64 i81] <|
    .load ⟨p1, 1, none⟩ 1 fun v82 =>
    .exI fun i83 =>
    .isL v82 [.int .i64 i83] <|
    .load ⟨p1, 8, none⟩ 1 fun v84 =>
    .exI fun i85 =>
    .isL v84 [.int .u64 i85] <|
    .call 81 ([.pointer (some ⟨s, 0, none⟩), .agg #[.int .i64 4, .int .i64 0, .int .i64 i83, .int .u64 0, .int .u64 (if IntKind.u64.wrap (i81 - 1) < i33 then IntKind.u64.wrap (i81 - 1) else i33), .int .u64 0, .slice none 0 0, .int .u64 0, .int .u64 i85, .bool false, .int .u64 0, .int .u64 0, .slice none 0 0, .int .i64 0, .int .i64 0, .int .u64 0, .string ({ data := #[] }), .string ({ data := #[] }), .int .u64 0, .int .i64 0, .string ({ data := #[] })]]) fun v86 =>
    .isL [v86] [.tuple #[]] <|
    .ret (.tuple #[]))
   else
   (.load ⟨p1, 1, none⟩ 1 fun v87 =>
   .exI fun i88 =>
   .isL v87 [.int .i64 i88] <|
   .load ⟨p1, 8, none⟩ 1 fun v89 =>
   .exI fun i90 =>
   .isL v89 [.int .u64 i90] <|
   .call 81 ([.pointer (some ⟨s, 0, none⟩), .agg #[.int .i64 4, .int .i64 0, .int .i64 i88, .int .u64 0, .int .u64 0, .int .u64 0, .slice none 0 0, .int .u64 0, .int .u64 i90, .bool false, .int .u64 0, .int .u64 0, .slice none 0 0, .int .i64 0, .int .i64 0, .int .u64 0, .string ({ data := #[] }), .string ({ data := #[] }), .int .u64 0, .int .i64 0, .string ({ data := #[] })]]) fun v91 =>
   .isL [v91] [.tuple #[]] <|
   .ret (.tuple #[])))
  else
  (.loop 0 [.int .i64 0] (fun v92 =>
   .exI fun i93 =>
   .isL v92 [.int .i64 i93] <|
   .load ⟨p1, 6, none⟩ 1 fun v94 =>
   .exS fun a95 n95 c95 =>
   .isL v94 [.slice a95 n95 c95] <|
   bif (decide (i93 < (↑n95 : Int))) then
    (.load ⟨p1, 4, none⟩ 1 fun v96 =>
    .exI fun i97 =>
    .isL v96 [.int .u64 i97] <|
    .load ⟨s, 0, none⟩ 17 fun v98 =>
    .exI fun i99 =>
    .exI fun i100 =>
    .exI fun i101 =>
    .exI fun i102 =>
    .exI fun i103 =>
    .exI fun i104 =>
    .exS fun a105 n105 c105 =>
    .exS fun a106 n106 c106 =>
    .exI fun i107 =>
    .exI fun i108 =>
    .exI fun i109 =>
    .exS fun a110 n110 c110 =>
    .exS fun a111 n111 c111 =>
    .exS fun a112 n112 c112 =>
    .exS fun a113 n113 c113 =>
    .exI fun i114 =>
    .exS fun a115 n115 c115 =>
    .isL v98 [.int .u64 i99, .int .i64 i100, .int .i64 i101, .int .i64 i102, .int .u64 i103, .int .u64 i104, .slice a105 n105 c105, .slice a106 n106 c106, .int .u64 i107, .int .i64 i108, .int .i64 i109, .slice a110 n110 c110, .slice a111 n111 c111, .slice a112 n112 c112, .slice a113 n113 c113, .int .u64 i114, .slice a115 n115 c115] <|
    .call 28 ([.agg #[.int .u64 i99, .int .i64 i100, .int .i64 i101, .int .i64 i102, .int .u64 i103, .int .u64 i104, .slice a105 n105 c105, .slice a106 n106 c106, .int .u64 i107, .int .i64 i108, .int .i64 i109, .slice a110 n110 c110, .slice a111 n111 c111, .slice a112 n112 c112, .slice a113 n113 c113, .int .u64 i114, .slice a115 n115 c115], .int .u64 (IntKind.u64.wrap (IntKind.u64.wrap (i97 + 1) + IntKind.u64.wrap i93))]) fun v116 =>
    .exI fun i117 =>
    .exB fun b118 =>
    .isL [v116] [.tuple #[.int .u64 i117, .bool b118]] <|
    .load ⟨s, 4, none⟩ 1 fun v119 =>
    .exI fun i120 =>
    .isL v119 [.int .u64 i120] <|
    bif (decide (IntKind.u64.wrap (IntKind.u64.wrap (i97 + 1) + IntKind.u64.wrap i93) ≤ i120)) then
     (.again 0 [.int .i64 (IntKind.i64.wrap (i93 + 1))])
    else
    (bif b118 then
     (.load ⟨p1, 6, none⟩ 1 fun v121 =>
     .exS fun a122 n122 c122 =>
     .isL v121 [.slice a122 n122 c122] <|
     .some a122 fun x123 =>
     .need ((0 : Int) ≤ i93 ∧ i93 < (↑n122 : Int)) <|
     .load (x123.add (i93.toNat * 2)) 1 fun v124 =>
     .exI fun i125 =>
     .isL v124 [.int .u64 i125] <|
     bif (i117 == i125) then
      (.again 0 [.int .i64 (IntKind.i64.wrap (i93 + 1))])
     else
     (bif b118 then
      (.draw <|
      .load ⟨s, 7, none⟩ 1 fun v126 =>
      .exS fun a127 n127 c127 =>
      .isL v126 [.slice a127 n127 c127] <|
      .load ⟨s, 4, none⟩ 1 fun v128 =>
      .exI fun i129 =>
      .isL v128 [.int .u64 i129] <|
      .need ((0 : Int) ≤ IntKind.u64.wrap (IntKind.u64.wrap (IntKind.u64.wrap (IntKind.u64.wrap (i97 + 1) + IntKind.u64.wrap i93) - i129) - 1) ∧ IntKind.u64.wrap (IntKind.u64.wrap (IntKind.u64.wrap (IntKind.u64.wrap (i97 + 1) + IntKind.u64.wrap i93) - i129) - 1) ≤ (↑c127 : Int)) <|
      .store ⟨s, 7, none⟩ [.slice (if c127 = 0 then a127 else Option.map (fun x => x) a127) ((IntKind.u64.wrap (IntKind.u64.wrap (IntKind.u64.wrap (IntKind.u64.wrap (i97 + 1) + IntKind.u64.wrap i93) - i129) - 1)).toNat - 0) (c127 - 0)] <|
      .load ⟨s, 17, none⟩ 1 fun v130 =>
      .exS fun a131 n131 c131 =>
      .isL v130 [.slice a131 n131 c131] <|
      .new 59 [.int .i64 3, .int .u64 0, .int .i64 0, .int .u64 0, .slice none 0 0, .int .u64 (IntKind.u64.wrap (IntKind.u64.wrap (i97 + 1) + IntKind.u64.wrap i93)), .int .u64 0, .int .u64 0, .slice none 0 0] fun p132 =>
      .append 59 9 104 [.int .i64 0, .int .u64 0, .int .i64 0, .int .u64 0, .slice none 0 0, .int .u64 0, .int .u64 0, .int .u64 0, .slice none 0 0] a131 n131 c131 (some ⟨p132, 0, none⟩) 1 fun a133 n133 c133 =>
      .store ⟨s, 17, none⟩ [.slice a133 n133 c133] <|
      .load ⟨p1, 6, none⟩ 1 fun v134 =>
      .exS fun a135 n135 c135 =>
      .isL v134 [.slice a135 n135 c135] <|
      .some a135 fun x136 =>
      .need ((0 : Int) ≤ i93 ∧ i93 < (↑n135 : Int)) <|
      .load (x136.add (i93.toNat * 2)) 2 fun v137 =>
      .exI fun i138 =>
      .exS fun a139 n139 c139 =>
      .isL v137 [.int .u64 i138, .slice a139 n139 c139] <|
      .call 84 ([.pointer (some ⟨s, 0, none⟩), .agg #[.int .u64 i138, .slice a139 n139 c139]]) fun v140 =>
      .isL [v140] [.tuple #[]] <|
      .again 0 [.int .i64 (IntKind.i64.wrap (i93 + 1))])
     else
     (.load ⟨p1, 6, none⟩ 1 fun v141 =>
     .exS fun a142 n142 c142 =>
     .isL v141 [.slice a142 n142 c142] <|
     .some a142 fun x143 =>
     .need ((0 : Int) ≤ i93 ∧ i93 < (↑n142 : Int)) <|
     .load (x143.add (i93.toNat * 2)) 2 fun v144 =>
     .exI fun i145 =>
     .exS fun a146 n146 c146 =>
     .isL v144 [.int .u64 i145, .slice a146 n146 c146] <|
     .call 84 ([.pointer (some ⟨s, 0, none⟩), .agg #[.int .u64 i145, .slice a146 n146 c146]]) fun v147 =>
     .isL [v147] [.tuple #[]] <|
     .again 0 [.int .i64 (IntKind.i64.wrap (i93 + 1))])))
    else
    (bif b118 then
     (.draw <|
     .load ⟨s, 7, none⟩ 1 fun v148 =>
     .exS fun a149 n149 c149 =>
     .isL v148 [.slice a149 n149 c149] <|
     .load ⟨s, 4, none⟩ 1 fun v150 =>
     .exI fun i151 =>
     .isL v150 [.int .u64 i151] <|
     .need ((0 : Int) ≤ IntKind.u64.wrap (IntKind.u64.wrap (IntKind.u64.wrap (IntKind.u64.wrap (i97 + 1) + IntKind.u64.wrap i93) - i151) - 1) ∧ IntKind.u64.wrap (IntKind.u64.wrap (IntKind.u64.wrap (IntKind.u64.wrap (i97 + 1) + IntKind.u64.wrap i93) - i151) - 1) ≤ (↑c149 : Int)) <|
     .store ⟨s, 7, none⟩ [.slice (if c149 = 0 then a149 else Option.map (fun x => x) a149) ((IntKind.u64.wrap (IntKind.u64.wrap (IntKind.u64.wrap (IntKind.u64.wrap (i97 + 1) + IntKind.u64.wrap i93) - i151) - 1)).toNat - 0) (c149 - 0)] <|
     .load ⟨s, 17, none⟩ 1 fun v152 =>
     .exS fun a153 n153 c153 =>
     .isL v152 [.slice a153 n153 c153] <|
     .new 59 [.int .i64 3, .int .u64 0, .int .i64 0, .int .u64 0, .slice none 0 0, .int .u64 (IntKind.u64.wrap (IntKind.u64.wrap (i97 + 1) + IntKind.u64.wrap i93)), .int .u64 0, .int .u64 0, .slice none 0 0] fun p154 =>
     .append 59 9 104 [.int .i64 0, .int .u64 0, .int .i64 0, .int .u64 0, .slice none 0 0, .int .u64 0, .int .u64 0, .int .u64 0, .slice none 0 0] a153 n153 c153 (some ⟨p154, 0, none⟩) 1 fun a155 n155 c155 =>
     .store ⟨s, 17, none⟩ [.slice a155 n155 c155] <|
     .load ⟨p1, 6, none⟩ 1 fun v156 =>
     .exS fun a157 n157 c157 =>
     .isL v156 [.slice a157 n157 c157] <|
     .some a157 fun x158 =>
     .need ((0 : Int) ≤ i93 ∧ i93 < (↑n157 : Int)) <|
     .load (x158.add (i93.toNat * 2)) 2 fun v159 =>
     .exI fun i160 =>
     .exS fun a161 n161 c161 =>
     .isL v159 [.int .u64 i160, .slice a161 n161 c161] <|
     .call 84 ([.pointer (some ⟨s, 0, none⟩), .agg #[.int .u64 i160, .slice a161 n161 c161]]) fun v162 =>
     .isL [v162] [.tuple #[]] <|
     .again 0 [.int .i64 (IntKind.i64.wrap (i93 + 1))])
    else
    (.load ⟨p1, 6, none⟩ 1 fun v163 =>
    .exS fun a164 n164 c164 =>
    .isL v163 [.slice a164 n164 c164] <|
    .some a164 fun x165 =>
    .need ((0 : Int) ≤ i93 ∧ i93 < (↑n164 : Int)) <|
    .load (x165.add (i93.toNat * 2)) 2 fun v166 =>
    .exI fun i167 =>
    .exS fun a168 n168 c168 =>
    .isL v166 [.int .u64 i167, .slice a168 n168 c168] <|
    .call 84 ([.pointer (some ⟨s, 0, none⟩), .agg #[.int .u64 i167, .slice a168 n168 c168]]) fun v169 =>
    .isL [v169] [.tuple #[]] <|
    .again 0 [.int .i64 (IntKind.i64.wrap (i93 + 1))]))))
   else
   (.load ⟨p1, 4, none⟩ 1 fun v170 =>
   .exI fun i171 =>
   .isL v170 [.int .u64 i171] <|
   .load ⟨p1, 6, none⟩ 1 fun v172 =>
   .exS fun a173 n173 c173 =>
   .isL v172 [.slice a173 n173 c173] <|
   .draw <|
   .load ⟨s, 8, none⟩ 1 fun v174 =>
   .exI fun i175 =>
   .isL v174 [.int .u64 i175] <|
   .load ⟨p1, 7, none⟩ 1 fun v176 =>
   .exI fun i177 =>
   .isL v176 [.int .u64 i177] <|
   .store ⟨s, 8, none⟩ [.int .u64 (if (if IntKind.u64.wrap (i171 + IntKind.u64.wrap (↑n173 : Int)) < i177 then IntKind.u64.wrap (i171 + IntKind.u64.wrap (↑n173 : Int)) else i177) > i175 then if IntKind.u64.wrap (i171 + IntKind.u64.wrap (↑n173 : Int)) < i177 then IntKind.u64.wrap (i171 + IntKind.u64.wrap (↑n173 : Int)) else i177 else i175)] <|
   .load ⟨p1, 1, none⟩ 1 fun v178 =>
   .exI fun i179 =>
   .isL v178 [.int .i64 i179] <|
   .load ⟨p1, 8, none⟩ 1 fun v180 =>
   .exI fun i181 =>
   .isL v180 [.int .u64 i181] <|
   .call 81 ([.pointer (some ⟨s, 0, none⟩), .agg #[.int .i64 4, .int .i64 0, .int .i64 i179, .int .u64 0, .int .u64 (IntKind.u64.wrap (i171 + IntKind.u64.wrap (↑n173 : Int))), .int .u64 0, .slice none 0 0, .int .u64 0, .int .u64 i181, .bool true, .int .u64 0, .int .u64 0, .slice none 0 0, .int .i64 0, .int .i64 0, .int .u64 0, .string ({ data := #[] }), .string ({ data := #[] }), .int .u64 0, .int .i64 0, .string ({ data := #[] })]]) fun v182 =>
   .isL [v182] [.tuple #[]] <|
   .ret (.tuple #[]))))))
 else
 (.loop 0 [.int .i64 0] (fun v183 =>
  .exI fun i184 =>
  .isL v183 [.int .i64 i184] <|
  .load ⟨p1, 6, none⟩ 1 fun v185 =>
  .exS fun a186 n186 c186 =>
  .isL v185 [.slice a186 n186 c186] <|
  bif (decide (i184 < (↑n186 : Int))) then
   (.load ⟨p1, 4, none⟩ 1 fun v187 =>
   .exI fun i188 =>
   .isL v187 [.int .u64 i188] <|
   .load ⟨s, 0, none⟩ 17 fun v189 =>
   .exI fun i190 =>
   .exI fun i191 =>
   .exI fun i192 =>
   .exI fun i193 =>
   .exI fun i194 =>
   .exI fun i195 =>
   .exS fun a196 n196 c196 =>
   .exS fun a197 n197 c197 =>
   .exI fun i198 =>
   .exI fun i199 =>
   .exI fun i200 =>
   .exS fun a201 n201 c201 =>
   .exS fun a202 n202 c202 =>
   .exS fun a203 n203 c203 =>
   .exS fun a204 n204 c204 =>
   .exI fun i205 =>
   .exS fun a206 n206 c206 =>
   .isL v189 [.int .u64 i190, .int .i64 i191, .int .i64 i192, .int .i64 i193, .int .u64 i194, .int .u64 i195, .slice a196 n196 c196, .slice a197 n197 c197, .int .u64 i198, .int .i64 i199, .int .i64 i200, .slice a201 n201 c201, .slice a202 n202 c202, .slice a203 n203 c203, .slice a204 n204 c204, .int .u64 i205, .slice a206 n206 c206] <|
   .call 28 ([.agg #[.int .u64 i190, .int .i64 i191, .int .i64 i192, .int .i64 i193, .int .u64 i194, .int .u64 i195, .slice a196 n196 c196, .slice a197 n197 c197, .int .u64 i198, .int .i64 i199, .int .i64 i200, .slice a201 n201 c201, .slice a202 n202 c202, .slice a203 n203 c203, .slice a204 n204 c204, .int .u64 i205, .slice a206 n206 c206], .int .u64 (IntKind.u64.wrap (IntKind.u64.wrap (i188 + 1) + IntKind.u64.wrap i184))]) fun v207 =>
   .exI fun i208 =>
   .exB fun b209 =>
   .isL [v207] [.tuple #[.int .u64 i208, .bool b209]] <|
   .load ⟨s, 4, none⟩ 1 fun v210 =>
   .exI fun i211 =>
   .isL v210 [.int .u64 i211] <|
   bif (decide (IntKind.u64.wrap (IntKind.u64.wrap (i188 + 1) + IntKind.u64.wrap i184) ≤ i211)) then
    (.again 0 [.int .i64 (IntKind.i64.wrap (i184 + 1))])
   else
   (bif b209 then
    (.load ⟨p1, 6, none⟩ 1 fun v212 =>
    .exS fun a213 n213 c213 =>
    .isL v212 [.slice a213 n213 c213] <|
    .some a213 fun x214 =>
    .need ((0 : Int) ≤ i184 ∧ i184 < (↑n213 : Int)) <|
    .load (x214.add (i184.toNat * 2)) 1 fun v215 =>
    .exI fun i216 =>
    .isL v215 [.int .u64 i216] <|
    bif (i208 == i216) then
     (.again 0 [.int .i64 (IntKind.i64.wrap (i184 + 1))])
    else
    (bif b209 then
     (.draw <|
     .load ⟨s, 7, none⟩ 1 fun v217 =>
     .exS fun a218 n218 c218 =>
     .isL v217 [.slice a218 n218 c218] <|
     .load ⟨s, 4, none⟩ 1 fun v219 =>
     .exI fun i220 =>
     .isL v219 [.int .u64 i220] <|
     .need ((0 : Int) ≤ IntKind.u64.wrap (IntKind.u64.wrap (IntKind.u64.wrap (IntKind.u64.wrap (i188 + 1) + IntKind.u64.wrap i184) - i220) - 1) ∧ IntKind.u64.wrap (IntKind.u64.wrap (IntKind.u64.wrap (IntKind.u64.wrap (i188 + 1) + IntKind.u64.wrap i184) - i220) - 1) ≤ (↑c218 : Int)) <|
     .store ⟨s, 7, none⟩ [.slice (if c218 = 0 then a218 else Option.map (fun x => x) a218) ((IntKind.u64.wrap (IntKind.u64.wrap (IntKind.u64.wrap (IntKind.u64.wrap (i188 + 1) + IntKind.u64.wrap i184) - i220) - 1)).toNat - 0) (c218 - 0)] <|
     .load ⟨s, 17, none⟩ 1 fun v221 =>
     .exS fun a222 n222 c222 =>
     .isL v221 [.slice a222 n222 c222] <|
     .new 59 [.int .i64 3, .int .u64 0, .int .i64 0, .int .u64 0, .slice none 0 0, .int .u64 (IntKind.u64.wrap (IntKind.u64.wrap (i188 + 1) + IntKind.u64.wrap i184)), .int .u64 0, .int .u64 0, .slice none 0 0] fun p223 =>
     .append 59 9 104 [.int .i64 0, .int .u64 0, .int .i64 0, .int .u64 0, .slice none 0 0, .int .u64 0, .int .u64 0, .int .u64 0, .slice none 0 0] a222 n222 c222 (some ⟨p223, 0, none⟩) 1 fun a224 n224 c224 =>
     .store ⟨s, 17, none⟩ [.slice a224 n224 c224] <|
     .load ⟨p1, 6, none⟩ 1 fun v225 =>
     .exS fun a226 n226 c226 =>
     .isL v225 [.slice a226 n226 c226] <|
     .some a226 fun x227 =>
     .need ((0 : Int) ≤ i184 ∧ i184 < (↑n226 : Int)) <|
     .load (x227.add (i184.toNat * 2)) 2 fun v228 =>
     .exI fun i229 =>
     .exS fun a230 n230 c230 =>
     .isL v228 [.int .u64 i229, .slice a230 n230 c230] <|
     .call 84 ([.pointer (some ⟨s, 0, none⟩), .agg #[.int .u64 i229, .slice a230 n230 c230]]) fun v231 =>
     .isL [v231] [.tuple #[]] <|
     .again 0 [.int .i64 (IntKind.i64.wrap (i184 + 1))])
    else
    (.load ⟨p1, 6, none⟩ 1 fun v232 =>
    .exS fun a233 n233 c233 =>
    .isL v232 [.slice a233 n233 c233] <|
    .some a233 fun x234 =>
    .need ((0 : Int) ≤ i184 ∧ i184 < (↑n233 : Int)) <|
    .load (x234.add (i184.toNat * 2)) 2 fun v235 =>
    .exI fun i236 =>
    .exS fun a237 n237 c237 =>
    .isL v235 [.int .u64 i236, .slice a237 n237 c237] <|
    .call 84 ([.pointer (some ⟨s, 0, none⟩), .agg #[.int .u64 i236, .slice a237 n237 c237]]) fun v238 =>
    .isL [v238] [.tuple #[]] <|
    .again 0 [.int .i64 (IntKind.i64.wrap (i184 + 1))])))
   else
   (bif b209 then
    (.draw <|
    .load ⟨s, 7, none⟩ 1 fun v239 =>
    .exS fun a240 n240 c240 =>
    .isL v239 [.slice a240 n240 c240] <|
    .load ⟨s, 4, none⟩ 1 fun v241 =>
    .exI fun i242 =>
    .isL v241 [.int .u64 i242] <|
    .need ((0 : Int) ≤ IntKind.u64.wrap (IntKind.u64.wrap (IntKind.u64.wrap (IntKind.u64.wrap (i188 + 1) + IntKind.u64.wrap i184) - i242) - 1) ∧ IntKind.u64.wrap (IntKind.u64.wrap (IntKind.u64.wrap (IntKind.u64.wrap (i188 + 1) + IntKind.u64.wrap i184) - i242) - 1) ≤ (↑c240 : Int)) <|
    .store ⟨s, 7, none⟩ [.slice (if c240 = 0 then a240 else Option.map (fun x => x) a240) ((IntKind.u64.wrap (IntKind.u64.wrap (IntKind.u64.wrap (IntKind.u64.wrap (i188 + 1) + IntKind.u64.wrap i184) - i242) - 1)).toNat - 0) (c240 - 0)] <|
    .load ⟨s, 17, none⟩ 1 fun v243 =>
    .exS fun a244 n244 c244 =>
    .isL v243 [.slice a244 n244 c244] <|
    .new 59 [.int .i64 3, .int .u64 0, .int .i64 0, .int .u64 0, .slice none 0 0, .int .u64 (IntKind.u64.wrap (IntKind.u64.wrap (i188 + 1) + IntKind.u64.wrap i184)), .int .u64 0, .int .u64 0, .slice none 0 0] fun p245 =>
    .append 59 9 104 [.int .i64 0, .int .u64 0, .int .i64 0, .int .u64 0, .slice none 0 0, .int .u64 0, .int .u64 0, .int .u64 0, .slice none 0 0] a244 n244 c244 (some ⟨p245, 0, none⟩) 1 fun a246 n246 c246 =>
    .store ⟨s, 17, none⟩ [.slice a246 n246 c246] <|
    .load ⟨p1, 6, none⟩ 1 fun v247 =>
    .exS fun a248 n248 c248 =>
    .isL v247 [.slice a248 n248 c248] <|
    .some a248 fun x249 =>
    .need ((0 : Int) ≤ i184 ∧ i184 < (↑n248 : Int)) <|
    .load (x249.add (i184.toNat * 2)) 2 fun v250 =>
    .exI fun i251 =>
    .exS fun a252 n252 c252 =>
    .isL v250 [.int .u64 i251, .slice a252 n252 c252] <|
    .call 84 ([.pointer (some ⟨s, 0, none⟩), .agg #[.int .u64 i251, .slice a252 n252 c252]]) fun v253 =>
    .isL [v253] [.tuple #[]] <|
    .again 0 [.int .i64 (IntKind.i64.wrap (i184 + 1))])
   else
   (.load ⟨p1, 6, none⟩ 1 fun v254 =>
   .exS fun a255 n255 c255 =>
   .isL v254 [.slice a255 n255 c255] <|
   .some a255 fun x256 =>
   .need ((0 : Int) ≤ i184 ∧ i184 < (↑n255 : Int)) <|
   .load (x256.add (i184.toNat * 2)) 2 fun v257 =>
   .exI fun i258 =>
   .exS fun a259 n259 c259 =>
   .isL v257 [.int .u64 i258, .slice a259 n259 c259] <|
   .call 84 ([.pointer (some ⟨s, 0, none⟩), .agg #[.int .u64 i258, .slice a259 n259 c259]]) fun v260 =>
   .isL [v260] [.tuple #[]] <|
   .again 0 [.int .i64 (IntKind.i64.wrap (i184 + 1))]))))
  else
  (.load ⟨p1, 4, none⟩ 1 fun v261 =>
  .exI fun i262 =>
  .isL v261 [.int .u64 i262] <|
  .load ⟨p1, 6, none⟩ 1 fun v263 =>
  .exS fun a264 n264 c264 =>
  .isL v263 [.slice a264 n264 c264] <|
  .draw <|
  .load ⟨s, 8, none⟩ 1 fun v265 =>
  .exI fun i266 =>
  .isL v265 [.int .u64 i266] <|
  .load ⟨p1, 7, none⟩ 1 fun v267 =>
  .exI fun i268 =>
  .isL v267 [.int .u64 i268] <|
  .store ⟨s, 8, none⟩ [.int .u64 (if (if IntKind.u64.wrap (i262 + IntKind.u64.wrap (↑n264 : Int)) < i268 then IntKind.u64.wrap (i262 + IntKind.u64.wrap (↑n264 : Int)) else i268) > i266 then if IntKind.u64.wrap (i262 + IntKind.u64.wrap (↑n264 : Int)) < i268 then IntKind.u64.wrap (i262 + IntKind.u64.wrap (↑n264 : Int)) else i268 else i266)] <|
  .load ⟨p1, 1, none⟩ 1 fun v269 =>
  .exI fun i270 =>
  .isL v269 [.int .i64 i270] <|
  .load ⟨p1, 8, none⟩ 1 fun v271 =>
  .exI fun i272 =>
  .isL v271 [.int .u64 i272] <|
  .call 81 ([.pointer (some ⟨s, 0, none⟩), .agg #[.int .i64 4, .int .i64 0, .int .i64 i270, .int .u64 0, .int .u64 (IntKind.u64.wrap (i262 + IntKind.u64.wrap (↑n264 : Int))), .int .u64 0, .slice none 0 0, .int .u64 0, .int .u64 i272, .bool true, .int .u64 0, .int .u64 0, .slice none 0 0, .int .i64 0, .int .i64 0, .int .u64 0, .string ({ data := #[] }), .string ({ data := #[] }), .int .u64 0, .int .i64 0, .string ({ data := #[] })]]) fun v273 =>
  .isL [v273] [.tuple #[]] <|
  .ret (.tuple #[])))))
theorem e91 (s : Nat) (m0 : Int) (m1 : Int) (m2 : Int) (m3 : Int) (m4 : Int) (m5 : Int) (m6a : Option Addr) (m6n : Nat) (m6c : Nat) (m7 : Int) (m8 : Int) (m9 : Bool) (m10 : Int) (m11 : Int) (m12a : Option Addr) (m12n : Nat) (m12c : Nat) (m13 : Int) (m14 : Int) (m15 : Int) (m16 : ByteArray) (m17 : ByteArray) (m18 : Int) (m19 : Int) (m20 : ByteArray) : genFn Try.prog lv91 noM Try.f91 [.pointer (some ⟨s, 0, none⟩), .agg #[.int .i64 m0, .int .i64 m1, .int .i64 m2, .int .u64 m3, .int .u64 m4, .int .u64 m5, .slice m6a m6n m6c, .int .u64 m7, .int .u64 m8, .bool m9, .int .u64 m10, .int .u64 m11, .slice m12a m12n m12c, .int .i64 m13, .int .i64 m14, .int .u64 m15, .string m16, .string m17, .int .u64 m18, .int .i64 m19, .string m20]] = t91 s m0 m1 m2 m3 m4 m5 m6a m6n m6c m7 m8 m9 m10 m11 m12a m12n m12c m13 m14 m15 m16 m17 m18 m19 m20 := by kernel_rfl
theorem r91 (s : Nat) (m0 : Int) (m1 : Int) (m2 : Int) (m3 : Int) (m4 : Int) (m5 : Int) (m6a : Option Addr) (m6n : Nat) (m6c : Nat) (m7 : Int) (m8 : Int) (m9 : Bool) (m10 : Int) (m11 : Int) (m12a : Option Addr) (m12n : Nat) (m12c : Nat) (m13 : Int) (m14 : Int) (m15 : Int) (m16 : ByteArray) (m17 : ByteArray) (m18 : Int) (m19 : Int) (m20 : ByteArray) {R : Value → World → Prop} {w : World} (h : (t91 s m0 m1 m2 m3 m4 m5 m6a m6n m6c m7 m8 m9 m10 m11 m12a m12n m12c m13 m14 m15 m16 m17 m18 m19 m20).wp Try.prog R (fun _ _ _ => False) w) : Runs Try.prog 91 [.pointer (some ⟨s, 0, none⟩), .agg #[.int .i64 m0, .int .i64 m1, .int .i64 m2, .int .u64 m3, .int .u64 m4, .int .u64 m5, .slice m6a m6n m6c, .int .u64 m7, .int .u64 m8, .bool m9, .int .u64 m10, .int .u64 m11, .slice m12a m12n m12c, .int .i64 m13, .int .i64 m14, .int .u64 m15, .string m16, .string m17, .int .u64 m18, .int .i64 m19, .string m20]] w R :=
 genFn_runs mixed lv91 noM Try.func91 (by kernel_rfl) (by rw [e91]; exact h)
def t92 (s : Nat) (m0 : Int) (m1 : Int) (m2 : Int) (m3 : Int) (m4 : Int) (m5 : Int) (m6a : Option Addr) (m6n : Nat) (m6c : Nat) (m7 : Int) (m8 : Int) (m9 : Bool) (m10 : Int) (m11 : Int) (m12a : Option Addr) (m12n : Nat) (m12c : Nat) (m13 : Int) (m14 : Int) (m15 : Int) (m16 : ByteArray) (m17 : ByteArray) (m18 : Int) (m19 : Int) (m20 : ByteArray) : VC :=
 .new 70 [.int .i64 m0, .int .i64 m1, .int .i64 m2, .int .u64 m3, .int .u64 m4, .int .u64 m5, .slice m6a m6n m6c, .int .u64 m7, .int .u64 m8, .bool m9, .int .u64 m10, .int .u64 m11, .slice m12a m12n m12c, .int .i64 m13, .int .i64 m14, .int .u64 m15, .string m16, .string m17, .int .u64 m18, .int .i64 m19, .string m20] fun p1 =>
 .draw <|
 .load ⟨s, 9, none⟩ 1 fun v2 =>
 .exI fun i3 =>
 .isL v2 [.int .i64 i3] <|
 bif (i3 != 2) then
  (.ret (.tuple #[]))
 else
 (.load ⟨p1, 3, none⟩ 1 fun v4 =>
 .exI fun i5 =>
 .isL v4 [.int .u64 i5] <|
 .load ⟨s, 0, none⟩ 1 fun v6 =>
 .exI fun i7 =>
 .isL v6 [.int .u64 i7] <|
 bif (i5 != i7) then
  (.ret (.tuple #[]))
 else
 (.load ⟨p1, 1, none⟩ 1 fun v8 =>
 .exI fun i9 =>
 .isL v8 [.int .i64 i9] <|
 .load ⟨s, 0, none⟩ 17 fun v10 =>
 .exI fun i11 =>
 .exI fun i12 =>
 .exI fun i13 =>
 .exI fun i14 =>
 .exI fun i15 =>
 .exI fun i16 =>
 .exS fun a17 n17 c17 =>
 .exS fun a18 n18 c18 =>
 .exI fun i19 =>
 .exI fun i20 =>
 .exI fun i21 =>
 .exS fun a22 n22 c22 =>
 .exS fun a23 n23 c23 =>
 .exS fun a24 n24 c24 =>
 .exS fun a25 n25 c25 =>
 .exI fun i26 =>
 .exS fun a27 n27 c27 =>
 .isL v10 [.int .u64 i11, .int .i64 i12, .int .i64 i13, .int .i64 i14, .int .u64 i15, .int .u64 i16, .slice a17 n17 c17, .slice a18 n18 c18, .int .u64 i19, .int .i64 i20, .int .i64 i21, .slice a22 n22 c22, .slice a23 n23 c23, .slice a24 n24 c24, .slice a25 n25 c25, .int .u64 i26, .slice a27 n27 c27] <|
 .call 26 ([.agg #[.int .u64 i11, .int .i64 i12, .int .i64 i13, .int .i64 i14, .int .u64 i15, .int .u64 i16, .slice a17 n17 c17, .slice a18 n18 c18, .int .u64 i19, .int .i64 i20, .int .i64 i21, .slice a22 n22 c22, .slice a23 n23 c23, .slice a24 n24 c24, .slice a25 n25 c25, .int .u64 i26, .slice a27 n27 c27]]) fun v28 =>
 .exI fun i29 =>
 .exI fun i30 =>
 .isL [v28] [.tuple #[.int .u64 i29, .int .u64 i30]] <|
 .draw <|
 .load ⟨s, 14, none⟩ 1 fun v31 =>
 .exS fun a32 n32 c32 =>
 .isL v31 [.slice a32 n32 c32] <|
 .load ⟨s, 14, none⟩ 1 fun v33 =>
 .exS fun a34 n34 c34 =>
 .isL v33 [.slice a34 n34 c34] <|
 .some a34 fun x35 =>
 .need ((0 : Int) ≤ IntKind.i64.wrap (i9 - 1) ∧ IntKind.i64.wrap (i9 - 1) < (↑n34 : Int)) <|
 .load (x35.add ((IntKind.i64.wrap (i9 - 1)).toNat * 1)) 1 fun v36 =>
 .exI fun i37 =>
 .isL v36 [.int .u64 i37] <|
 .load ⟨p1, 8, none⟩ 1 fun v38 =>
 .exI fun i39 =>
 .isL v38 [.int .u64 i39] <|
 .some a32 fun x40 =>
 .need ((0 : Int) ≤ IntKind.i64.wrap (i9 - 1) ∧ IntKind.i64.wrap (i9 - 1) < (↑n32 : Int)) <|
 .store (x40.add ((IntKind.i64.wrap (i9 - 1)).toNat * 1)) [.int .u64 (if i39 > i37 then i39 else i37)] <|
 .load ⟨p1, 9, none⟩ 1 fun v41 =>
 .exB fun b42 =>
 .isL v41 [.bool b42] <|
 bif b42 then
  (.draw <|
  .load ⟨s, 13, none⟩ 1 fun v43 =>
  .exS fun a44 n44 c44 =>
  .isL v43 [.slice a44 n44 c44] <|
  .load ⟨s, 13, none⟩ 1 fun v45 =>
  .exS fun a46 n46 c46 =>
  .isL v45 [.slice a46 n46 c46] <|
  .some a46 fun x47 =>
  .need ((0 : Int) ≤ IntKind.i64.wrap (i9 - 1) ∧ IntKind.i64.wrap (i9 - 1) < (↑n46 : Int)) <|
  .load (x47.add ((IntKind.i64.wrap (i9 - 1)).toNat * 1)) 1 fun v48 =>
  .exI fun i49 =>
  .isL v48 [.int .u64 i49] <|
  .load ⟨p1, 4, none⟩ 1 fun v50 =>
  .exI fun i51 =>
  .isL v50 [.int .u64 i51] <|
  .some a44 fun x52 =>
  .need ((0 : Int) ≤ IntKind.i64.wrap (i9 - 1) ∧ IntKind.i64.wrap (i9 - 1) < (↑n44 : Int)) <|
  .store (x52.add ((IntKind.i64.wrap (i9 - 1)).toNat * 1)) [.int .u64 (if (if i29 < i51 then i29 else i51) > i49 then if i29 < i51 then i29 else i51 else i49)] <|
  .draw <|
  .load ⟨s, 12, none⟩ 1 fun v53 =>
  .exS fun a54 n54 c54 =>
  .isL v53 [.slice a54 n54 c54] <|
  .load ⟨s, 13, none⟩ 1 fun v55 =>
  .exS fun a56 n56 c56 =>
  .isL v55 [.slice a56 n56 c56] <|
  .some a56 fun x57 =>
  .need ((0 : Int) ≤ IntKind.i64.wrap (i9 - 1) ∧ IntKind.i64.wrap (i9 - 1) < (↑n56 : Int)) <|
  .load (x57.add ((IntKind.i64.wrap (i9 - 1)).toNat * 1)) 1 fun v58 =>
  .exI fun i59 =>
  .isL v58 [.int .u64 i59] <|
  .some a54 fun x60 =>
  .need ((0 : Int) ≤ IntKind.i64.wrap (i9 - 1) ∧ IntKind.i64.wrap (i9 - 1) < (↑n54 : Int)) <|
  .store (x60.add ((IntKind.i64.wrap (i9 - 1)).toNat * 1)) [.int .u64 (IntKind.u64.wrap (i59 + 1))] <|
  .call 85 ([.pointer (some ⟨s, 0, none⟩)]) fun v61 =>
  .isL [v61] [.tuple #[]] <|
  .load ⟨s, 12, none⟩ 1 fun v62 =>
  .exS fun a63 n63 c63 =>
  .isL v62 [.slice a63 n63 c63] <|
  .some a63 fun x64 =>
  .need ((0 : Int) ≤ IntKind.i64.wrap (i9 - 1) ∧ IntKind.i64.wrap (i9 - 1) < (↑n63 : Int)) <|
  .load (x64.add ((IntKind.i64.wrap (i9 - 1)).toNat * 1)) 1 fun v65 =>
  .exI fun i66 =>
  .isL v65 [.int .u64 i66] <|
  bif (decide (i66 ≤ i29)) then
   (.load ⟨p1, 1, none⟩ 1 fun v67 =>
   .exI fun i68 =>
   .isL v67 [.int .i64 i68] <|
   .call 104 ([.pointer (some ⟨s, 0, none⟩), .int .i64 i68]) fun v69 =>
   .isL [v69] [.tuple #[]] <|
   .call 105 ([.pointer (some ⟨s, 0, none⟩)]) fun v70 =>
   .isL [v70] [.tuple #[]] <|
   .ret (.tuple #[]))
  else
  (.call 105 ([.pointer (some ⟨s, 0, none⟩)]) fun v71 =>
  .isL [v71] [.tuple #[]] <|
  .ret (.tuple #[])))
 else
 (.draw <|
 .load ⟨p1, 4, none⟩ 1 fun v72 =>
 .exI fun i73 =>
 .isL v72 [.int .u64 i73] <|
 .load ⟨s, 12, none⟩ 1 fun v74 =>
 .exS fun a75 n75 c75 =>
 .isL v74 [.slice a75 n75 c75] <|
 .some a75 fun x76 =>
 .need ((0 : Int) ≤ IntKind.i64.wrap (i9 - 1) ∧ IntKind.i64.wrap (i9 - 1) < (↑n75 : Int)) <|
 .load (x76.add ((IntKind.i64.wrap (i9 - 1)).toNat * 1)) 1 fun v77 =>
 .exI fun i78 =>
 .isL v77 [.int .u64 i78] <|
 bif (decide (IntKind.u64.wrap (i73 + 1) < i78)) then
  (.draw <|
  .load ⟨s, 12, none⟩ 1 fun v79 =>
  .exS fun a80 n80 c80 =>
  .isL v79 [.slice a80 n80 c80] <|
  .load ⟨p1, 4, none⟩ 1 fun v81 =>
  .exI fun i82 =>
  .isL v81 [.int .u64 i82] <|
  .load ⟨s, 13, none⟩ 1 fun v83 =>
  .exS fun a84 n84 c84 =>
  .isL v83 [.slice a84 n84 c84] <|
  .some a84 fun x85 =>
  .need ((0 : Int) ≤ IntKind.i64.wrap (i9 - 1) ∧ IntKind.i64.wrap (i9 - 1) < (↑n84 : Int)) <|
  .load (x85.add ((IntKind.i64.wrap (i9 - 1)).toNat * 1)) 1 fun v86 =>
  .exI fun i87 =>
  .isL v86 [.int .u64 i87] <|
  .some a80 fun x88 =>
  .need ((0 : Int) ≤ IntKind.i64.wrap (i9 - 1) ∧ IntKind.i64.wrap (i9 - 1) < (↑n80 : Int)) <|
  .store (x88.add ((IntKind.i64.wrap (i9 - 1)).toNat * 1)) [.int .u64 (if IntKind.u64.wrap (i87 + 1) > IntKind.u64.wrap (i82 + 1) then IntKind.u64.wrap (i87 + 1) else IntKind.u64.wrap (i82 + 1))] <|
  .load ⟨p1, 1, none⟩ 1 fun v89 =>
  .exI fun i90 =>
  .isL v89 [.int .i64 i90] <|
  .call 104 ([.pointer (some ⟨s, 0, none⟩), .int .i64 i90]) fun v91 =>
  .isL [v91] [.tuple #[]] <|
  .call 105 ([.pointer (some ⟨s, 0, none⟩)]) fun v92 =>
  .isL [v92] [.tuple #[]] <|
  .ret (.tuple #[]))
 else
 (.call 105 ([.pointer (some ⟨s, 0, none⟩)]) fun v93 =>
 .isL [v93] [.tuple #[]] <|
 .ret (.tuple #[])))))
theorem e92 (s : Nat) (m0 : Int) (m1 : Int) (m2 : Int) (m3 : Int) (m4 : Int) (m5 : Int) (m6a : Option Addr) (m6n : Nat) (m6c : Nat) (m7 : Int) (m8 : Int) (m9 : Bool) (m10 : Int) (m11 : Int) (m12a : Option Addr) (m12n : Nat) (m12c : Nat) (m13 : Int) (m14 : Int) (m15 : Int) (m16 : ByteArray) (m17 : ByteArray) (m18 : Int) (m19 : Int) (m20 : ByteArray) : genFn Try.prog noM noM Try.f92 [.pointer (some ⟨s, 0, none⟩), .agg #[.int .i64 m0, .int .i64 m1, .int .i64 m2, .int .u64 m3, .int .u64 m4, .int .u64 m5, .slice m6a m6n m6c, .int .u64 m7, .int .u64 m8, .bool m9, .int .u64 m10, .int .u64 m11, .slice m12a m12n m12c, .int .i64 m13, .int .i64 m14, .int .u64 m15, .string m16, .string m17, .int .u64 m18, .int .i64 m19, .string m20]] = t92 s m0 m1 m2 m3 m4 m5 m6a m6n m6c m7 m8 m9 m10 m11 m12a m12n m12c m13 m14 m15 m16 m17 m18 m19 m20 := by kernel_rfl
theorem r92 (s : Nat) (m0 : Int) (m1 : Int) (m2 : Int) (m3 : Int) (m4 : Int) (m5 : Int) (m6a : Option Addr) (m6n : Nat) (m6c : Nat) (m7 : Int) (m8 : Int) (m9 : Bool) (m10 : Int) (m11 : Int) (m12a : Option Addr) (m12n : Nat) (m12c : Nat) (m13 : Int) (m14 : Int) (m15 : Int) (m16 : ByteArray) (m17 : ByteArray) (m18 : Int) (m19 : Int) (m20 : ByteArray) {R : Value → World → Prop} {w : World} (h : (t92 s m0 m1 m2 m3 m4 m5 m6a m6n m6c m7 m8 m9 m10 m11 m12a m12n m12c m13 m14 m15 m16 m17 m18 m19 m20).wp Try.prog R (fun _ _ _ => False) w) : Runs Try.prog 92 [.pointer (some ⟨s, 0, none⟩), .agg #[.int .i64 m0, .int .i64 m1, .int .i64 m2, .int .u64 m3, .int .u64 m4, .int .u64 m5, .slice m6a m6n m6c, .int .u64 m7, .int .u64 m8, .bool m9, .int .u64 m10, .int .u64 m11, .slice m12a m12n m12c, .int .i64 m13, .int .i64 m14, .int .u64 m15, .string m16, .string m17, .int .u64 m18, .int .i64 m19, .string m20]] w R :=
 genFn_runs mixed noM noM Try.func92 (by kernel_rfl) (by rw [e92]; exact h)
def t93 (s : Nat) (m0 : Int) (m1 : Int) (m2 : Int) (m3 : Int) (m4 : Int) (m5 : Int) (m6a : Option Addr) (m6n : Nat) (m6c : Nat) (m7 : Int) (m8 : Int) (m9 : Bool) (m10 : Int) (m11 : Int) (m12a : Option Addr) (m12n : Nat) (m12c : Nat) (m13 : Int) (m14 : Int) (m15 : Int) (m16 : ByteArray) (m17 : ByteArray) (m18 : Int) (m19 : Int) (m20 : ByteArray) : VC :=
 .new 70 [.int .i64 m0, .int .i64 m1, .int .i64 m2, .int .u64 m3, .int .u64 m4, .int .u64 m5, .slice m6a m6n m6c, .int .u64 m7, .int .u64 m8, .bool m9, .int .u64 m10, .int .u64 m11, .slice m12a m12n m12c, .int .i64 m13, .int .i64 m14, .int .u64 m15, .string m16, .string m17, .int .u64 m18, .int .i64 m19, .string m20] fun p1 =>
 .draw <|
 .load ⟨p1, 3, none⟩ 1 fun v2 =>
 .exI fun i3 =>
 .isL v2 [.int .u64 i3] <|
 .load ⟨s, 0, none⟩ 1 fun v4 =>
 .exI fun i5 =>
 .isL v4 [.int .u64 i5] <|
 bif (decide (i3 < i5)) then
  (.load ⟨p1, 1, none⟩ 1 fun v6 =>
  .exI fun i7 =>
  .isL v6 [.int .i64 i7] <|
  .load ⟨p1, 8, none⟩ 1 fun v8 =>
  .exI fun i9 =>
  .isL v8 [.int .u64 i9] <|
  .call 81 ([.pointer (some ⟨s, 0, none⟩), .agg #[.int .i64 4, .int .i64 0, .int .i64 i7, .int .u64 0, .int .u64 0, .int .u64 0, .slice none 0 0, .int .u64 0, .int .u64 i9, .bool false, .int .u64 0, .int .u64 0, .slice none 0 0, .int .i64 0, .int .i64 0, .int .u64 0, .string ({ data := #[] }), .string ({ data := #[] }), .int .u64 0, .int .i64 0, .string ({ data := #[] })]]) fun v10 =>
  .isL [v10] [.tuple #[]] <|
  .ret (.tuple #[]))
 else
 (.load ⟨p1, 1, none⟩ 1 fun v11 =>
 .exI fun i12 =>
 .isL v11 [.int .i64 i12] <|
 .call 77 ([.pointer (some ⟨s, 0, none⟩), .int .i64 0, .int .i64 i12]) fun v13 =>
 .isL [v13] [.tuple #[]] <|
 .draw <|
 .load ⟨p1, 10, none⟩ 1 fun v14 =>
 .exI fun i15 =>
 .isL v14 [.int .u64 i15] <|
 .load ⟨s, 8, none⟩ 1 fun v16 =>
 .exI fun i17 =>
 .isL v16 [.int .u64 i17] <|
 bif (decide (i15 > i17)) then
  (.load ⟨p1, 10, none⟩ 3 fun v18 =>
  .exI fun i19 =>
  .exI fun i20 =>
  .exS fun a21 n21 c21 =>
  .isL v18 [.int .u64 i19, .int .u64 i20, .slice a21 n21 c21] <|
  .new 59 [.int .i64 0, .int .u64 0, .int .i64 0, .int .u64 0, .slice none 0 0, .int .u64 0, .int .u64 0, .int .u64 0, .slice none 0 0] fun p22 =>
  .store ⟨p22, 0, none⟩ [.int .i64 4, .int .u64 0, .int .i64 0, .int .u64 0, .slice none 0 0, .int .u64 0, .int .u64 i19, .int .u64 i20, .slice a21 n21 c21] <|
  .draw <|
  .load ⟨s, 4, none⟩ 3 fun v23 =>
  .exI fun i24 =>
  .exI fun i25 =>
  .exS fun a26 n26 c26 =>
  .isL v23 [.int .u64 i24, .int .u64 i25, .slice a26 n26 c26] <|
  .load ⟨s, 7, none⟩ 1 fun v27 =>
  .exS fun a28 n28 c28 =>
  .isL v27 [.slice a28 n28 c28] <|
  .load ⟨p22, 0, none⟩ 9 fun v29 =>
  .exI fun i30 =>
  .exI fun i31 =>
  .exI fun i32 =>
  .exI fun i33 =>
  .exS fun a34 n34 c34 =>
  .exI fun i35 =>
  .exI fun i36 =>
  .exI fun i37 =>
  .exS fun a38 n38 c38 =>
  .isL v29 [.int .i64 i30, .int .u64 i31, .int .i64 i32, .int .u64 i33, .slice a34 n34 c34, .int .u64 i35, .int .u64 i36, .int .u64 i37, .slice a38 n38 c38] <|
  .both
   (.new 59 [.int .i64 i30, .int .u64 i31, .int .i64 i32, .int .u64 i33, .slice a34 n34 c34, .int .u64 i35, .int .u64 i36, .int .u64 i37, .slice a38 n38 c38] fun p39 =>
   .both
    (.call 86 ([.agg #[.int .u64 0, .int .i64 0, .int .u64 i24, .int .u64 i25, .slice a26 n26 c26, .slice a28 n28 c28], .slice (some ⟨p39, 0, none⟩) 1 1]) fun v40 =>
    .exI fun i41 =>
    .exI fun i42 =>
    .exI fun i43 =>
    .exI fun i44 =>
    .exS fun a45 n45 c45 =>
    .exS fun a46 n46 c46 =>
    .isL [v40] [.agg #[.int .u64 i41, .int .i64 i42, .int .u64 i43, .int .u64 i44, .slice a45 n45 c45, .slice a46 n46 c46]] <|
    .new 30 [.int .u64 0, .int .i64 0, .int .u64 0, .int .u64 0, .slice none 0 0, .slice none 0 0] fun p47 =>
    .store ⟨p47, 0, none⟩ [.int .u64 i41, .int .i64 i42, .int .u64 i43, .int .u64 i44, .slice a45 n45 c45, .slice a46 n46 c46] <|
    .draw <|
    .load ⟨p47, 2, none⟩ 3 fun v48 =>
    .exI fun i49 =>
    .exI fun i50 =>
    .exS fun a51 n51 c51 =>
    .isL v48 [.int .u64 i49, .int .u64 i50, .slice a51 n51 c51] <|
    .load ⟨p47, 5, none⟩ 1 fun v52 =>
    .exS fun a53 n53 c53 =>
    .isL v52 [.slice a53 n53 c53] <|
    .load ⟨p1, 10, none⟩ 1 fun v54 =>
    .exI fun i55 =>
    .isL v54 [.int .u64 i55] <|
    .store ⟨s, 4, none⟩ [.int .u64 i49, .int .u64 i50, .slice a51 n51 c51] <|
    .hold [(⟨p1, 10, none⟩, [.int .u64 i55]), (⟨p47, 5, none⟩, [.slice a53 n53 c53])] <|
    .store ⟨s, 7, none⟩ [.slice a53 n53 c53] <|
    .hold [(⟨p1, 10, none⟩, [.int .u64 i55])] <|
    .store ⟨s, 8, none⟩ [.int .u64 i55] <|
    .draw <|
    .load ⟨s, 17, none⟩ 1 fun v56 =>
    .exS fun a57 n57 c57 =>
    .isL v56 [.slice a57 n57 c57] <|
    .load ⟨p22, 0, none⟩ 9 fun v58 =>
    .exI fun i59 =>
    .exI fun i60 =>
    .exI fun i61 =>
    .exI fun i62 =>
    .exS fun a63 n63 c63 =>
    .exI fun i64 =>
    .exI fun i65 =>
    .exI fun i66 =>
    .exS fun a67 n67 c67 =>
    .isL v58 [.int .i64 i59, .int .u64 i60, .int .i64 i61, .int .u64 i62, .slice a63 n63 c63, .int .u64 i64, .int .u64 i65, .int .u64 i66, .slice a67 n67 c67] <|
    .new 59 [.int .i64 i59, .int .u64 i60, .int .i64 i61, .int .u64 i62, .slice a63 n63 c63, .int .u64 i64, .int .u64 i65, .int .u64 i66, .slice a67 n67 c67] fun p68 =>
    .append 59 9 104 [.int .i64 0, .int .u64 0, .int .i64 0, .int .u64 0, .slice none 0 0, .int .u64 0, .int .u64 0, .int .u64 0, .slice none 0 0] a57 n57 c57 (some ⟨p68, 0, none⟩) 1 fun a69 n69 c69 =>
    .store ⟨s, 17, none⟩ [.slice a69 n69 c69] <|
    .draw <|
    .load ⟨p1, 1, none⟩ 1 fun v70 =>
    .exI fun i71 =>
    .isL v70 [.int .i64 i71] <|
    .load ⟨s, 8, none⟩ 1 fun v72 =>
    .exI fun i73 =>
    .isL v72 [.int .u64 i73] <|
    .load ⟨p1, 8, none⟩ 1 fun v74 =>
    .exI fun i75 =>
    .isL v74 [.int .u64 i75] <|
    .call 81 ([.pointer (some ⟨s, 0, none⟩), .agg #[.int .i64 4, .int .i64 0, .int .i64 i71, .int .u64 0, .int .u64 i73, .int .u64 0, .slice none 0 0, .int .u64 0, .int .u64 i75, .bool true, .int .u64 0, .int .u64 0, .slice none 0 0, .int .i64 0, .int .i64 0, .int .u64 0, .string ({ data := #[] }), .string ({ data := #[] }), .int .u64 0, .int .i64 0, .string ({ data := #[] })]]) fun v76 =>
    .isL [v76] [.tuple #[]] <|
    .ret (.tuple #[]))
   (.new 30 [.int .u64 0, .int .i64 0, .int .u64 0, .int .u64 0, .slice none 0 0, .slice none 0 0] fun p77 =>
   .call 86 ([.agg #[.int .u64 0, .int .i64 0, .int .u64 i24, .int .u64 i25, .slice a26 n26 c26, .slice a28 n28 c28], .slice (some ⟨p39, 0, none⟩) 1 1]) fun v78 =>
   .exI fun i79 =>
   .exI fun i80 =>
   .exI fun i81 =>
   .exI fun i82 =>
   .exS fun a83 n83 c83 =>
   .exS fun a84 n84 c84 =>
   .isL [v78] [.agg #[.int .u64 i79, .int .i64 i80, .int .u64 i81, .int .u64 i82, .slice a83 n83 c83, .slice a84 n84 c84]] <|
   .store ⟨p77, 0, none⟩ [.int .u64 i79, .int .i64 i80, .int .u64 i81, .int .u64 i82, .slice a83 n83 c83, .slice a84 n84 c84] <|
   .draw <|
   .load ⟨p77, 2, none⟩ 3 fun v85 =>
   .exI fun i86 =>
   .exI fun i87 =>
   .exS fun a88 n88 c88 =>
   .isL v85 [.int .u64 i86, .int .u64 i87, .slice a88 n88 c88] <|
   .load ⟨p77, 5, none⟩ 1 fun v89 =>
   .exS fun a90 n90 c90 =>
   .isL v89 [.slice a90 n90 c90] <|
   .load ⟨p1, 10, none⟩ 1 fun v91 =>
   .exI fun i92 =>
   .isL v91 [.int .u64 i92] <|
   .store ⟨s, 4, none⟩ [.int .u64 i86, .int .u64 i87, .slice a88 n88 c88] <|
   .hold [(⟨p1, 10, none⟩, [.int .u64 i92]), (⟨p77, 5, none⟩, [.slice a90 n90 c90])] <|
   .store ⟨s, 7, none⟩ [.slice a90 n90 c90] <|
   .hold [(⟨p1, 10, none⟩, [.int .u64 i92])] <|
   .store ⟨s, 8, none⟩ [.int .u64 i92] <|
   .draw <|
   .load ⟨s, 17, none⟩ 1 fun v93 =>
   .exS fun a94 n94 c94 =>
   .isL v93 [.slice a94 n94 c94] <|
   .load ⟨p22, 0, none⟩ 9 fun v95 =>
   .exI fun i96 =>
   .exI fun i97 =>
   .exI fun i98 =>
   .exI fun i99 =>
   .exS fun a100 n100 c100 =>
   .exI fun i101 =>
   .exI fun i102 =>
   .exI fun i103 =>
   .exS fun a104 n104 c104 =>
   .isL v95 [.int .i64 i96, .int .u64 i97, .int .i64 i98, .int .u64 i99, .slice a100 n100 c100, .int .u64 i101, .int .u64 i102, .int .u64 i103, .slice a104 n104 c104] <|
   .new 59 [.int .i64 i96, .int .u64 i97, .int .i64 i98, .int .u64 i99, .slice a100 n100 c100, .int .u64 i101, .int .u64 i102, .int .u64 i103, .slice a104 n104 c104] fun p105 =>
   .append 59 9 104 [.int .i64 0, .int .u64 0, .int .i64 0, .int .u64 0, .slice none 0 0, .int .u64 0, .int .u64 0, .int .u64 0, .slice none 0 0] a94 n94 c94 (some ⟨p105, 0, none⟩) 1 fun a106 n106 c106 =>
   .store ⟨s, 17, none⟩ [.slice a106 n106 c106] <|
   .draw <|
   .load ⟨p1, 1, none⟩ 1 fun v107 =>
   .exI fun i108 =>
   .isL v107 [.int .i64 i108] <|
   .load ⟨s, 8, none⟩ 1 fun v109 =>
   .exI fun i110 =>
   .isL v109 [.int .u64 i110] <|
   .load ⟨p1, 8, none⟩ 1 fun v111 =>
   .exI fun i112 =>
   .isL v111 [.int .u64 i112] <|
   .call 81 ([.pointer (some ⟨s, 0, none⟩), .agg #[.int .i64 4, .int .i64 0, .int .i64 i108, .int .u64 0, .int .u64 i110, .int .u64 0, .slice none 0 0, .int .u64 0, .int .u64 i112, .bool true, .int .u64 0, .int .u64 0, .slice none 0 0, .int .i64 0, .int .i64 0, .int .u64 0, .string ({ data := #[] }), .string ({ data := #[] }), .int .u64 0, .int .i64 0, .string ({ data := #[] })]]) fun v113 =>
   .isL [v113] [.tuple #[]] <|
   .ret (.tuple #[])))
  (.new 30 [.int .u64 0, .int .i64 0, .int .u64 0, .int .u64 0, .slice none 0 0, .slice none 0 0] fun p114 =>
  .new 59 [.int .i64 i30, .int .u64 i31, .int .i64 i32, .int .u64 i33, .slice a34 n34 c34, .int .u64 i35, .int .u64 i36, .int .u64 i37, .slice a38 n38 c38] fun p115 =>
  .call 86 ([.agg #[.int .u64 0, .int .i64 0, .int .u64 i24, .int .u64 i25, .slice a26 n26 c26, .slice a28 n28 c28], .slice (some ⟨p115, 0, none⟩) 1 1]) fun v116 =>
  .exI fun i117 =>
  .exI fun i118 =>
  .exI fun i119 =>
  .exI fun i120 =>
  .exS fun a121 n121 c121 =>
  .exS fun a122 n122 c122 =>
  .isL [v116] [.agg #[.int .u64 i117, .int .i64 i118, .int .u64 i119, .int .u64 i120, .slice a121 n121 c121, .slice a122 n122 c122]] <|
  .store ⟨p114, 0, none⟩ [.int .u64 i117, .int .i64 i118, .int .u64 i119, .int .u64 i120, .slice a121 n121 c121, .slice a122 n122 c122] <|
  .draw <|
  .load ⟨p114, 2, none⟩ 3 fun v123 =>
  .exI fun i124 =>
  .exI fun i125 =>
  .exS fun a126 n126 c126 =>
  .isL v123 [.int .u64 i124, .int .u64 i125, .slice a126 n126 c126] <|
  .load ⟨p114, 5, none⟩ 1 fun v127 =>
  .exS fun a128 n128 c128 =>
  .isL v127 [.slice a128 n128 c128] <|
  .load ⟨p1, 10, none⟩ 1 fun v129 =>
  .exI fun i130 =>
  .isL v129 [.int .u64 i130] <|
  .store ⟨s, 4, none⟩ [.int .u64 i124, .int .u64 i125, .slice a126 n126 c126] <|
  .hold [(⟨p1, 10, none⟩, [.int .u64 i130]), (⟨p114, 5, none⟩, [.slice a128 n128 c128])] <|
  .store ⟨s, 7, none⟩ [.slice a128 n128 c128] <|
  .hold [(⟨p1, 10, none⟩, [.int .u64 i130])] <|
  .store ⟨s, 8, none⟩ [.int .u64 i130] <|
  .draw <|
  .load ⟨s, 17, none⟩ 1 fun v131 =>
  .exS fun a132 n132 c132 =>
  .isL v131 [.slice a132 n132 c132] <|
  .load ⟨p22, 0, none⟩ 9 fun v133 =>
  .exI fun i134 =>
  .exI fun i135 =>
  .exI fun i136 =>
  .exI fun i137 =>
  .exS fun a138 n138 c138 =>
  .exI fun i139 =>
  .exI fun i140 =>
  .exI fun i141 =>
  .exS fun a142 n142 c142 =>
  .isL v133 [.int .i64 i134, .int .u64 i135, .int .i64 i136, .int .u64 i137, .slice a138 n138 c138, .int .u64 i139, .int .u64 i140, .int .u64 i141, .slice a142 n142 c142] <|
  .new 59 [.int .i64 i134, .int .u64 i135, .int .i64 i136, .int .u64 i137, .slice a138 n138 c138, .int .u64 i139, .int .u64 i140, .int .u64 i141, .slice a142 n142 c142] fun p143 =>
  .append 59 9 104 [.int .i64 0, .int .u64 0, .int .i64 0, .int .u64 0, .slice none 0 0, .int .u64 0, .int .u64 0, .int .u64 0, .slice none 0 0] a132 n132 c132 (some ⟨p143, 0, none⟩) 1 fun a144 n144 c144 =>
  .store ⟨s, 17, none⟩ [.slice a144 n144 c144] <|
  .draw <|
  .load ⟨p1, 1, none⟩ 1 fun v145 =>
  .exI fun i146 =>
  .isL v145 [.int .i64 i146] <|
  .load ⟨s, 8, none⟩ 1 fun v147 =>
  .exI fun i148 =>
  .isL v147 [.int .u64 i148] <|
  .load ⟨p1, 8, none⟩ 1 fun v149 =>
  .exI fun i150 =>
  .isL v149 [.int .u64 i150] <|
  .call 81 ([.pointer (some ⟨s, 0, none⟩), .agg #[.int .i64 4, .int .i64 0, .int .i64 i146, .int .u64 0, .int .u64 i148, .int .u64 0, .slice none 0 0, .int .u64 0, .int .u64 i150, .bool true, .int .u64 0, .int .u64 0, .slice none 0 0, .int .i64 0, .int .i64 0, .int .u64 0, .string ({ data := #[] }), .string ({ data := #[] }), .int .u64 0, .int .i64 0, .string ({ data := #[] })]]) fun v151 =>
  .isL [v151] [.tuple #[]] <|
  .ret (.tuple #[])))
 else
 (.draw <|
 .load ⟨p1, 1, none⟩ 1 fun v152 =>
 .exI fun i153 =>
 .isL v152 [.int .i64 i153] <|
 .load ⟨s, 8, none⟩ 1 fun v154 =>
 .exI fun i155 =>
 .isL v154 [.int .u64 i155] <|
 .load ⟨p1, 8, none⟩ 1 fun v156 =>
 .exI fun i157 =>
 .isL v156 [.int .u64 i157] <|
 .call 81 ([.pointer (some ⟨s, 0, none⟩), .agg #[.int .i64 4, .int .i64 0, .int .i64 i153, .int .u64 0, .int .u64 i155, .int .u64 0, .slice none 0 0, .int .u64 0, .int .u64 i157, .bool true, .int .u64 0, .int .u64 0, .slice none 0 0, .int .i64 0, .int .i64 0, .int .u64 0, .string ({ data := #[] }), .string ({ data := #[] }), .int .u64 0, .int .i64 0, .string ({ data := #[] })]]) fun v158 =>
 .isL [v158] [.tuple #[]] <|
 .ret (.tuple #[])))
theorem e93 (s : Nat) (m0 : Int) (m1 : Int) (m2 : Int) (m3 : Int) (m4 : Int) (m5 : Int) (m6a : Option Addr) (m6n : Nat) (m6c : Nat) (m7 : Int) (m8 : Int) (m9 : Bool) (m10 : Int) (m11 : Int) (m12a : Option Addr) (m12n : Nat) (m12c : Nat) (m13 : Int) (m14 : Int) (m15 : Int) (m16 : ByteArray) (m17 : ByteArray) (m18 : Int) (m19 : Int) (m20 : ByteArray) : genFn Try.prog noM noM Try.f93 [.pointer (some ⟨s, 0, none⟩), .agg #[.int .i64 m0, .int .i64 m1, .int .i64 m2, .int .u64 m3, .int .u64 m4, .int .u64 m5, .slice m6a m6n m6c, .int .u64 m7, .int .u64 m8, .bool m9, .int .u64 m10, .int .u64 m11, .slice m12a m12n m12c, .int .i64 m13, .int .i64 m14, .int .u64 m15, .string m16, .string m17, .int .u64 m18, .int .i64 m19, .string m20]] = t93 s m0 m1 m2 m3 m4 m5 m6a m6n m6c m7 m8 m9 m10 m11 m12a m12n m12c m13 m14 m15 m16 m17 m18 m19 m20 := by kernel_rfl
theorem r93 (s : Nat) (m0 : Int) (m1 : Int) (m2 : Int) (m3 : Int) (m4 : Int) (m5 : Int) (m6a : Option Addr) (m6n : Nat) (m6c : Nat) (m7 : Int) (m8 : Int) (m9 : Bool) (m10 : Int) (m11 : Int) (m12a : Option Addr) (m12n : Nat) (m12c : Nat) (m13 : Int) (m14 : Int) (m15 : Int) (m16 : ByteArray) (m17 : ByteArray) (m18 : Int) (m19 : Int) (m20 : ByteArray) {R : Value → World → Prop} {w : World} (h : (t93 s m0 m1 m2 m3 m4 m5 m6a m6n m6c m7 m8 m9 m10 m11 m12a m12n m12c m13 m14 m15 m16 m17 m18 m19 m20).wp Try.prog R (fun _ _ _ => False) w) : Runs Try.prog 93 [.pointer (some ⟨s, 0, none⟩), .agg #[.int .i64 m0, .int .i64 m1, .int .i64 m2, .int .u64 m3, .int .u64 m4, .int .u64 m5, .slice m6a m6n m6c, .int .u64 m7, .int .u64 m8, .bool m9, .int .u64 m10, .int .u64 m11, .slice m12a m12n m12c, .int .i64 m13, .int .i64 m14, .int .u64 m15, .string m16, .string m17, .int .u64 m18, .int .i64 m19, .string m20]] w R :=
 genFn_runs mixed noM noM Try.func93 (by kernel_rfl) (by rw [e93]; exact h)
def ct46 : Marks := (fun | some 6 => some [] | some 17 => some [] | _ => none)
def t46 (r0 : Int) (r1 : Int) (r2 : Int) (r3 : Int) (r4 : Int) (r5 : Int) (r6a : Option Addr) (r6n : Nat) (r6c : Nat) (r7a : Option Addr) (r7n : Nat) (r7c : Nat) (r8 : Int) (r9 : Int) (r10 : Int) (r11a : Option Addr) (r11n : Nat) (r11c : Nat) (r12a : Option Addr) (r12n : Nat) (r12c : Nat) (r13a : Option Addr) (r13n : Nat) (r13c : Nat) (r14a : Option Addr) (r14n : Nat) (r14c : Nat) (r15 : Int) (r16a : Option Addr) (r16n : Nat) (r16c : Nat) (m0 : Int) (m1 : Int) (m2 : Int) (m3 : Int) (m4 : Int) (m5 : Int) (m6a : Option Addr) (m6n : Nat) (m6c : Nat) (m7 : Int) (m8 : Int) (m9 : Bool) (m10 : Int) (m11 : Int) (m12a : Option Addr) (m12n : Nat) (m12c : Nat) (m13 : Int) (m14 : Int) (m15 : Int) (m16 : ByteArray) (m17 : ByteArray) (m18 : Int) (m19 : Int) (m20 : ByteArray) : VC :=
 .new 36 [.int .u64 r0, .int .i64 r1, .int .i64 r2, .int .i64 r3, .int .u64 r4, .int .u64 r5, .slice r6a r6n r6c, .slice r7a r7n r7c, .int .u64 r8, .int .i64 r9, .int .i64 r10, .slice r11a r11n r11c, .slice r12a r12n r12c, .slice r13a r13n r13c, .slice r14a r14n r14c, .int .u64 r15, .slice r16a r16n r16c] fun p1 =>
 .new 70 [.int .i64 m0, .int .i64 m1, .int .i64 m2, .int .u64 m3, .int .u64 m4, .int .u64 m5, .slice m6a m6n m6c, .int .u64 m7, .int .u64 m8, .bool m9, .int .u64 m10, .int .u64 m11, .slice m12a m12n m12c, .int .i64 m13, .int .i64 m14, .int .u64 m15, .string m16, .string m17, .int .u64 m18, .int .i64 m19, .string m20] fun p2 =>
 .new 36 [.int .u64 0, .int .i64 0, .int .i64 0, .int .i64 0, .int .u64 0, .int .u64 0, .slice none 0 0, .slice none 0 0, .int .u64 0, .int .i64 0, .int .i64 0, .slice none 0 0, .slice none 0 0, .slice none 0 0, .slice none 0 0, .int .u64 0, .slice none 0 0] fun p3 =>
 .new 48 [.slice none 0 0, .slice none 0 0, .slice none 0 0] fun p4 =>
 .load ⟨p1, 0, none⟩ 17 fun v5 =>
 .exI fun i6 =>
 .exI fun i7 =>
 .exI fun i8 =>
 .exI fun i9 =>
 .exI fun i10 =>
 .exI fun i11 =>
 .exS fun a12 n12 c12 =>
 .exS fun a13 n13 c13 =>
 .exI fun i14 =>
 .exI fun i15 =>
 .exI fun i16 =>
 .exS fun a17 n17 c17 =>
 .exS fun a18 n18 c18 =>
 .exS fun a19 n19 c19 =>
 .exS fun a20 n20 c20 =>
 .exI fun i21 =>
 .exS fun a22 n22 c22 =>
 .isL v5 [.int .u64 i6, .int .i64 i7, .int .i64 i8, .int .i64 i9, .int .u64 i10, .int .u64 i11, .slice a12 n12 c12, .slice a13 n13 c13, .int .u64 i14, .int .i64 i15, .int .i64 i16, .slice a17 n17 c17, .slice a18 n18 c18, .slice a19 n19 c19, .slice a20 n20 c20, .int .u64 i21, .slice a22 n22 c22] <|
 .call 69 ([.agg #[.int .u64 i6, .int .i64 i7, .int .i64 i8, .int .i64 i9, .int .u64 i10, .int .u64 i11, .slice a12 n12 c12, .slice a13 n13 c13, .int .u64 i14, .int .i64 i15, .int .i64 i16, .slice a17 n17 c17, .slice a18 n18 c18, .slice a19 n19 c19, .slice a20 n20 c20, .int .u64 i21, .slice a22 n22 c22]]) fun v23 =>
 .exN fun p24 =>
 .isL [v23] [.pointer (some ⟨p24, 0, none⟩)] <|
 .load ⟨p2, 1, none⟩ 1 fun v25 =>
 .exI fun i26 =>
 .isL v25 [.int .i64 i26] <|
 bif (decide (i26 < 1)) then
  (.draw <|
  .load ⟨p24, 0, none⟩ 17 fun v27 =>
  .exI fun i28 =>
  .exI fun i29 =>
  .exI fun i30 =>
  .exI fun i31 =>
  .exI fun i32 =>
  .exI fun i33 =>
  .exS fun a34 n34 c34 =>
  .exS fun a35 n35 c35 =>
  .exI fun i36 =>
  .exI fun i37 =>
  .exI fun i38 =>
  .exS fun a39 n39 c39 =>
  .exS fun a40 n40 c40 =>
  .exS fun a41 n41 c41 =>
  .exS fun a42 n42 c42 =>
  .exI fun i43 =>
  .exS fun a44 n44 c44 =>
  .isL v27 [.int .u64 i28, .int .i64 i29, .int .i64 i30, .int .i64 i31, .int .u64 i32, .int .u64 i33, .slice a34 n34 c34, .slice a35 n35 c35, .int .u64 i36, .int .i64 i37, .int .i64 i38, .slice a39 n39 c39, .slice a40 n40 c40, .slice a41 n41 c41, .slice a42 n42 c42, .int .u64 i43, .slice a44 n44 c44] <|
  .load ⟨p24, 17, none⟩ 3 fun v45 =>
  .exS fun a46 n46 c46 =>
  .exS fun a47 n47 c47 =>
  .exS fun a48 n48 c48 =>
  .isL v45 [.slice a46 n46 c46, .slice a47 n47 c47, .slice a48 n48 c48] <|
  .store ⟨p3, 0, none⟩ [.int .u64 i28, .int .i64 i29, .int .i64 i30, .int .i64 i31, .int .u64 i32, .int .u64 i33, .slice a34 n34 c34, .slice a35 n35 c35, .int .u64 i36, .int .i64 i37, .int .i64 i38, .slice a39 n39 c39, .slice a40 n40 c40, .slice a41 n41 c41, .slice a42 n42 c42, .int .u64 i43, .slice a44 n44 c44] <|
  .hold [(⟨p24, 17, none⟩, [.slice a46 n46 c46, .slice a47 n47 c47, .slice a48 n48 c48])] <|
  .store ⟨p4, 0, none⟩ [.slice a46 n46 c46, .slice a47 n47 c47, .slice a48 n48 c48] <|
  .load ⟨p3, 0, none⟩ 17 fun v49 =>
  .exI fun i50 =>
  .exI fun i51 =>
  .exI fun i52 =>
  .exI fun i53 =>
  .exI fun i54 =>
  .exI fun i55 =>
  .exS fun a56 n56 c56 =>
  .exS fun a57 n57 c57 =>
  .exI fun i58 =>
  .exI fun i59 =>
  .exI fun i60 =>
  .exS fun a61 n61 c61 =>
  .exS fun a62 n62 c62 =>
  .exS fun a63 n63 c63 =>
  .exS fun a64 n64 c64 =>
  .exI fun i65 =>
  .exS fun a66 n66 c66 =>
  .isL v49 [.int .u64 i50, .int .i64 i51, .int .i64 i52, .int .i64 i53, .int .u64 i54, .int .u64 i55, .slice a56 n56 c56, .slice a57 n57 c57, .int .u64 i58, .int .i64 i59, .int .i64 i60, .slice a61 n61 c61, .slice a62 n62 c62, .slice a63 n63 c63, .slice a64 n64 c64, .int .u64 i65, .slice a66 n66 c66] <|
  .load ⟨p4, 0, none⟩ 3 fun v67 =>
  .exS fun a68 n68 c68 =>
  .exS fun a69 n69 c69 =>
  .exS fun a70 n70 c70 =>
  .isL v67 [.slice a68 n68 c68, .slice a69 n69 c69, .slice a70 n70 c70] <|
  .ret (.tuple #[.agg #[.int .u64 i50, .int .i64 i51, .int .i64 i52, .int .i64 i53, .int .u64 i54, .int .u64 i55, .slice a56 n56 c56, .slice a57 n57 c57, .int .u64 i58, .int .i64 i59, .int .i64 i60, .slice a61 n61 c61, .slice a62 n62 c62, .slice a63 n63 c63, .slice a64 n64 c64, .int .u64 i65, .slice a66 n66 c66], .agg #[.slice a68 n68 c68, .slice a69 n69 c69, .slice a70 n70 c70]]))
 else
 (.load ⟨p2, 1, none⟩ 1 fun v71 =>
 .exI fun i72 =>
 .isL v71 [.int .i64 i72] <|
 .load ⟨p1, 3, none⟩ 1 fun v73 =>
 .exI fun i74 =>
 .isL v73 [.int .i64 i74] <|
 bif (decide (i72 > i74)) then
  (.draw <|
  .load ⟨p24, 0, none⟩ 17 fun v75 =>
  .exI fun i76 =>
  .exI fun i77 =>
  .exI fun i78 =>
  .exI fun i79 =>
  .exI fun i80 =>
  .exI fun i81 =>
  .exS fun a82 n82 c82 =>
  .exS fun a83 n83 c83 =>
  .exI fun i84 =>
  .exI fun i85 =>
  .exI fun i86 =>
  .exS fun a87 n87 c87 =>
  .exS fun a88 n88 c88 =>
  .exS fun a89 n89 c89 =>
  .exS fun a90 n90 c90 =>
  .exI fun i91 =>
  .exS fun a92 n92 c92 =>
  .isL v75 [.int .u64 i76, .int .i64 i77, .int .i64 i78, .int .i64 i79, .int .u64 i80, .int .u64 i81, .slice a82 n82 c82, .slice a83 n83 c83, .int .u64 i84, .int .i64 i85, .int .i64 i86, .slice a87 n87 c87, .slice a88 n88 c88, .slice a89 n89 c89, .slice a90 n90 c90, .int .u64 i91, .slice a92 n92 c92] <|
  .load ⟨p24, 17, none⟩ 3 fun v93 =>
  .exS fun a94 n94 c94 =>
  .exS fun a95 n95 c95 =>
  .exS fun a96 n96 c96 =>
  .isL v93 [.slice a94 n94 c94, .slice a95 n95 c95, .slice a96 n96 c96] <|
  .store ⟨p3, 0, none⟩ [.int .u64 i76, .int .i64 i77, .int .i64 i78, .int .i64 i79, .int .u64 i80, .int .u64 i81, .slice a82 n82 c82, .slice a83 n83 c83, .int .u64 i84, .int .i64 i85, .int .i64 i86, .slice a87 n87 c87, .slice a88 n88 c88, .slice a89 n89 c89, .slice a90 n90 c90, .int .u64 i91, .slice a92 n92 c92] <|
  .hold [(⟨p24, 17, none⟩, [.slice a94 n94 c94, .slice a95 n95 c95, .slice a96 n96 c96])] <|
  .store ⟨p4, 0, none⟩ [.slice a94 n94 c94, .slice a95 n95 c95, .slice a96 n96 c96] <|
  .load ⟨p3, 0, none⟩ 17 fun v97 =>
  .exI fun i98 =>
  .exI fun i99 =>
  .exI fun i100 =>
  .exI fun i101 =>
  .exI fun i102 =>
  .exI fun i103 =>
  .exS fun a104 n104 c104 =>
  .exS fun a105 n105 c105 =>
  .exI fun i106 =>
  .exI fun i107 =>
  .exI fun i108 =>
  .exS fun a109 n109 c109 =>
  .exS fun a110 n110 c110 =>
  .exS fun a111 n111 c111 =>
  .exS fun a112 n112 c112 =>
  .exI fun i113 =>
  .exS fun a114 n114 c114 =>
  .isL v97 [.int .u64 i98, .int .i64 i99, .int .i64 i100, .int .i64 i101, .int .u64 i102, .int .u64 i103, .slice a104 n104 c104, .slice a105 n105 c105, .int .u64 i106, .int .i64 i107, .int .i64 i108, .slice a109 n109 c109, .slice a110 n110 c110, .slice a111 n111 c111, .slice a112 n112 c112, .int .u64 i113, .slice a114 n114 c114] <|
  .load ⟨p4, 0, none⟩ 3 fun v115 =>
  .exS fun a116 n116 c116 =>
  .exS fun a117 n117 c117 =>
  .exS fun a118 n118 c118 =>
  .isL v115 [.slice a116 n116 c116, .slice a117 n117 c117, .slice a118 n118 c118] <|
  .ret (.tuple #[.agg #[.int .u64 i98, .int .i64 i99, .int .i64 i100, .int .i64 i101, .int .u64 i102, .int .u64 i103, .slice a104 n104 c104, .slice a105 n105 c105, .int .u64 i106, .int .i64 i107, .int .i64 i108, .slice a109 n109 c109, .slice a110 n110 c110, .slice a111 n111 c111, .slice a112 n112 c112, .int .u64 i113, .slice a114 n114 c114], .agg #[.slice a116 n116 c116, .slice a117 n117 c117, .slice a118 n118 c118]]))
 else
 (.load ⟨p2, 1, none⟩ 1 fun v119 =>
 .exI fun i120 =>
 .isL v119 [.int .i64 i120] <|
 .load ⟨p1, 2, none⟩ 1 fun v121 =>
 .exI fun i122 =>
 .isL v121 [.int .i64 i122] <|
 bif (i120 == i122) then
  (.draw <|
  .load ⟨p24, 0, none⟩ 17 fun v123 =>
  .exI fun i124 =>
  .exI fun i125 =>
  .exI fun i126 =>
  .exI fun i127 =>
  .exI fun i128 =>
  .exI fun i129 =>
  .exS fun a130 n130 c130 =>
  .exS fun a131 n131 c131 =>
  .exI fun i132 =>
  .exI fun i133 =>
  .exI fun i134 =>
  .exS fun a135 n135 c135 =>
  .exS fun a136 n136 c136 =>
  .exS fun a137 n137 c137 =>
  .exS fun a138 n138 c138 =>
  .exI fun i139 =>
  .exS fun a140 n140 c140 =>
  .isL v123 [.int .u64 i124, .int .i64 i125, .int .i64 i126, .int .i64 i127, .int .u64 i128, .int .u64 i129, .slice a130 n130 c130, .slice a131 n131 c131, .int .u64 i132, .int .i64 i133, .int .i64 i134, .slice a135 n135 c135, .slice a136 n136 c136, .slice a137 n137 c137, .slice a138 n138 c138, .int .u64 i139, .slice a140 n140 c140] <|
  .load ⟨p24, 17, none⟩ 3 fun v141 =>
  .exS fun a142 n142 c142 =>
  .exS fun a143 n143 c143 =>
  .exS fun a144 n144 c144 =>
  .isL v141 [.slice a142 n142 c142, .slice a143 n143 c143, .slice a144 n144 c144] <|
  .store ⟨p3, 0, none⟩ [.int .u64 i124, .int .i64 i125, .int .i64 i126, .int .i64 i127, .int .u64 i128, .int .u64 i129, .slice a130 n130 c130, .slice a131 n131 c131, .int .u64 i132, .int .i64 i133, .int .i64 i134, .slice a135 n135 c135, .slice a136 n136 c136, .slice a137 n137 c137, .slice a138 n138 c138, .int .u64 i139, .slice a140 n140 c140] <|
  .hold [(⟨p24, 17, none⟩, [.slice a142 n142 c142, .slice a143 n143 c143, .slice a144 n144 c144])] <|
  .store ⟨p4, 0, none⟩ [.slice a142 n142 c142, .slice a143 n143 c143, .slice a144 n144 c144] <|
  .load ⟨p3, 0, none⟩ 17 fun v145 =>
  .exI fun i146 =>
  .exI fun i147 =>
  .exI fun i148 =>
  .exI fun i149 =>
  .exI fun i150 =>
  .exI fun i151 =>
  .exS fun a152 n152 c152 =>
  .exS fun a153 n153 c153 =>
  .exI fun i154 =>
  .exI fun i155 =>
  .exI fun i156 =>
  .exS fun a157 n157 c157 =>
  .exS fun a158 n158 c158 =>
  .exS fun a159 n159 c159 =>
  .exS fun a160 n160 c160 =>
  .exI fun i161 =>
  .exS fun a162 n162 c162 =>
  .isL v145 [.int .u64 i146, .int .i64 i147, .int .i64 i148, .int .i64 i149, .int .u64 i150, .int .u64 i151, .slice a152 n152 c152, .slice a153 n153 c153, .int .u64 i154, .int .i64 i155, .int .i64 i156, .slice a157 n157 c157, .slice a158 n158 c158, .slice a159 n159 c159, .slice a160 n160 c160, .int .u64 i161, .slice a162 n162 c162] <|
  .load ⟨p4, 0, none⟩ 3 fun v163 =>
  .exS fun a164 n164 c164 =>
  .exS fun a165 n165 c165 =>
  .exS fun a166 n166 c166 =>
  .isL v163 [.slice a164 n164 c164, .slice a165 n165 c165, .slice a166 n166 c166] <|
  .ret (.tuple #[.agg #[.int .u64 i146, .int .i64 i147, .int .i64 i148, .int .i64 i149, .int .u64 i150, .int .u64 i151, .slice a152 n152 c152, .slice a153 n153 c153, .int .u64 i154, .int .i64 i155, .int .i64 i156, .slice a157 n157 c157, .slice a158 n158 c158, .slice a159 n159 c159, .slice a160 n160 c160, .int .u64 i161, .slice a162 n162 c162], .agg #[.slice a164 n164 c164, .slice a165 n165 c165, .slice a166 n166 c166]]))
 else
 (.load ⟨p2, 2, none⟩ 1 fun v167 =>
 .exI fun i168 =>
 .isL v167 [.int .i64 i168] <|
 .load ⟨p1, 2, none⟩ 1 fun v169 =>
 .exI fun i170 =>
 .isL v169 [.int .i64 i170] <|
 bif (i168 != i170) then
  (.draw <|
  .load ⟨p24, 0, none⟩ 17 fun v171 =>
  .exI fun i172 =>
  .exI fun i173 =>
  .exI fun i174 =>
  .exI fun i175 =>
  .exI fun i176 =>
  .exI fun i177 =>
  .exS fun a178 n178 c178 =>
  .exS fun a179 n179 c179 =>
  .exI fun i180 =>
  .exI fun i181 =>
  .exI fun i182 =>
  .exS fun a183 n183 c183 =>
  .exS fun a184 n184 c184 =>
  .exS fun a185 n185 c185 =>
  .exS fun a186 n186 c186 =>
  .exI fun i187 =>
  .exS fun a188 n188 c188 =>
  .isL v171 [.int .u64 i172, .int .i64 i173, .int .i64 i174, .int .i64 i175, .int .u64 i176, .int .u64 i177, .slice a178 n178 c178, .slice a179 n179 c179, .int .u64 i180, .int .i64 i181, .int .i64 i182, .slice a183 n183 c183, .slice a184 n184 c184, .slice a185 n185 c185, .slice a186 n186 c186, .int .u64 i187, .slice a188 n188 c188] <|
  .load ⟨p24, 17, none⟩ 3 fun v189 =>
  .exS fun a190 n190 c190 =>
  .exS fun a191 n191 c191 =>
  .exS fun a192 n192 c192 =>
  .isL v189 [.slice a190 n190 c190, .slice a191 n191 c191, .slice a192 n192 c192] <|
  .store ⟨p3, 0, none⟩ [.int .u64 i172, .int .i64 i173, .int .i64 i174, .int .i64 i175, .int .u64 i176, .int .u64 i177, .slice a178 n178 c178, .slice a179 n179 c179, .int .u64 i180, .int .i64 i181, .int .i64 i182, .slice a183 n183 c183, .slice a184 n184 c184, .slice a185 n185 c185, .slice a186 n186 c186, .int .u64 i187, .slice a188 n188 c188] <|
  .hold [(⟨p24, 17, none⟩, [.slice a190 n190 c190, .slice a191 n191 c191, .slice a192 n192 c192])] <|
  .store ⟨p4, 0, none⟩ [.slice a190 n190 c190, .slice a191 n191 c191, .slice a192 n192 c192] <|
  .load ⟨p3, 0, none⟩ 17 fun v193 =>
  .exI fun i194 =>
  .exI fun i195 =>
  .exI fun i196 =>
  .exI fun i197 =>
  .exI fun i198 =>
  .exI fun i199 =>
  .exS fun a200 n200 c200 =>
  .exS fun a201 n201 c201 =>
  .exI fun i202 =>
  .exI fun i203 =>
  .exI fun i204 =>
  .exS fun a205 n205 c205 =>
  .exS fun a206 n206 c206 =>
  .exS fun a207 n207 c207 =>
  .exS fun a208 n208 c208 =>
  .exI fun i209 =>
  .exS fun a210 n210 c210 =>
  .isL v193 [.int .u64 i194, .int .i64 i195, .int .i64 i196, .int .i64 i197, .int .u64 i198, .int .u64 i199, .slice a200 n200 c200, .slice a201 n201 c201, .int .u64 i202, .int .i64 i203, .int .i64 i204, .slice a205 n205 c205, .slice a206 n206 c206, .slice a207 n207 c207, .slice a208 n208 c208, .int .u64 i209, .slice a210 n210 c210] <|
  .load ⟨p4, 0, none⟩ 3 fun v211 =>
  .exS fun a212 n212 c212 =>
  .exS fun a213 n213 c213 =>
  .exS fun a214 n214 c214 =>
  .isL v211 [.slice a212 n212 c212, .slice a213 n213 c213, .slice a214 n214 c214] <|
  .ret (.tuple #[.agg #[.int .u64 i194, .int .i64 i195, .int .i64 i196, .int .i64 i197, .int .u64 i198, .int .u64 i199, .slice a200 n200 c200, .slice a201 n201 c201, .int .u64 i202, .int .i64 i203, .int .i64 i204, .slice a205 n205 c205, .slice a206 n206 c206, .slice a207 n207 c207, .slice a208 n208 c208, .int .u64 i209, .slice a210 n210 c210], .agg #[.slice a212 n212 c212, .slice a213 n213 c213, .slice a214 n214 c214]]))
 else
 (.load ⟨p2, 0, none⟩ 1 fun v215 =>
 .exI fun i216 =>
 .isL v215 [.int .i64 i216] <|
 bif (decide (i216 < 1)) then
  (.draw <|
  .load ⟨p24, 0, none⟩ 17 fun v217 =>
  .exI fun i218 =>
  .exI fun i219 =>
  .exI fun i220 =>
  .exI fun i221 =>
  .exI fun i222 =>
  .exI fun i223 =>
  .exS fun a224 n224 c224 =>
  .exS fun a225 n225 c225 =>
  .exI fun i226 =>
  .exI fun i227 =>
  .exI fun i228 =>
  .exS fun a229 n229 c229 =>
  .exS fun a230 n230 c230 =>
  .exS fun a231 n231 c231 =>
  .exS fun a232 n232 c232 =>
  .exI fun i233 =>
  .exS fun a234 n234 c234 =>
  .isL v217 [.int .u64 i218, .int .i64 i219, .int .i64 i220, .int .i64 i221, .int .u64 i222, .int .u64 i223, .slice a224 n224 c224, .slice a225 n225 c225, .int .u64 i226, .int .i64 i227, .int .i64 i228, .slice a229 n229 c229, .slice a230 n230 c230, .slice a231 n231 c231, .slice a232 n232 c232, .int .u64 i233, .slice a234 n234 c234] <|
  .load ⟨p24, 17, none⟩ 3 fun v235 =>
  .exS fun a236 n236 c236 =>
  .exS fun a237 n237 c237 =>
  .exS fun a238 n238 c238 =>
  .isL v235 [.slice a236 n236 c236, .slice a237 n237 c237, .slice a238 n238 c238] <|
  .store ⟨p3, 0, none⟩ [.int .u64 i218, .int .i64 i219, .int .i64 i220, .int .i64 i221, .int .u64 i222, .int .u64 i223, .slice a224 n224 c224, .slice a225 n225 c225, .int .u64 i226, .int .i64 i227, .int .i64 i228, .slice a229 n229 c229, .slice a230 n230 c230, .slice a231 n231 c231, .slice a232 n232 c232, .int .u64 i233, .slice a234 n234 c234] <|
  .hold [(⟨p24, 17, none⟩, [.slice a236 n236 c236, .slice a237 n237 c237, .slice a238 n238 c238])] <|
  .store ⟨p4, 0, none⟩ [.slice a236 n236 c236, .slice a237 n237 c237, .slice a238 n238 c238] <|
  .load ⟨p3, 0, none⟩ 17 fun v239 =>
  .exI fun i240 =>
  .exI fun i241 =>
  .exI fun i242 =>
  .exI fun i243 =>
  .exI fun i244 =>
  .exI fun i245 =>
  .exS fun a246 n246 c246 =>
  .exS fun a247 n247 c247 =>
  .exI fun i248 =>
  .exI fun i249 =>
  .exI fun i250 =>
  .exS fun a251 n251 c251 =>
  .exS fun a252 n252 c252 =>
  .exS fun a253 n253 c253 =>
  .exS fun a254 n254 c254 =>
  .exI fun i255 =>
  .exS fun a256 n256 c256 =>
  .isL v239 [.int .u64 i240, .int .i64 i241, .int .i64 i242, .int .i64 i243, .int .u64 i244, .int .u64 i245, .slice a246 n246 c246, .slice a247 n247 c247, .int .u64 i248, .int .i64 i249, .int .i64 i250, .slice a251 n251 c251, .slice a252 n252 c252, .slice a253 n253 c253, .slice a254 n254 c254, .int .u64 i255, .slice a256 n256 c256] <|
  .load ⟨p4, 0, none⟩ 3 fun v257 =>
  .exS fun a258 n258 c258 =>
  .exS fun a259 n259 c259 =>
  .exS fun a260 n260 c260 =>
  .isL v257 [.slice a258 n258 c258, .slice a259 n259 c259, .slice a260 n260 c260] <|
  .ret (.tuple #[.agg #[.int .u64 i240, .int .i64 i241, .int .i64 i242, .int .i64 i243, .int .u64 i244, .int .u64 i245, .slice a246 n246 c246, .slice a247 n247 c247, .int .u64 i248, .int .i64 i249, .int .i64 i250, .slice a251 n251 c251, .slice a252 n252 c252, .slice a253 n253 c253, .slice a254 n254 c254, .int .u64 i255, .slice a256 n256 c256], .agg #[.slice a258 n258 c258, .slice a259 n259 c259, .slice a260 n260 c260]]))
 else
 (.load ⟨p2, 0, none⟩ 1 fun v261 =>
 .exI fun i262 =>
 .isL v261 [.int .i64 i262] <|
 bif (decide (i262 > 5)) then
  (.draw <|
  .load ⟨p24, 0, none⟩ 17 fun v263 =>
  .exI fun i264 =>
  .exI fun i265 =>
  .exI fun i266 =>
  .exI fun i267 =>
  .exI fun i268 =>
  .exI fun i269 =>
  .exS fun a270 n270 c270 =>
  .exS fun a271 n271 c271 =>
  .exI fun i272 =>
  .exI fun i273 =>
  .exI fun i274 =>
  .exS fun a275 n275 c275 =>
  .exS fun a276 n276 c276 =>
  .exS fun a277 n277 c277 =>
  .exS fun a278 n278 c278 =>
  .exI fun i279 =>
  .exS fun a280 n280 c280 =>
  .isL v263 [.int .u64 i264, .int .i64 i265, .int .i64 i266, .int .i64 i267, .int .u64 i268, .int .u64 i269, .slice a270 n270 c270, .slice a271 n271 c271, .int .u64 i272, .int .i64 i273, .int .i64 i274, .slice a275 n275 c275, .slice a276 n276 c276, .slice a277 n277 c277, .slice a278 n278 c278, .int .u64 i279, .slice a280 n280 c280] <|
  .load ⟨p24, 17, none⟩ 3 fun v281 =>
  .exS fun a282 n282 c282 =>
  .exS fun a283 n283 c283 =>
  .exS fun a284 n284 c284 =>
  .isL v281 [.slice a282 n282 c282, .slice a283 n283 c283, .slice a284 n284 c284] <|
  .store ⟨p3, 0, none⟩ [.int .u64 i264, .int .i64 i265, .int .i64 i266, .int .i64 i267, .int .u64 i268, .int .u64 i269, .slice a270 n270 c270, .slice a271 n271 c271, .int .u64 i272, .int .i64 i273, .int .i64 i274, .slice a275 n275 c275, .slice a276 n276 c276, .slice a277 n277 c277, .slice a278 n278 c278, .int .u64 i279, .slice a280 n280 c280] <|
  .hold [(⟨p24, 17, none⟩, [.slice a282 n282 c282, .slice a283 n283 c283, .slice a284 n284 c284])] <|
  .store ⟨p4, 0, none⟩ [.slice a282 n282 c282, .slice a283 n283 c283, .slice a284 n284 c284] <|
  .load ⟨p3, 0, none⟩ 17 fun v285 =>
  .exI fun i286 =>
  .exI fun i287 =>
  .exI fun i288 =>
  .exI fun i289 =>
  .exI fun i290 =>
  .exI fun i291 =>
  .exS fun a292 n292 c292 =>
  .exS fun a293 n293 c293 =>
  .exI fun i294 =>
  .exI fun i295 =>
  .exI fun i296 =>
  .exS fun a297 n297 c297 =>
  .exS fun a298 n298 c298 =>
  .exS fun a299 n299 c299 =>
  .exS fun a300 n300 c300 =>
  .exI fun i301 =>
  .exS fun a302 n302 c302 =>
  .isL v285 [.int .u64 i286, .int .i64 i287, .int .i64 i288, .int .i64 i289, .int .u64 i290, .int .u64 i291, .slice a292 n292 c292, .slice a293 n293 c293, .int .u64 i294, .int .i64 i295, .int .i64 i296, .slice a297 n297 c297, .slice a298 n298 c298, .slice a299 n299 c299, .slice a300 n300 c300, .int .u64 i301, .slice a302 n302 c302] <|
  .load ⟨p4, 0, none⟩ 3 fun v303 =>
  .exS fun a304 n304 c304 =>
  .exS fun a305 n305 c305 =>
  .exS fun a306 n306 c306 =>
  .isL v303 [.slice a304 n304 c304, .slice a305 n305 c305, .slice a306 n306 c306] <|
  .ret (.tuple #[.agg #[.int .u64 i286, .int .i64 i287, .int .i64 i288, .int .i64 i289, .int .u64 i290, .int .u64 i291, .slice a292 n292 c292, .slice a293 n293 c293, .int .u64 i294, .int .i64 i295, .int .i64 i296, .slice a297 n297 c297, .slice a298 n298 c298, .slice a299 n299 c299, .slice a300 n300 c300, .int .u64 i301, .slice a302 n302 c302], .agg #[.slice a304 n304 c304, .slice a305 n305 c305, .slice a306 n306 c306]]))
 else
 (.cut 0 (.load ⟨p2, 3, none⟩ 1 fun v307 =>
  .exI fun i308 =>
  .isL v307 [.int .u64 i308] <|
  .load ⟨p1, 0, none⟩ 1 fun v309 =>
  .exI fun i310 =>
  .isL v309 [.int .u64 i310] <|
  bif (decide (i308 > i310)) then
   (.load ⟨p2, 3, none⟩ 1 fun v311 =>
   .exI fun i312 =>
   .isL v311 [.int .u64 i312] <|
   .call 88 ([.pointer (some ⟨p24, 0, none⟩), .int .u64 i312]) fun v313 =>
   .isL [v313] [.tuple #[]] <|
   .again 0 [])
  else
  (.again 0 [])) (fun v1307 =>
 .isL v1307 [] <|
 .cut 0 (.load ⟨p2, 0, none⟩ 1 fun v315 =>
  .exI fun i316 =>
  .isL v315 [.int .i64 i316] <|
  bif (i316 == 1) then
   (.load ⟨p2, 0, none⟩ 21 fun v317 =>
   .exI fun i318 =>
   .exI fun i319 =>
   .exI fun i320 =>
   .exI fun i321 =>
   .exI fun i322 =>
   .exI fun i323 =>
   .exS fun a324 n324 c324 =>
   .exI fun i325 =>
   .exI fun i326 =>
   .exB fun b327 =>
   .exI fun i328 =>
   .exI fun i329 =>
   .exS fun a330 n330 c330 =>
   .exI fun i331 =>
   .exI fun i332 =>
   .exI fun i333 =>
   .exT fun s334 =>
   .exT fun s335 =>
   .exI fun i336 =>
   .exI fun i337 =>
   .exT fun s338 =>
   .isL v317 [.int .i64 i318, .int .i64 i319, .int .i64 i320, .int .u64 i321, .int .u64 i322, .int .u64 i323, .slice a324 n324 c324, .int .u64 i325, .int .u64 i326, .bool b327, .int .u64 i328, .int .u64 i329, .slice a330 n330 c330, .int .i64 i331, .int .i64 i332, .int .u64 i333, .string s334, .string s335, .int .u64 i336, .int .i64 i337, .string s338] <|
   .call 89 ([.pointer (some ⟨p24, 0, none⟩), .agg #[.int .i64 i318, .int .i64 i319, .int .i64 i320, .int .u64 i321, .int .u64 i322, .int .u64 i323, .slice a324 n324 c324, .int .u64 i325, .int .u64 i326, .bool b327, .int .u64 i328, .int .u64 i329, .slice a330 n330 c330, .int .i64 i331, .int .i64 i332, .int .u64 i333, .string s334, .string s335, .int .u64 i336, .int .i64 i337, .string s338]]) fun v339 =>
   .isL [v339] [.tuple #[]] <|
   .again 0 [])
  else
  (bif (i316 == 2) then
   (.load ⟨p2, 0, none⟩ 21 fun v340 =>
   .exI fun i341 =>
   .exI fun i342 =>
   .exI fun i343 =>
   .exI fun i344 =>
   .exI fun i345 =>
   .exI fun i346 =>
   .exS fun a347 n347 c347 =>
   .exI fun i348 =>
   .exI fun i349 =>
   .exB fun b350 =>
   .exI fun i351 =>
   .exI fun i352 =>
   .exS fun a353 n353 c353 =>
   .exI fun i354 =>
   .exI fun i355 =>
   .exI fun i356 =>
   .exT fun s357 =>
   .exT fun s358 =>
   .exI fun i359 =>
   .exI fun i360 =>
   .exT fun s361 =>
   .isL v340 [.int .i64 i341, .int .i64 i342, .int .i64 i343, .int .u64 i344, .int .u64 i345, .int .u64 i346, .slice a347 n347 c347, .int .u64 i348, .int .u64 i349, .bool b350, .int .u64 i351, .int .u64 i352, .slice a353 n353 c353, .int .i64 i354, .int .i64 i355, .int .u64 i356, .string s357, .string s358, .int .u64 i359, .int .i64 i360, .string s361] <|
   .call 90 ([.pointer (some ⟨p24, 0, none⟩), .agg #[.int .i64 i341, .int .i64 i342, .int .i64 i343, .int .u64 i344, .int .u64 i345, .int .u64 i346, .slice a347 n347 c347, .int .u64 i348, .int .u64 i349, .bool b350, .int .u64 i351, .int .u64 i352, .slice a353 n353 c353, .int .i64 i354, .int .i64 i355, .int .u64 i356, .string s357, .string s358, .int .u64 i359, .int .i64 i360, .string s361]]) fun v362 =>
   .isL [v362] [.tuple #[]] <|
   .again 0 [])
  else
  (bif (i316 == 3) then
   (.load ⟨p2, 0, none⟩ 21 fun v363 =>
   .exI fun i364 =>
   .exI fun i365 =>
   .exI fun i366 =>
   .exI fun i367 =>
   .exI fun i368 =>
   .exI fun i369 =>
   .exS fun a370 n370 c370 =>
   .exI fun i371 =>
   .exI fun i372 =>
   .exB fun b373 =>
   .exI fun i374 =>
   .exI fun i375 =>
   .exS fun a376 n376 c376 =>
   .exI fun i377 =>
   .exI fun i378 =>
   .exI fun i379 =>
   .exT fun s380 =>
   .exT fun s381 =>
   .exI fun i382 =>
   .exI fun i383 =>
   .exT fun s384 =>
   .isL v363 [.int .i64 i364, .int .i64 i365, .int .i64 i366, .int .u64 i367, .int .u64 i368, .int .u64 i369, .slice a370 n370 c370, .int .u64 i371, .int .u64 i372, .bool b373, .int .u64 i374, .int .u64 i375, .slice a376 n376 c376, .int .i64 i377, .int .i64 i378, .int .u64 i379, .string s380, .string s381, .int .u64 i382, .int .i64 i383, .string s384] <|
   .call 91 ([.pointer (some ⟨p24, 0, none⟩), .agg #[.int .i64 i364, .int .i64 i365, .int .i64 i366, .int .u64 i367, .int .u64 i368, .int .u64 i369, .slice a370 n370 c370, .int .u64 i371, .int .u64 i372, .bool b373, .int .u64 i374, .int .u64 i375, .slice a376 n376 c376, .int .i64 i377, .int .i64 i378, .int .u64 i379, .string s380, .string s381, .int .u64 i382, .int .i64 i383, .string s384]]) fun v385 =>
   .isL [v385] [.tuple #[]] <|
   .again 0 [])
  else
  (bif (i316 == 4) then
   (.load ⟨p2, 0, none⟩ 21 fun v386 =>
   .exI fun i387 =>
   .exI fun i388 =>
   .exI fun i389 =>
   .exI fun i390 =>
   .exI fun i391 =>
   .exI fun i392 =>
   .exS fun a393 n393 c393 =>
   .exI fun i394 =>
   .exI fun i395 =>
   .exB fun b396 =>
   .exI fun i397 =>
   .exI fun i398 =>
   .exS fun a399 n399 c399 =>
   .exI fun i400 =>
   .exI fun i401 =>
   .exI fun i402 =>
   .exT fun s403 =>
   .exT fun s404 =>
   .exI fun i405 =>
   .exI fun i406 =>
   .exT fun s407 =>
   .isL v386 [.int .i64 i387, .int .i64 i388, .int .i64 i389, .int .u64 i390, .int .u64 i391, .int .u64 i392, .slice a393 n393 c393, .int .u64 i394, .int .u64 i395, .bool b396, .int .u64 i397, .int .u64 i398, .slice a399 n399 c399, .int .i64 i400, .int .i64 i401, .int .u64 i402, .string s403, .string s404, .int .u64 i405, .int .i64 i406, .string s407] <|
   .call 92 ([.pointer (some ⟨p24, 0, none⟩), .agg #[.int .i64 i387, .int .i64 i388, .int .i64 i389, .int .u64 i390, .int .u64 i391, .int .u64 i392, .slice a393 n393 c393, .int .u64 i394, .int .u64 i395, .bool b396, .int .u64 i397, .int .u64 i398, .slice a399 n399 c399, .int .i64 i400, .int .i64 i401, .int .u64 i402, .string s403, .string s404, .int .u64 i405, .int .i64 i406, .string s407]]) fun v408 =>
   .isL [v408] [.tuple #[]] <|
   .again 0 [])
  else
  (bif (i316 == 5) then
   (.load ⟨p2, 0, none⟩ 21 fun v409 =>
   .exI fun i410 =>
   .exI fun i411 =>
   .exI fun i412 =>
   .exI fun i413 =>
   .exI fun i414 =>
   .exI fun i415 =>
   .exS fun a416 n416 c416 =>
   .exI fun i417 =>
   .exI fun i418 =>
   .exB fun b419 =>
   .exI fun i420 =>
   .exI fun i421 =>
   .exS fun a422 n422 c422 =>
   .exI fun i423 =>
   .exI fun i424 =>
   .exI fun i425 =>
   .exT fun s426 =>
   .exT fun s427 =>
   .exI fun i428 =>
   .exI fun i429 =>
   .exT fun s430 =>
   .isL v409 [.int .i64 i410, .int .i64 i411, .int .i64 i412, .int .u64 i413, .int .u64 i414, .int .u64 i415, .slice a416 n416 c416, .int .u64 i417, .int .u64 i418, .bool b419, .int .u64 i420, .int .u64 i421, .slice a422 n422 c422, .int .i64 i423, .int .i64 i424, .int .u64 i425, .string s426, .string s427, .int .u64 i428, .int .i64 i429, .string s430] <|
   .call 93 ([.pointer (some ⟨p24, 0, none⟩), .agg #[.int .i64 i410, .int .i64 i411, .int .i64 i412, .int .u64 i413, .int .u64 i414, .int .u64 i415, .slice a416 n416 c416, .int .u64 i417, .int .u64 i418, .bool b419, .int .u64 i420, .int .u64 i421, .slice a422 n422 c422, .int .i64 i423, .int .i64 i424, .int .u64 i425, .string s426, .string s427, .int .u64 i428, .int .i64 i429, .string s430]]) fun v431 =>
   .isL [v431] [.tuple #[]] <|
   .again 0 [])
  else
  (.again 0 [])))))) (fun v1315 =>
 .isL v1315 [] <|
 .draw <|
 .load ⟨p24, 0, none⟩ 17 fun v433 =>
 .exI fun i434 =>
 .exI fun i435 =>
 .exI fun i436 =>
 .exI fun i437 =>
 .exI fun i438 =>
 .exI fun i439 =>
 .exS fun a440 n440 c440 =>
 .exS fun a441 n441 c441 =>
 .exI fun i442 =>
 .exI fun i443 =>
 .exI fun i444 =>
 .exS fun a445 n445 c445 =>
 .exS fun a446 n446 c446 =>
 .exS fun a447 n447 c447 =>
 .exS fun a448 n448 c448 =>
 .exI fun i449 =>
 .exS fun a450 n450 c450 =>
 .isL v433 [.int .u64 i434, .int .i64 i435, .int .i64 i436, .int .i64 i437, .int .u64 i438, .int .u64 i439, .slice a440 n440 c440, .slice a441 n441 c441, .int .u64 i442, .int .i64 i443, .int .i64 i444, .slice a445 n445 c445, .slice a446 n446 c446, .slice a447 n447 c447, .slice a448 n448 c448, .int .u64 i449, .slice a450 n450 c450] <|
 .load ⟨p24, 17, none⟩ 3 fun v451 =>
 .exS fun a452 n452 c452 =>
 .exS fun a453 n453 c453 =>
 .exS fun a454 n454 c454 =>
 .isL v451 [.slice a452 n452 c452, .slice a453 n453 c453, .slice a454 n454 c454] <|
 .store ⟨p3, 0, none⟩ [.int .u64 i434, .int .i64 i435, .int .i64 i436, .int .i64 i437, .int .u64 i438, .int .u64 i439, .slice a440 n440 c440, .slice a441 n441 c441, .int .u64 i442, .int .i64 i443, .int .i64 i444, .slice a445 n445 c445, .slice a446 n446 c446, .slice a447 n447 c447, .slice a448 n448 c448, .int .u64 i449, .slice a450 n450 c450] <|
 .hold [(⟨p24, 17, none⟩, [.slice a452 n452 c452, .slice a453 n453 c453, .slice a454 n454 c454])] <|
 .store ⟨p4, 0, none⟩ [.slice a452 n452 c452, .slice a453 n453 c453, .slice a454 n454 c454] <|
 .load ⟨p3, 0, none⟩ 17 fun v455 =>
 .exI fun i456 =>
 .exI fun i457 =>
 .exI fun i458 =>
 .exI fun i459 =>
 .exI fun i460 =>
 .exI fun i461 =>
 .exS fun a462 n462 c462 =>
 .exS fun a463 n463 c463 =>
 .exI fun i464 =>
 .exI fun i465 =>
 .exI fun i466 =>
 .exS fun a467 n467 c467 =>
 .exS fun a468 n468 c468 =>
 .exS fun a469 n469 c469 =>
 .exS fun a470 n470 c470 =>
 .exI fun i471 =>
 .exS fun a472 n472 c472 =>
 .isL v455 [.int .u64 i456, .int .i64 i457, .int .i64 i458, .int .i64 i459, .int .u64 i460, .int .u64 i461, .slice a462 n462 c462, .slice a463 n463 c463, .int .u64 i464, .int .i64 i465, .int .i64 i466, .slice a467 n467 c467, .slice a468 n468 c468, .slice a469 n469 c469, .slice a470 n470 c470, .int .u64 i471, .slice a472 n472 c472] <|
 .load ⟨p4, 0, none⟩ 3 fun v473 =>
 .exS fun a474 n474 c474 =>
 .exS fun a475 n475 c475 =>
 .exS fun a476 n476 c476 =>
 .isL v473 [.slice a474 n474 c474, .slice a475 n475 c475, .slice a476 n476 c476] <|
 .ret (.tuple #[.agg #[.int .u64 i456, .int .i64 i457, .int .i64 i458, .int .i64 i459, .int .u64 i460, .int .u64 i461, .slice a462 n462 c462, .slice a463 n463 c463, .int .u64 i464, .int .i64 i465, .int .i64 i466, .slice a467 n467 c467, .slice a468 n468 c468, .slice a469 n469 c469, .slice a470 n470 c470, .int .u64 i471, .slice a472 n472 c472], .agg #[.slice a474 n474 c474, .slice a475 n475 c475, .slice a476 n476 c476]])))))))))
theorem e46 (r0 : Int) (r1 : Int) (r2 : Int) (r3 : Int) (r4 : Int) (r5 : Int) (r6a : Option Addr) (r6n : Nat) (r6c : Nat) (r7a : Option Addr) (r7n : Nat) (r7c : Nat) (r8 : Int) (r9 : Int) (r10 : Int) (r11a : Option Addr) (r11n : Nat) (r11c : Nat) (r12a : Option Addr) (r12n : Nat) (r12c : Nat) (r13a : Option Addr) (r13n : Nat) (r13c : Nat) (r14a : Option Addr) (r14n : Nat) (r14c : Nat) (r15 : Int) (r16a : Option Addr) (r16n : Nat) (r16c : Nat) (m0 : Int) (m1 : Int) (m2 : Int) (m3 : Int) (m4 : Int) (m5 : Int) (m6a : Option Addr) (m6n : Nat) (m6c : Nat) (m7 : Int) (m8 : Int) (m9 : Bool) (m10 : Int) (m11 : Int) (m12a : Option Addr) (m12n : Nat) (m12c : Nat) (m13 : Int) (m14 : Int) (m15 : Int) (m16 : ByteArray) (m17 : ByteArray) (m18 : Int) (m19 : Int) (m20 : ByteArray) : genFn Try.prog noM ct46 Try.f46 [.agg #[.int .u64 r0, .int .i64 r1, .int .i64 r2, .int .i64 r3, .int .u64 r4, .int .u64 r5, .slice r6a r6n r6c, .slice r7a r7n r7c, .int .u64 r8, .int .i64 r9, .int .i64 r10, .slice r11a r11n r11c, .slice r12a r12n r12c, .slice r13a r13n r13c, .slice r14a r14n r14c, .int .u64 r15, .slice r16a r16n r16c], .agg #[.int .i64 m0, .int .i64 m1, .int .i64 m2, .int .u64 m3, .int .u64 m4, .int .u64 m5, .slice m6a m6n m6c, .int .u64 m7, .int .u64 m8, .bool m9, .int .u64 m10, .int .u64 m11, .slice m12a m12n m12c, .int .i64 m13, .int .i64 m14, .int .u64 m15, .string m16, .string m17, .int .u64 m18, .int .i64 m19, .string m20]] = t46 r0 r1 r2 r3 r4 r5 r6a r6n r6c r7a r7n r7c r8 r9 r10 r11a r11n r11c r12a r12n r12c r13a r13n r13c r14a r14n r14c r15 r16a r16n r16c m0 m1 m2 m3 m4 m5 m6a m6n m6c m7 m8 m9 m10 m11 m12a m12n m12c m13 m14 m15 m16 m17 m18 m19 m20 := by kernel_rfl
theorem r46 (r0 : Int) (r1 : Int) (r2 : Int) (r3 : Int) (r4 : Int) (r5 : Int) (r6a : Option Addr) (r6n : Nat) (r6c : Nat) (r7a : Option Addr) (r7n : Nat) (r7c : Nat) (r8 : Int) (r9 : Int) (r10 : Int) (r11a : Option Addr) (r11n : Nat) (r11c : Nat) (r12a : Option Addr) (r12n : Nat) (r12c : Nat) (r13a : Option Addr) (r13n : Nat) (r13c : Nat) (r14a : Option Addr) (r14n : Nat) (r14c : Nat) (r15 : Int) (r16a : Option Addr) (r16n : Nat) (r16c : Nat) (m0 : Int) (m1 : Int) (m2 : Int) (m3 : Int) (m4 : Int) (m5 : Int) (m6a : Option Addr) (m6n : Nat) (m6c : Nat) (m7 : Int) (m8 : Int) (m9 : Bool) (m10 : Int) (m11 : Int) (m12a : Option Addr) (m12n : Nat) (m12c : Nat) (m13 : Int) (m14 : Int) (m15 : Int) (m16 : ByteArray) (m17 : ByteArray) (m18 : Int) (m19 : Int) (m20 : ByteArray) {R : Value → World → Prop} {w : World} (h : (t46 r0 r1 r2 r3 r4 r5 r6a r6n r6c r7a r7n r7c r8 r9 r10 r11a r11n r11c r12a r12n r12c r13a r13n r13c r14a r14n r14c r15 r16a r16n r16c m0 m1 m2 m3 m4 m5 m6a m6n m6c m7 m8 m9 m10 m11 m12a m12n m12c m13 m14 m15 m16 m17 m18 m19 m20).wp Try.prog R (fun _ _ _ => False) w) : Runs Try.prog 46 [.agg #[.int .u64 r0, .int .i64 r1, .int .i64 r2, .int .i64 r3, .int .u64 r4, .int .u64 r5, .slice r6a r6n r6c, .slice r7a r7n r7c, .int .u64 r8, .int .i64 r9, .int .i64 r10, .slice r11a r11n r11c, .slice r12a r12n r12c, .slice r13a r13n r13c, .slice r14a r14n r14c, .int .u64 r15, .slice r16a r16n r16c], .agg #[.int .i64 m0, .int .i64 m1, .int .i64 m2, .int .u64 m3, .int .u64 m4, .int .u64 m5, .slice m6a m6n m6c, .int .u64 m7, .int .u64 m8, .bool m9, .int .u64 m10, .int .u64 m11, .slice m12a m12n m12c, .int .i64 m13, .int .i64 m14, .int .u64 m15, .string m16, .string m17, .int .u64 m18, .int .i64 m19, .string m20]] w R :=
 genFn_runs mixed noM ct46 Try.func46 (by kernel_rfl) (by rw [e46]; exact h)
end Go.Proofs.Ytnbfffmdplcajaa
