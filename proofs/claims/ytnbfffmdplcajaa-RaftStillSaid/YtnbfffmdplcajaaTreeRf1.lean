/- The trees of verification conditions of functions 77, 78, 79, 80, 81, 84, 85, 104, 105: printed by a program of mine, checked here. -/
import Derived.Test.YtnbfffmdplcajaaTree0
set_option linter.unusedVariables false
set_option maxRecDepth 100000
namespace Go.Proofs.Ytnbfffmdplcajaa
open Go.Vc
def t77 (s : Nat) (role : Int) (lead : Int) : VC :=
 .store ⟨s, 9, none⟩ [.int .i64 role] <|
 .store ⟨s, 10, none⟩ [.int .i64 lead] <|
 .store ⟨s, 11, none⟩ [.slice none 0 0] <|
 .store ⟨s, 12, none⟩ [.slice none 0 0] <|
 .store ⟨s, 13, none⟩ [.slice none 0 0] <|
 .store ⟨s, 14, none⟩ [.slice none 0 0] <|
 .store ⟨s, 16, none⟩ [.slice none 0 0] <|
 .ret (.tuple #[])
theorem e77 (s : Nat) (role : Int) (lead : Int) : genFn Try.prog noM noM Try.f77 [.pointer (some ⟨s, 0, none⟩), .int .i64 role, .int .i64 lead] = t77 s role lead := by kernel_rfl
theorem r77 (s : Nat) (role : Int) (lead : Int) {R : Value → World → Prop} {w : World} (h : (t77 s role lead).wp Try.prog R (fun _ _ _ => False) w) : Runs Try.prog 77 [.pointer (some ⟨s, 0, none⟩), .int .i64 role, .int .i64 lead] w R :=
 genFn_runs mixed noM noM Try.func77 (by kernel_rfl) (by rw [e77]; exact h)
def t78 (s : Nat) : VC :=
 .draw <|
 .load ⟨s, 17, none⟩ 1 fun v1 =>
 .exS fun a2 n2 c2 =>
 .isL v1 [.slice a2 n2 c2] <|
 .load ⟨s, 0, none⟩ 2 fun v3 =>
 .exI fun i4 =>
 .exI fun i5 =>
 .isL v3 [.int .u64 i4, .int .i64 i5] <|
 .new 59 [.int .i64 1, .int .u64 i4, .int .i64 i5, .int .u64 0, .slice none 0 0, .int .u64 0, .int .u64 0, .int .u64 0, .slice none 0 0] fun p6 =>
 .append 59 9 104 [.int .i64 0, .int .u64 0, .int .i64 0, .int .u64 0, .slice none 0 0, .int .u64 0, .int .u64 0, .int .u64 0, .slice none 0 0] a2 n2 c2 (some ⟨p6, 0, none⟩) 1 fun a7 n7 c7 =>
 .store ⟨s, 17, none⟩ [.slice a7 n7 c7] <|
 .ret (.tuple #[])
theorem e78 (s : Nat) : genFn Try.prog noM noM Try.f78 [.pointer (some ⟨s, 0, none⟩)] = t78 s := by kernel_rfl
theorem r78 (s : Nat) {R : Value → World → Prop} {w : World} (h : (t78 s).wp Try.prog R (fun _ _ _ => False) w) : Runs Try.prog 78 [.pointer (some ⟨s, 0, none⟩)] w R :=
 genFn_runs mixed noM noM Try.func78 (by kernel_rfl) (by rw [e78]; exact h)
def t79 (s : Nat) (n : Int) : VC :=
 .load ⟨s, 3, none⟩ 1 fun v1 =>
 .exI fun i2 =>
 .isL v1 [.int .i64 i2] <|
 .ret (.bool (decide (IntKind.i64.wrap (2 * n) > i2)))
theorem e79 (s : Nat) (n : Int) : genFn Try.prog noM noM Try.f79 [.pointer (some ⟨s, 0, none⟩), .int .i64 n] = t79 s n := by kernel_rfl
theorem r79 (s : Nat) (n : Int) {R : Value → World → Prop} {w : World} (h : (t79 s n).wp Try.prog R (fun _ _ _ => False) w) : Runs Try.prog 79 [.pointer (some ⟨s, 0, none⟩), .int .i64 n] w R :=
 genFn_runs mixed noM noM Try.func79 (by kernel_rfl) (by rw [e79]; exact h)
def lv80 : Marks := (fun | some 3 => some [(4, .int .i64 0)] | _ => none)
def t80 (s : Nat) : VC :=
 .load ⟨s, 2, none⟩ 1 fun v1 =>
 .exI fun i2 =>
 .isL v1 [.int .i64 i2] <|
 .call 77 ([.pointer (some ⟨s, 0, none⟩), .int .i64 2, .int .i64 i2]) fun v3 =>
 .isL [v3] [.tuple #[]] <|
 .load ⟨s, 0, none⟩ 17 fun v4 =>
 .exI fun i5 =>
 .exI fun i6 =>
 .exI fun i7 =>
 .exI fun i8 =>
 .exI fun i9 =>
 .exI fun i10 =>
 .exS fun a11 n11 c11 =>
 .exS fun a12 n12 c12 =>
 .exI fun i13 =>
 .exI fun i14 =>
 .exI fun i15 =>
 .exS fun a16 n16 c16 =>
 .exS fun a17 n17 c17 =>
 .exS fun a18 n18 c18 =>
 .exS fun a19 n19 c19 =>
 .exI fun i20 =>
 .exS fun a21 n21 c21 =>
 .isL v4 [.int .u64 i5, .int .i64 i6, .int .i64 i7, .int .i64 i8, .int .u64 i9, .int .u64 i10, .slice a11 n11 c11, .slice a12 n12 c12, .int .u64 i13, .int .i64 i14, .int .i64 i15, .slice a16 n16 c16, .slice a17 n17 c17, .slice a18 n18 c18, .slice a19 n19 c19, .int .u64 i20, .slice a21 n21 c21] <|
 .call 26 ([.agg #[.int .u64 i5, .int .i64 i6, .int .i64 i7, .int .i64 i8, .int .u64 i9, .int .u64 i10, .slice a11 n11 c11, .slice a12 n12 c12, .int .u64 i13, .int .i64 i14, .int .i64 i15, .slice a16 n16 c16, .slice a17 n17 c17, .slice a18 n18 c18, .slice a19 n19 c19, .int .u64 i20, .slice a21 n21 c21]]) fun v22 =>
 .exI fun i23 =>
 .exI fun i24 =>
 .isL [v22] [.tuple #[.int .u64 i23, .int .u64 i24]] <|
 .loop 0 [.int .i64 0] (fun v25 =>
  .exI fun i26 =>
  .isL v25 [.int .i64 i26] <|
  .load ⟨s, 3, none⟩ 1 fun v27 =>
  .exI fun i28 =>
  .isL v27 [.int .i64 i28] <|
  bif (decide (i26 < i28)) then
   (.draw <|
   .load ⟨s, 12, none⟩ 1 fun v29 =>
   .exS fun a30 n30 c30 =>
   .isL v29 [.slice a30 n30 c30] <|
   .load ⟨s, 13, none⟩ 1 fun v31 =>
   .exS fun a32 n32 c32 =>
   .isL v31 [.slice a32 n32 c32] <|
   .load ⟨s, 14, none⟩ 1 fun v33 =>
   .exS fun a34 n34 c34 =>
   .isL v33 [.slice a34 n34 c34] <|
   .both
    (.new 22 [.int .u64 (IntKind.u64.wrap (i23 + 1))] fun p35 =>
    .both
     (.append 22 1 8 [.int .u64 0] a30 n30 c30 (some ⟨p35, 0, none⟩) 1 fun a36 n36 c36 =>
     .hold [(⟨s, 14, none⟩, [.slice a34 n34 c34]), (⟨s, 13, none⟩, [.slice a32 n32 c32])] <|
     .both
      (.new 22 [.int .u64 0] fun p37 =>
      .both
       (.append 22 1 8 [.int .u64 0] a32 n32 c32 (some ⟨p37, 0, none⟩) 1 fun a38 n38 c38 =>
       .hold [(⟨s, 14, none⟩, [.slice a34 n34 c34])] <|
       .new 22 [.int .u64 0] fun p39 =>
       .append 22 1 8 [.int .u64 0] a34 n34 c34 (some ⟨p39, 0, none⟩) 1 fun a40 n40 c40 =>
       .store ⟨s, 12, none⟩ [.slice a36 n36 c36] <|
       .store ⟨s, 13, none⟩ [.slice a38 n38 c38] <|
       .store ⟨s, 14, none⟩ [.slice a40 n40 c40] <|
       .again 0 [.int .i64 (IntKind.i64.wrap (i26 + 1))])
      (.new 22 [.int .u64 0] fun p41 =>
      .append 22 1 8 [.int .u64 0] a32 n32 c32 (some ⟨p37, 0, none⟩) 1 fun a42 n42 c42 =>
      .hold [(⟨s, 14, none⟩, [.slice a34 n34 c34])] <|
      .append 22 1 8 [.int .u64 0] a34 n34 c34 (some ⟨p41, 0, none⟩) 1 fun a43 n43 c43 =>
      .store ⟨s, 12, none⟩ [.slice a36 n36 c36] <|
      .store ⟨s, 13, none⟩ [.slice a42 n42 c42] <|
      .store ⟨s, 14, none⟩ [.slice a43 n43 c43] <|
      .again 0 [.int .i64 (IntKind.i64.wrap (i26 + 1))]))
     (.new 22 [.int .u64 0] fun p44 =>
     .new 22 [.int .u64 0] fun p45 =>
     .append 22 1 8 [.int .u64 0] a32 n32 c32 (some ⟨p45, 0, none⟩) 1 fun a46 n46 c46 =>
     .hold [(⟨s, 14, none⟩, [.slice a34 n34 c34])] <|
     .append 22 1 8 [.int .u64 0] a34 n34 c34 (some ⟨p44, 0, none⟩) 1 fun a47 n47 c47 =>
     .store ⟨s, 12, none⟩ [.slice a36 n36 c36] <|
     .store ⟨s, 13, none⟩ [.slice a46 n46 c46] <|
     .store ⟨s, 14, none⟩ [.slice a47 n47 c47] <|
     .again 0 [.int .i64 (IntKind.i64.wrap (i26 + 1))]))
    (.both
     (.new 22 [.int .u64 0] fun p48 =>
     .both
      (.append 22 1 8 [.int .u64 0] a30 n30 c30 (some ⟨p35, 0, none⟩) 1 fun a49 n49 c49 =>
      .hold [(⟨s, 14, none⟩, [.slice a34 n34 c34]), (⟨s, 13, none⟩, [.slice a32 n32 c32])] <|
      .both
       (.append 22 1 8 [.int .u64 0] a32 n32 c32 (some ⟨p48, 0, none⟩) 1 fun a50 n50 c50 =>
       .hold [(⟨s, 14, none⟩, [.slice a34 n34 c34])] <|
       .new 22 [.int .u64 0] fun p51 =>
       .append 22 1 8 [.int .u64 0] a34 n34 c34 (some ⟨p51, 0, none⟩) 1 fun a52 n52 c52 =>
       .store ⟨s, 12, none⟩ [.slice a49 n49 c49] <|
       .store ⟨s, 13, none⟩ [.slice a50 n50 c50] <|
       .store ⟨s, 14, none⟩ [.slice a52 n52 c52] <|
       .again 0 [.int .i64 (IntKind.i64.wrap (i26 + 1))])
      (.new 22 [.int .u64 0] fun p53 =>
      .append 22 1 8 [.int .u64 0] a32 n32 c32 (some ⟨p48, 0, none⟩) 1 fun a54 n54 c54 =>
      .hold [(⟨s, 14, none⟩, [.slice a34 n34 c34])] <|
      .append 22 1 8 [.int .u64 0] a34 n34 c34 (some ⟨p53, 0, none⟩) 1 fun a55 n55 c55 =>
      .store ⟨s, 12, none⟩ [.slice a49 n49 c49] <|
      .store ⟨s, 13, none⟩ [.slice a54 n54 c54] <|
      .store ⟨s, 14, none⟩ [.slice a55 n55 c55] <|
      .again 0 [.int .i64 (IntKind.i64.wrap (i26 + 1))]))
     (.new 22 [.int .u64 0] fun p56 =>
     .append 22 1 8 [.int .u64 0] a30 n30 c30 (some ⟨p35, 0, none⟩) 1 fun a57 n57 c57 =>
     .hold [(⟨s, 14, none⟩, [.slice a34 n34 c34]), (⟨s, 13, none⟩, [.slice a32 n32 c32])] <|
     .append 22 1 8 [.int .u64 0] a32 n32 c32 (some ⟨p48, 0, none⟩) 1 fun a58 n58 c58 =>
     .hold [(⟨s, 14, none⟩, [.slice a34 n34 c34])] <|
     .append 22 1 8 [.int .u64 0] a34 n34 c34 (some ⟨p56, 0, none⟩) 1 fun a59 n59 c59 =>
     .store ⟨s, 12, none⟩ [.slice a57 n57 c57] <|
     .store ⟨s, 13, none⟩ [.slice a58 n58 c58] <|
     .store ⟨s, 14, none⟩ [.slice a59 n59 c59] <|
     .again 0 [.int .i64 (IntKind.i64.wrap (i26 + 1))]))
    (.new 22 [.int .u64 0] fun p60 =>
    .both
     (.append 22 1 8 [.int .u64 0] a30 n30 c30 (some ⟨p35, 0, none⟩) 1 fun a61 n61 c61 =>
     .hold [(⟨s, 14, none⟩, [.slice a34 n34 c34]), (⟨s, 13, none⟩, [.slice a32 n32 c32])] <|
     .new 22 [.int .u64 0] fun p62 =>
     .append 22 1 8 [.int .u64 0] a32 n32 c32 (some ⟨p62, 0, none⟩) 1 fun a63 n63 c63 =>
     .hold [(⟨s, 14, none⟩, [.slice a34 n34 c34])] <|
     .append 22 1 8 [.int .u64 0] a34 n34 c34 (some ⟨p60, 0, none⟩) 1 fun a64 n64 c64 =>
     .store ⟨s, 12, none⟩ [.slice a61 n61 c61] <|
     .store ⟨s, 13, none⟩ [.slice a63 n63 c63] <|
     .store ⟨s, 14, none⟩ [.slice a64 n64 c64] <|
     .again 0 [.int .i64 (IntKind.i64.wrap (i26 + 1))])
    (.new 22 [.int .u64 0] fun p65 =>
    .append 22 1 8 [.int .u64 0] a30 n30 c30 (some ⟨p35, 0, none⟩) 1 fun a66 n66 c66 =>
    .hold [(⟨s, 14, none⟩, [.slice a34 n34 c34]), (⟨s, 13, none⟩, [.slice a32 n32 c32])] <|
    .append 22 1 8 [.int .u64 0] a32 n32 c32 (some ⟨p65, 0, none⟩) 1 fun a67 n67 c67 =>
    .hold [(⟨s, 14, none⟩, [.slice a34 n34 c34])] <|
    .append 22 1 8 [.int .u64 0] a34 n34 c34 (some ⟨p60, 0, none⟩) 1 fun a68 n68 c68 =>
    .store ⟨s, 12, none⟩ [.slice a66 n66 c66] <|
    .store ⟨s, 13, none⟩ [.slice a67 n67 c67] <|
    .store ⟨s, 14, none⟩ [.slice a68 n68 c68] <|
    .again 0 [.int .i64 (IntKind.i64.wrap (i26 + 1))]))))
   (.both
    (.new 22 [.int .u64 0] fun p69 =>
    .both
     (.new 22 [.int .u64 (IntKind.u64.wrap (i23 + 1))] fun p70 =>
     .both
      (.append 22 1 8 [.int .u64 0] a30 n30 c30 (some ⟨p70, 0, none⟩) 1 fun a71 n71 c71 =>
      .hold [(⟨s, 14, none⟩, [.slice a34 n34 c34]), (⟨s, 13, none⟩, [.slice a32 n32 c32])] <|
      .both
       (.append 22 1 8 [.int .u64 0] a32 n32 c32 (some ⟨p69, 0, none⟩) 1 fun a72 n72 c72 =>
       .hold [(⟨s, 14, none⟩, [.slice a34 n34 c34])] <|
       .new 22 [.int .u64 0] fun p73 =>
       .append 22 1 8 [.int .u64 0] a34 n34 c34 (some ⟨p73, 0, none⟩) 1 fun a74 n74 c74 =>
       .store ⟨s, 12, none⟩ [.slice a71 n71 c71] <|
       .store ⟨s, 13, none⟩ [.slice a72 n72 c72] <|
       .store ⟨s, 14, none⟩ [.slice a74 n74 c74] <|
       .again 0 [.int .i64 (IntKind.i64.wrap (i26 + 1))])
      (.new 22 [.int .u64 0] fun p75 =>
      .append 22 1 8 [.int .u64 0] a32 n32 c32 (some ⟨p69, 0, none⟩) 1 fun a76 n76 c76 =>
      .hold [(⟨s, 14, none⟩, [.slice a34 n34 c34])] <|
      .append 22 1 8 [.int .u64 0] a34 n34 c34 (some ⟨p75, 0, none⟩) 1 fun a77 n77 c77 =>
      .store ⟨s, 12, none⟩ [.slice a71 n71 c71] <|
      .store ⟨s, 13, none⟩ [.slice a76 n76 c76] <|
      .store ⟨s, 14, none⟩ [.slice a77 n77 c77] <|
      .again 0 [.int .i64 (IntKind.i64.wrap (i26 + 1))]))
     (.new 22 [.int .u64 0] fun p78 =>
     .append 22 1 8 [.int .u64 0] a30 n30 c30 (some ⟨p70, 0, none⟩) 1 fun a79 n79 c79 =>
     .hold [(⟨s, 14, none⟩, [.slice a34 n34 c34]), (⟨s, 13, none⟩, [.slice a32 n32 c32])] <|
     .append 22 1 8 [.int .u64 0] a32 n32 c32 (some ⟨p69, 0, none⟩) 1 fun a80 n80 c80 =>
     .hold [(⟨s, 14, none⟩, [.slice a34 n34 c34])] <|
     .append 22 1 8 [.int .u64 0] a34 n34 c34 (some ⟨p78, 0, none⟩) 1 fun a81 n81 c81 =>
     .store ⟨s, 12, none⟩ [.slice a79 n79 c79] <|
     .store ⟨s, 13, none⟩ [.slice a80 n80 c80] <|
     .store ⟨s, 14, none⟩ [.slice a81 n81 c81] <|
     .again 0 [.int .i64 (IntKind.i64.wrap (i26 + 1))]))
    (.new 22 [.int .u64 0] fun p82 =>
    .new 22 [.int .u64 (IntKind.u64.wrap (i23 + 1))] fun p83 =>
    .append 22 1 8 [.int .u64 0] a30 n30 c30 (some ⟨p83, 0, none⟩) 1 fun a84 n84 c84 =>
    .hold [(⟨s, 14, none⟩, [.slice a34 n34 c34]), (⟨s, 13, none⟩, [.slice a32 n32 c32])] <|
    .append 22 1 8 [.int .u64 0] a32 n32 c32 (some ⟨p69, 0, none⟩) 1 fun a85 n85 c85 =>
    .hold [(⟨s, 14, none⟩, [.slice a34 n34 c34])] <|
    .append 22 1 8 [.int .u64 0] a34 n34 c34 (some ⟨p82, 0, none⟩) 1 fun a86 n86 c86 =>
    .store ⟨s, 12, none⟩ [.slice a84 n84 c84] <|
    .store ⟨s, 13, none⟩ [.slice a85 n85 c85] <|
    .store ⟨s, 14, none⟩ [.slice a86 n86 c86] <|
    .again 0 [.int .i64 (IntKind.i64.wrap (i26 + 1))]))
   (.new 22 [.int .u64 0] fun p87 =>
   .both
    (.new 22 [.int .u64 (IntKind.u64.wrap (i23 + 1))] fun p88 =>
    .both
     (.append 22 1 8 [.int .u64 0] a30 n30 c30 (some ⟨p88, 0, none⟩) 1 fun a89 n89 c89 =>
     .hold [(⟨s, 14, none⟩, [.slice a34 n34 c34]), (⟨s, 13, none⟩, [.slice a32 n32 c32])] <|
     .new 22 [.int .u64 0] fun p90 =>
     .append 22 1 8 [.int .u64 0] a32 n32 c32 (some ⟨p90, 0, none⟩) 1 fun a91 n91 c91 =>
     .hold [(⟨s, 14, none⟩, [.slice a34 n34 c34])] <|
     .append 22 1 8 [.int .u64 0] a34 n34 c34 (some ⟨p87, 0, none⟩) 1 fun a92 n92 c92 =>
     .store ⟨s, 12, none⟩ [.slice a89 n89 c89] <|
     .store ⟨s, 13, none⟩ [.slice a91 n91 c91] <|
     .store ⟨s, 14, none⟩ [.slice a92 n92 c92] <|
     .again 0 [.int .i64 (IntKind.i64.wrap (i26 + 1))])
    (.new 22 [.int .u64 0] fun p93 =>
    .append 22 1 8 [.int .u64 0] a30 n30 c30 (some ⟨p88, 0, none⟩) 1 fun a94 n94 c94 =>
    .hold [(⟨s, 14, none⟩, [.slice a34 n34 c34]), (⟨s, 13, none⟩, [.slice a32 n32 c32])] <|
    .append 22 1 8 [.int .u64 0] a32 n32 c32 (some ⟨p93, 0, none⟩) 1 fun a95 n95 c95 =>
    .hold [(⟨s, 14, none⟩, [.slice a34 n34 c34])] <|
    .append 22 1 8 [.int .u64 0] a34 n34 c34 (some ⟨p87, 0, none⟩) 1 fun a96 n96 c96 =>
    .store ⟨s, 12, none⟩ [.slice a94 n94 c94] <|
    .store ⟨s, 13, none⟩ [.slice a95 n95 c95] <|
    .store ⟨s, 14, none⟩ [.slice a96 n96 c96] <|
    .again 0 [.int .i64 (IntKind.i64.wrap (i26 + 1))]))
   (.new 22 [.int .u64 0] fun p97 =>
   .new 22 [.int .u64 (IntKind.u64.wrap (i23 + 1))] fun p98 =>
   .append 22 1 8 [.int .u64 0] a30 n30 c30 (some ⟨p98, 0, none⟩) 1 fun a99 n99 c99 =>
   .hold [(⟨s, 14, none⟩, [.slice a34 n34 c34]), (⟨s, 13, none⟩, [.slice a32 n32 c32])] <|
   .append 22 1 8 [.int .u64 0] a32 n32 c32 (some ⟨p97, 0, none⟩) 1 fun a100 n100 c100 =>
   .hold [(⟨s, 14, none⟩, [.slice a34 n34 c34])] <|
   .append 22 1 8 [.int .u64 0] a34 n34 c34 (some ⟨p87, 0, none⟩) 1 fun a101 n101 c101 =>
   .store ⟨s, 12, none⟩ [.slice a99 n99 c99] <|
   .store ⟨s, 13, none⟩ [.slice a100 n100 c100] <|
   .store ⟨s, 14, none⟩ [.slice a101 n101 c101] <|
   .again 0 [.int .i64 (IntKind.i64.wrap (i26 + 1))]))))
  else
  (.store ⟨s, 15, none⟩ [.int .u64 0] <|
  .load ⟨s, 0, none⟩ 1 fun v102 =>
  .exI fun i103 =>
  .isL v102 [.int .u64 i103] <|
  .call 84 ([.pointer (some ⟨s, 0, none⟩), .agg #[.int .u64 i103, .slice none 0 0]]) fun v104 =>
  .isL [v104] [.tuple #[]] <|
  .call 85 ([.pointer (some ⟨s, 0, none⟩)]) fun v105 =>
  .isL [v105] [.tuple #[]] <|
  .call 70 ([.pointer (some ⟨s, 0, none⟩)]) fun v106 =>
  .isL [v106] [.tuple #[]] <|
  .ret (.tuple #[])))
theorem e80 (s : Nat) : genFn Try.prog lv80 noM Try.f80 [.pointer (some ⟨s, 0, none⟩)] = t80 s := by kernel_rfl
theorem r80 (s : Nat) {R : Value → World → Prop} {w : World} (h : (t80 s).wp Try.prog R (fun _ _ _ => False) w) : Runs Try.prog 80 [.pointer (some ⟨s, 0, none⟩)] w R :=
 genFn_runs mixed lv80 noM Try.func80 (by kernel_rfl) (by rw [e80]; exact h)
def t81 (s : Nat) (m0 : Int) (m1 : Int) (m2 : Int) (m3 : Int) (m4 : Int) (m5 : Int) (m6a : Option Addr) (m6n : Nat) (m6c : Nat) (m7 : Int) (m8 : Int) (m9 : Bool) (m10 : Int) (m11 : Int) (m12a : Option Addr) (m12n : Nat) (m12c : Nat) (m13 : Int) (m14 : Int) (m15 : Int) (m16 : ByteArray) (m17 : ByteArray) (m18 : Int) (m19 : Int) (m20 : ByteArray) : VC :=
 .new 70 [.int .i64 m0, .int .i64 m1, .int .i64 m2, .int .u64 m3, .int .u64 m4, .int .u64 m5, .slice m6a m6n m6c, .int .u64 m7, .int .u64 m8, .bool m9, .int .u64 m10, .int .u64 m11, .slice m12a m12n m12c, .int .i64 m13, .int .i64 m14, .int .u64 m15, .string m16, .string m17, .int .u64 m18, .int .i64 m19, .string m20] fun p1 =>
 .draw <|
 .load ⟨s, 2, none⟩ 1 fun v2 =>
 .exI fun i3 =>
 .isL v2 [.int .i64 i3] <|
 .load ⟨s, 0, none⟩ 1 fun v4 =>
 .exI fun i5 =>
 .isL v4 [.int .u64 i5] <|
 .store ⟨p1, 1, none⟩ [.int .i64 i3] <|
 .hold [(⟨s, 0, none⟩, [.int .u64 i5])] <|
 .store ⟨p1, 3, none⟩ [.int .u64 i5] <|
 .draw <|
 .load ⟨s, 18, none⟩ 1 fun v6 =>
 .exS fun a7 n7 c7 =>
 .isL v6 [.slice a7 n7 c7] <|
 .load ⟨p1, 0, none⟩ 21 fun v8 =>
 .exI fun i9 =>
 .exI fun i10 =>
 .exI fun i11 =>
 .exI fun i12 =>
 .exI fun i13 =>
 .exI fun i14 =>
 .exS fun a15 n15 c15 =>
 .exI fun i16 =>
 .exI fun i17 =>
 .exB fun b18 =>
 .exI fun i19 =>
 .exI fun i20 =>
 .exS fun a21 n21 c21 =>
 .exI fun i22 =>
 .exI fun i23 =>
 .exI fun i24 =>
 .exT fun s25 =>
 .exT fun s26 =>
 .exI fun i27 =>
 .exI fun i28 =>
 .exT fun s29 =>
 .isL v8 [.int .i64 i9, .int .i64 i10, .int .i64 i11, .int .u64 i12, .int .u64 i13, .int .u64 i14, .slice a15 n15 c15, .int .u64 i16, .int .u64 i17, .bool b18, .int .u64 i19, .int .u64 i20, .slice a21 n21 c21, .int .i64 i22, .int .i64 i23, .int .u64 i24, .string s25, .string s26, .int .u64 i27, .int .i64 i28, .string s29] <|
 .new 70 [.int .i64 i9, .int .i64 i10, .int .i64 i11, .int .u64 i12, .int .u64 i13, .int .u64 i14, .slice a15 n15 c15, .int .u64 i16, .int .u64 i17, .bool b18, .int .u64 i19, .int .u64 i20, .slice a21 n21 c21, .int .i64 i22, .int .i64 i23, .int .u64 i24, .string s25, .string s26, .int .u64 i27, .int .i64 i28, .string s29] fun p30 =>
 .append 70 21 224 [.int .i64 0, .int .i64 0, .int .i64 0, .int .u64 0, .int .u64 0, .int .u64 0, .slice none 0 0, .int .u64 0, .int .u64 0, .bool false, .int .u64 0, .int .u64 0, .slice none 0 0, .int .i64 0, .int .i64 0, .int .u64 0, .string ({ data := #[] }), .string ({ data := #[] }), .int .u64 0, .int .i64 0, .string ({ data := #[] })] a7 n7 c7 (some ⟨p30, 0, none⟩) 1 fun a31 n31 c31 =>
 .store ⟨s, 18, none⟩ [.slice a31 n31 c31] <|
 .ret (.tuple #[])
theorem e81 (s : Nat) (m0 : Int) (m1 : Int) (m2 : Int) (m3 : Int) (m4 : Int) (m5 : Int) (m6a : Option Addr) (m6n : Nat) (m6c : Nat) (m7 : Int) (m8 : Int) (m9 : Bool) (m10 : Int) (m11 : Int) (m12a : Option Addr) (m12n : Nat) (m12c : Nat) (m13 : Int) (m14 : Int) (m15 : Int) (m16 : ByteArray) (m17 : ByteArray) (m18 : Int) (m19 : Int) (m20 : ByteArray) : genFn Try.prog noM noM Try.f81 [.pointer (some ⟨s, 0, none⟩), .agg #[.int .i64 m0, .int .i64 m1, .int .i64 m2, .int .u64 m3, .int .u64 m4, .int .u64 m5, .slice m6a m6n m6c, .int .u64 m7, .int .u64 m8, .bool m9, .int .u64 m10, .int .u64 m11, .slice m12a m12n m12c, .int .i64 m13, .int .i64 m14, .int .u64 m15, .string m16, .string m17, .int .u64 m18, .int .i64 m19, .string m20]] = t81 s m0 m1 m2 m3 m4 m5 m6a m6n m6c m7 m8 m9 m10 m11 m12a m12n m12c m13 m14 m15 m16 m17 m18 m19 m20 := by kernel_rfl
theorem r81 (s : Nat) (m0 : Int) (m1 : Int) (m2 : Int) (m3 : Int) (m4 : Int) (m5 : Int) (m6a : Option Addr) (m6n : Nat) (m6c : Nat) (m7 : Int) (m8 : Int) (m9 : Bool) (m10 : Int) (m11 : Int) (m12a : Option Addr) (m12n : Nat) (m12c : Nat) (m13 : Int) (m14 : Int) (m15 : Int) (m16 : ByteArray) (m17 : ByteArray) (m18 : Int) (m19 : Int) (m20 : ByteArray) {R : Value → World → Prop} {w : World} (h : (t81 s m0 m1 m2 m3 m4 m5 m6a m6n m6c m7 m8 m9 m10 m11 m12a m12n m12c m13 m14 m15 m16 m17 m18 m19 m20).wp Try.prog R (fun _ _ _ => False) w) : Runs Try.prog 81 [.pointer (some ⟨s, 0, none⟩), .agg #[.int .i64 m0, .int .i64 m1, .int .i64 m2, .int .u64 m3, .int .u64 m4, .int .u64 m5, .slice m6a m6n m6c, .int .u64 m7, .int .u64 m8, .bool m9, .int .u64 m10, .int .u64 m11, .slice m12a m12n m12c, .int .i64 m13, .int .i64 m14, .int .u64 m15, .string m16, .string m17, .int .u64 m18, .int .i64 m19, .string m20]] w R :=
 genFn_runs mixed noM noM Try.func81 (by kernel_rfl) (by rw [e81]; exact h)
def t84 (s : Nat) (e0 : Int) (e1a : Option Addr) (e1n : Nat) (e1c : Nat) : VC :=
 .new 57 [.int .u64 e0, .slice e1a e1n e1c] fun p1 =>
 .draw <|
 .load ⟨s, 7, none⟩ 1 fun v2 =>
 .exS fun a3 n3 c3 =>
 .isL v2 [.slice a3 n3 c3] <|
 .load ⟨p1, 0, none⟩ 2 fun v4 =>
 .exI fun i5 =>
 .exS fun a6 n6 c6 =>
 .isL v4 [.int .u64 i5, .slice a6 n6 c6] <|
 .new 57 [.int .u64 i5, .slice a6 n6 c6] fun p7 =>
 .append 57 2 32 [.int .u64 0, .slice none 0 0] a3 n3 c3 (some ⟨p7, 0, none⟩) 1 fun a8 n8 c8 =>
 .store ⟨s, 7, none⟩ [.slice a8 n8 c8] <|
 .draw <|
 .load ⟨s, 17, none⟩ 1 fun v9 =>
 .exS fun a10 n10 c10 =>
 .isL v9 [.slice a10 n10 c10] <|
 .load ⟨p1, 0, none⟩ 2 fun v11 =>
 .exI fun i12 =>
 .exS fun a13 n13 c13 =>
 .isL v11 [.int .u64 i12, .slice a13 n13 c13] <|
 .new 59 [.int .i64 2, .int .u64 0, .int .i64 0, .int .u64 i12, .slice a13 n13 c13, .int .u64 0, .int .u64 0, .int .u64 0, .slice none 0 0] fun p14 =>
 .append 59 9 104 [.int .i64 0, .int .u64 0, .int .i64 0, .int .u64 0, .slice none 0 0, .int .u64 0, .int .u64 0, .int .u64 0, .slice none 0 0] a10 n10 c10 (some ⟨p14, 0, none⟩) 1 fun a15 n15 c15 =>
 .store ⟨s, 17, none⟩ [.slice a15 n15 c15] <|
 .ret (.tuple #[])
theorem e84 (s : Nat) (e0 : Int) (e1a : Option Addr) (e1n : Nat) (e1c : Nat) : genFn Try.prog noM noM Try.f84 [.pointer (some ⟨s, 0, none⟩), .agg #[.int .u64 e0, .slice e1a e1n e1c]] = t84 s e0 e1a e1n e1c := by kernel_rfl
theorem r84 (s : Nat) (e0 : Int) (e1a : Option Addr) (e1n : Nat) (e1c : Nat) {R : Value → World → Prop} {w : World} (h : (t84 s e0 e1a e1n e1c).wp Try.prog R (fun _ _ _ => False) w) : Runs Try.prog 84 [.pointer (some ⟨s, 0, none⟩), .agg #[.int .u64 e0, .slice e1a e1n e1c]] w R :=
 genFn_runs mixed noM noM Try.func84 (by kernel_rfl) (by rw [e84]; exact h)
def lv85 : Marks := (fun | some 2 => some [(4, .int .u64 0)] | some 7 => some [(7, .int .i64 0), (8, .int .i64 0)] | _ => none)
def t85 (s : Nat) : VC :=
 .load ⟨s, 0, none⟩ 17 fun v1 =>
 .exI fun i2 =>
 .exI fun i3 =>
 .exI fun i4 =>
 .exI fun i5 =>
 .exI fun i6 =>
 .exI fun i7 =>
 .exS fun a8 n8 c8 =>
 .exS fun a9 n9 c9 =>
 .exI fun i10 =>
 .exI fun i11 =>
 .exI fun i12 =>
 .exS fun a13 n13 c13 =>
 .exS fun a14 n14 c14 =>
 .exS fun a15 n15 c15 =>
 .exS fun a16 n16 c16 =>
 .exI fun i17 =>
 .exS fun a18 n18 c18 =>
 .isL v1 [.int .u64 i2, .int .i64 i3, .int .i64 i4, .int .i64 i5, .int .u64 i6, .int .u64 i7, .slice a8 n8 c8, .slice a9 n9 c9, .int .u64 i10, .int .i64 i11, .int .i64 i12, .slice a13 n13 c13, .slice a14 n14 c14, .slice a15 n15 c15, .slice a16 n16 c16, .int .u64 i17, .slice a18 n18 c18] <|
 .call 26 ([.agg #[.int .u64 i2, .int .i64 i3, .int .i64 i4, .int .i64 i5, .int .u64 i6, .int .u64 i7, .slice a8 n8 c8, .slice a9 n9 c9, .int .u64 i10, .int .i64 i11, .int .i64 i12, .slice a13 n13 c13, .slice a14 n14 c14, .slice a15 n15 c15, .slice a16 n16 c16, .int .u64 i17, .slice a18 n18 c18]]) fun v19 =>
 .exI fun i20 =>
 .exI fun i21 =>
 .isL [v19] [.tuple #[.int .u64 i20, .int .u64 i21]] <|
 .loop 0 [.int .u64 i20] (fun v22 =>
  .exI fun i23 =>
  .isL v22 [.int .u64 i23] <|
  .load ⟨s, 8, none⟩ 1 fun v24 =>
  .exI fun i25 =>
  .isL v24 [.int .u64 i25] <|
  bif (decide (i23 > i25)) then
   (.load ⟨s, 0, none⟩ 17 fun v26 =>
   .exI fun i27 =>
   .exI fun i28 =>
   .exI fun i29 =>
   .exI fun i30 =>
   .exI fun i31 =>
   .exI fun i32 =>
   .exS fun a33 n33 c33 =>
   .exS fun a34 n34 c34 =>
   .exI fun i35 =>
   .exI fun i36 =>
   .exI fun i37 =>
   .exS fun a38 n38 c38 =>
   .exS fun a39 n39 c39 =>
   .exS fun a40 n40 c40 =>
   .exS fun a41 n41 c41 =>
   .exI fun i42 =>
   .exS fun a43 n43 c43 =>
   .isL v26 [.int .u64 i27, .int .i64 i28, .int .i64 i29, .int .i64 i30, .int .u64 i31, .int .u64 i32, .slice a33 n33 c33, .slice a34 n34 c34, .int .u64 i35, .int .i64 i36, .int .i64 i37, .slice a38 n38 c38, .slice a39 n39 c39, .slice a40 n40 c40, .slice a41 n41 c41, .int .u64 i42, .slice a43 n43 c43] <|
   .call 28 ([.agg #[.int .u64 i27, .int .i64 i28, .int .i64 i29, .int .i64 i30, .int .u64 i31, .int .u64 i32, .slice a33 n33 c33, .slice a34 n34 c34, .int .u64 i35, .int .i64 i36, .int .i64 i37, .slice a38 n38 c38, .slice a39 n39 c39, .slice a40 n40 c40, .slice a41 n41 c41, .int .u64 i42, .slice a43 n43 c43], .int .u64 i23]) fun v44 =>
   .exI fun i45 =>
   .exB fun b46 =>
   .isL [v44] [.tuple #[.int .u64 i45, .bool b46]] <|
   .loop 1 [.int .i64 1, .int .i64 1] (fun v47 =>
    .exI fun i48 =>
    .exI fun i49 =>
    .isL v47 [.int .i64 i48, .int .i64 i49] <|
    .load ⟨s, 3, none⟩ 1 fun v50 =>
    .exI fun i51 =>
    .isL v50 [.int .i64 i51] <|
    bif (decide (i49 ≤ i51)) then
     (.load ⟨s, 2, none⟩ 1 fun v52 =>
     .exI fun i53 =>
     .isL v52 [.int .i64 i53] <|
     bif (i49 != i53) then
      (.load ⟨s, 13, none⟩ 1 fun v54 =>
      .exS fun a55 n55 c55 =>
      .isL v54 [.slice a55 n55 c55] <|
      .some a55 fun x56 =>
      .need ((0 : Int) ≤ IntKind.i64.wrap (i49 - 1) ∧ IntKind.i64.wrap (i49 - 1) < (↑n55 : Int)) <|
      .load (x56.add ((IntKind.i64.wrap (i49 - 1)).toNat * 1)) 1 fun v57 =>
      .exI fun i58 =>
      .isL v57 [.int .u64 i58] <|
      bif (decide (i58 ≥ i23)) then
       (.again 1 [.int .i64 (IntKind.i64.wrap (i48 + 1)), .int .i64 (IntKind.i64.wrap (i49 + 1))])
      else
      (.again 1 [.int .i64 i48, .int .i64 (IntKind.i64.wrap (i49 + 1))]))
     else
     (.again 1 [.int .i64 i48, .int .i64 (IntKind.i64.wrap (i49 + 1))]))
    else
    (.load ⟨s, 0, none⟩ 1 fun v59 =>
    .exI fun i60 =>
    .isL v59 [.int .u64 i60] <|
    bif (i45 == i60) then
     (.call 79 ([.pointer (some ⟨s, 0, none⟩), .int .i64 i48]) fun v61 =>
     .exB fun b62 =>
     .isL [v61] [.bool b62] <|
     bif b62 then
      (.store ⟨s, 8, none⟩ [.int .u64 i23] <|
      .ret (.tuple #[]))
     else
     (.again 0 [.int .u64 (IntKind.u64.wrap (i23 - 1))]))
    else
    (.again 0 [.int .u64 (IntKind.u64.wrap (i23 - 1))]))))
  else
  (.ret (.tuple #[])))
theorem e85 (s : Nat) : genFn Try.prog lv85 noM Try.f85 [.pointer (some ⟨s, 0, none⟩)] = t85 s := by kernel_rfl
theorem r85 (s : Nat) {R : Value → World → Prop} {w : World} (h : (t85 s).wp Try.prog R (fun _ _ _ => False) w) : Runs Try.prog 85 [.pointer (some ⟨s, 0, none⟩)] w R :=
 genFn_runs mixed lv85 noM Try.func85 (by kernel_rfl) (by rw [e85]; exact h)
def t104 (s : Nat) (to : Int) : VC :=
 .load ⟨s, 12, none⟩ 1 fun v1 =>
 .exS fun a2 n2 c2 =>
 .isL v1 [.slice a2 n2 c2] <|
 .some a2 fun x3 =>
 .need ((0 : Int) ≤ IntKind.i64.wrap (to - 1) ∧ IntKind.i64.wrap (to - 1) < (↑n2 : Int)) <|
 .load (x3.add ((IntKind.i64.wrap (to - 1)).toNat * 1)) 1 fun v4 =>
 .exI fun i5 =>
 .isL v4 [.int .u64 i5] <|
 .load ⟨s, 4, none⟩ 1 fun v6 =>
 .exI fun i7 =>
 .isL v6 [.int .u64 i7] <|
 bif (decide (i5 ≤ i7)) then
  (.draw <|
  .load ⟨s, 4, none⟩ 3 fun v8 =>
  .exI fun i9 =>
  .exI fun i10 =>
  .exS fun a11 n11 c11 =>
  .isL v8 [.int .u64 i9, .int .u64 i10, .slice a11 n11 c11] <|
  .load ⟨s, 15, none⟩ 1 fun v12 =>
  .exI fun i13 =>
  .isL v12 [.int .u64 i13] <|
  .call 81 ([.pointer (some ⟨s, 0, none⟩), .agg #[.int .i64 5, .int .i64 0, .int .i64 to, .int .u64 0, .int .u64 0, .int .u64 0, .slice none 0 0, .int .u64 0, .int .u64 i13, .bool false, .int .u64 i9, .int .u64 i10, .slice a11 n11 c11, .int .i64 0, .int .i64 0, .int .u64 0, .string ({ data := #[] }), .string ({ data := #[] }), .int .u64 0, .int .i64 0, .string ({ data := #[] })]]) fun v14 =>
  .isL [v14] [.tuple #[]] <|
  .ret (.tuple #[]))
 else
 (.load ⟨s, 0, none⟩ 17 fun v15 =>
 .exI fun i16 =>
 .exI fun i17 =>
 .exI fun i18 =>
 .exI fun i19 =>
 .exI fun i20 =>
 .exI fun i21 =>
 .exS fun a22 n22 c22 =>
 .exS fun a23 n23 c23 =>
 .exI fun i24 =>
 .exI fun i25 =>
 .exI fun i26 =>
 .exS fun a27 n27 c27 =>
 .exS fun a28 n28 c28 =>
 .exS fun a29 n29 c29 =>
 .exS fun a30 n30 c30 =>
 .exI fun i31 =>
 .exS fun a32 n32 c32 =>
 .isL v15 [.int .u64 i16, .int .i64 i17, .int .i64 i18, .int .i64 i19, .int .u64 i20, .int .u64 i21, .slice a22 n22 c22, .slice a23 n23 c23, .int .u64 i24, .int .i64 i25, .int .i64 i26, .slice a27 n27 c27, .slice a28 n28 c28, .slice a29 n29 c29, .slice a30 n30 c30, .int .u64 i31, .slice a32 n32 c32] <|
 .call 28 ([.agg #[.int .u64 i16, .int .i64 i17, .int .i64 i18, .int .i64 i19, .int .u64 i20, .int .u64 i21, .slice a22 n22 c22, .slice a23 n23 c23, .int .u64 i24, .int .i64 i25, .int .i64 i26, .slice a27 n27 c27, .slice a28 n28 c28, .slice a29 n29 c29, .slice a30 n30 c30, .int .u64 i31, .slice a32 n32 c32], .int .u64 (IntKind.u64.wrap (i5 - 1))]) fun v33 =>
 .exI fun i34 =>
 .exB fun b35 =>
 .isL [v33] [.tuple #[.int .u64 i34, .bool b35]] <|
 .draw <|
 .load ⟨s, 7, none⟩ 1 fun v36 =>
 .exS fun a37 n37 c37 =>
 .isL v36 [.slice a37 n37 c37] <|
 .load ⟨s, 4, none⟩ 1 fun v38 =>
 .exI fun i39 =>
 .isL v38 [.int .u64 i39] <|
 .need ((0 : Int) ≤ IntKind.u64.wrap (IntKind.u64.wrap (i5 - i39) - 1) ∧ IntKind.u64.wrap (IntKind.u64.wrap (i5 - i39) - 1) ≤ (↑n37 : Int)) <|
 .new 57 [] fun p40 =>
 .append 57 2 32 [.int .u64 0, .slice none 0 0] (some ⟨p40, 0, none⟩) 0 0 (if c37 = (IntKind.u64.wrap (IntKind.u64.wrap (i5 - i39) - 1)).toNat then a37 else Option.map (fun x => x.add ((IntKind.u64.wrap (IntKind.u64.wrap (i5 - i39) - 1)).toNat * 2)) a37) (n37 - (IntKind.u64.wrap (IntKind.u64.wrap (i5 - i39) - 1)).toNat) fun a41 n41 c41 =>
 .draw <|
 .load ⟨s, 8, none⟩ 1 fun v42 =>
 .exI fun i43 =>
 .isL v42 [.int .u64 i43] <|
 .load ⟨s, 15, none⟩ 1 fun v44 =>
 .exI fun i45 =>
 .isL v44 [.int .u64 i45] <|
 .call 81 ([.pointer (some ⟨s, 0, none⟩), .agg #[.int .i64 3, .int .i64 0, .int .i64 to, .int .u64 0, .int .u64 (IntKind.u64.wrap (i5 - 1)), .int .u64 i34, .slice a41 n41 c41, .int .u64 i43, .int .u64 i45, .bool false, .int .u64 0, .int .u64 0, .slice none 0 0, .int .i64 0, .int .i64 0, .int .u64 0, .string ({ data := #[] }), .string ({ data := #[] }), .int .u64 0, .int .i64 0, .string ({ data := #[] })]]) fun v46 =>
 .isL [v46] [.tuple #[]] <|
 .ret (.tuple #[]))
theorem e104 (s : Nat) (to : Int) : genFn Try.prog noM noM Try.f104 [.pointer (some ⟨s, 0, none⟩), .int .i64 to] = t104 s to := by kernel_rfl
theorem r104 (s : Nat) (to : Int) {R : Value → World → Prop} {w : World} (h : (t104 s to).wp Try.prog R (fun _ _ _ => False) w) : Runs Try.prog 104 [.pointer (some ⟨s, 0, none⟩), .int .i64 to] w R :=
 genFn_runs mixed noM noM Try.func104 (by kernel_rfl) (by rw [e104]; exact h)
def lv105 : Marks := (fun | some 2 => some [(2, .slice none 0 0), (3, .int .i64 0)] | some 8 => some [(4, .int .i64 0), (5, .int .i64 0)] | _ => none)
def t105 (s : Nat) : VC :=
 .loop 0 [.slice none 0 0, .int .i64 0] (fun v1 =>
  .exS fun a2 n2 c2 =>
  .exI fun i3 =>
  .isL v1 [.slice a2 n2 c2, .int .i64 i3] <|
  .load ⟨s, 16, none⟩ 1 fun v4 =>
  .exS fun a5 n5 c5 =>
  .isL v4 [.slice a5 n5 c5] <|
  bif (decide (i3 < (↑n5 : Int))) then
   (.draw <|
   .load ⟨s, 16, none⟩ 1 fun v6 =>
   .exS fun a7 n7 c7 =>
   .isL v6 [.slice a7 n7 c7] <|
   .some a7 fun x8 =>
   .need ((0 : Int) ≤ i3 ∧ i3 < (↑n7 : Int)) <|
   .load ((x8.add (i3.toNat * 3)).add 2) 1 fun v9 =>
   .exI fun i10 =>
   .isL v9 [.int .u64 i10] <|
   .load ⟨s, 15, none⟩ 1 fun v11 =>
   .exI fun i12 =>
   .isL v11 [.int .u64 i12] <|
   bif (decide (i10 ≤ i12)) then
    (.loop 1 [.int .i64 1, .int .i64 1] (fun v13 =>
     .exI fun i14 =>
     .exI fun i15 =>
     .isL v13 [.int .i64 i14, .int .i64 i15] <|
     .load ⟨s, 3, none⟩ 1 fun v16 =>
     .exI fun i17 =>
     .isL v16 [.int .i64 i17] <|
     bif (decide (i15 ≤ i17)) then
      (.draw <|
      .load ⟨s, 2, none⟩ 1 fun v18 =>
      .exI fun i19 =>
      .isL v18 [.int .i64 i19] <|
      bif (i15 != i19) then
       (.load ⟨s, 14, none⟩ 1 fun v20 =>
       .exS fun a21 n21 c21 =>
       .isL v20 [.slice a21 n21 c21] <|
       .some a21 fun x22 =>
       .need ((0 : Int) ≤ IntKind.i64.wrap (i15 - 1) ∧ IntKind.i64.wrap (i15 - 1) < (↑n21 : Int)) <|
       .load (x22.add ((IntKind.i64.wrap (i15 - 1)).toNat * 1)) 1 fun v23 =>
       .exI fun i24 =>
       .isL v23 [.int .u64 i24] <|
       .load ⟨s, 16, none⟩ 1 fun v25 =>
       .exS fun a26 n26 c26 =>
       .isL v25 [.slice a26 n26 c26] <|
       .some a26 fun x27 =>
       .need ((0 : Int) ≤ i3 ∧ i3 < (↑n26 : Int)) <|
       .load ((x27.add (i3.toNat * 3)).add 2) 1 fun v28 =>
       .exI fun i29 =>
       .isL v28 [.int .u64 i29] <|
       bif (decide (i24 ≥ i29)) then
        (.again 1 [.int .i64 (IntKind.i64.wrap (i14 + 1)), .int .i64 (IntKind.i64.wrap (i15 + 1))])
       else
       (.again 1 [.int .i64 i14, .int .i64 (IntKind.i64.wrap (i15 + 1))]))
      else
      (.again 1 [.int .i64 i14, .int .i64 (IntKind.i64.wrap (i15 + 1))]))
     else
     (.call 79 ([.pointer (some ⟨s, 0, none⟩), .int .i64 i14]) fun v30 =>
     .exB fun b31 =>
     .isL [v30] [.bool b31] <|
     bif b31 then
      (.draw <|
      .load ⟨s, 19, none⟩ 1 fun v32 =>
      .exS fun a33 n33 c33 =>
      .isL v32 [.slice a33 n33 c33] <|
      .load ⟨s, 16, none⟩ 1 fun v34 =>
      .exS fun a35 n35 c35 =>
      .isL v34 [.slice a35 n35 c35] <|
      .some a35 fun x36 =>
      .need ((0 : Int) ≤ i3 ∧ i3 < (↑n35 : Int)) <|
      .load (x36.add (i3.toNat * 3)) 3 fun v37 =>
      .exI fun i38 =>
      .exI fun i39 =>
      .exI fun i40 =>
      .isL v37 [.int .u64 i38, .int .u64 i39, .int .u64 i40] <|
      .new 62 [.int .u64 i38, .int .u64 i39, .int .u64 i40] fun p41 =>
      .append 62 3 24 [.int .u64 0, .int .u64 0, .int .u64 0] a33 n33 c33 (some ⟨p41, 0, none⟩) 1 fun a42 n42 c42 =>
      .store ⟨s, 19, none⟩ [.slice a42 n42 c42] <|
      .again 0 [.slice a2 n2 c2, .int .i64 (IntKind.i64.wrap (i3 + 1))])
     else
     (.load ⟨s, 16, none⟩ 1 fun v43 =>
     .exS fun a44 n44 c44 =>
     .isL v43 [.slice a44 n44 c44] <|
     .some a44 fun x45 =>
     .need ((0 : Int) ≤ i3 ∧ i3 < (↑n44 : Int)) <|
     .load (x45.add (i3.toNat * 3)) 3 fun v46 =>
     .exI fun i47 =>
     .exI fun i48 =>
     .exI fun i49 =>
     .isL v46 [.int .u64 i47, .int .u64 i48, .int .u64 i49] <|
     .new 62 [.int .u64 i47, .int .u64 i48, .int .u64 i49] fun p50 =>
     .append 62 3 24 [.int .u64 0, .int .u64 0, .int .u64 0] a2 n2 c2 (some ⟨p50, 0, none⟩) 1 fun a51 n51 c51 =>
     .again 0 [.slice a51 n51 c51, .int .i64 (IntKind.i64.wrap (i3 + 1))]))))
   else
   (.loop 1 [.int .i64 0, .int .i64 1] (fun v52 =>
    .exI fun i53 =>
    .exI fun i54 =>
    .isL v52 [.int .i64 i53, .int .i64 i54] <|
    .load ⟨s, 3, none⟩ 1 fun v55 =>
    .exI fun i56 =>
    .isL v55 [.int .i64 i56] <|
    bif (decide (i54 ≤ i56)) then
     (.draw <|
     .load ⟨s, 2, none⟩ 1 fun v57 =>
     .exI fun i58 =>
     .isL v57 [.int .i64 i58] <|
     bif (i54 != i58) then
      (.load ⟨s, 14, none⟩ 1 fun v59 =>
      .exS fun a60 n60 c60 =>
      .isL v59 [.slice a60 n60 c60] <|
      .some a60 fun x61 =>
      .need ((0 : Int) ≤ IntKind.i64.wrap (i54 - 1) ∧ IntKind.i64.wrap (i54 - 1) < (↑n60 : Int)) <|
      .load (x61.add ((IntKind.i64.wrap (i54 - 1)).toNat * 1)) 1 fun v62 =>
      .exI fun i63 =>
      .isL v62 [.int .u64 i63] <|
      .load ⟨s, 16, none⟩ 1 fun v64 =>
      .exS fun a65 n65 c65 =>
      .isL v64 [.slice a65 n65 c65] <|
      .some a65 fun x66 =>
      .need ((0 : Int) ≤ i3 ∧ i3 < (↑n65 : Int)) <|
      .load ((x66.add (i3.toNat * 3)).add 2) 1 fun v67 =>
      .exI fun i68 =>
      .isL v67 [.int .u64 i68] <|
      bif (decide (i63 ≥ i68)) then
       (.again 1 [.int .i64 (IntKind.i64.wrap (i53 + 1)), .int .i64 (IntKind.i64.wrap (i54 + 1))])
      else
      (.again 1 [.int .i64 i53, .int .i64 (IntKind.i64.wrap (i54 + 1))]))
     else
     (.again 1 [.int .i64 i53, .int .i64 (IntKind.i64.wrap (i54 + 1))]))
    else
    (.call 79 ([.pointer (some ⟨s, 0, none⟩), .int .i64 i53]) fun v69 =>
    .exB fun b70 =>
    .isL [v69] [.bool b70] <|
    bif b70 then
     (.draw <|
     .load ⟨s, 19, none⟩ 1 fun v71 =>
     .exS fun a72 n72 c72 =>
     .isL v71 [.slice a72 n72 c72] <|
     .load ⟨s, 16, none⟩ 1 fun v73 =>
     .exS fun a74 n74 c74 =>
     .isL v73 [.slice a74 n74 c74] <|
     .some a74 fun x75 =>
     .need ((0 : Int) ≤ i3 ∧ i3 < (↑n74 : Int)) <|
     .load (x75.add (i3.toNat * 3)) 3 fun v76 =>
     .exI fun i77 =>
     .exI fun i78 =>
     .exI fun i79 =>
     .isL v76 [.int .u64 i77, .int .u64 i78, .int .u64 i79] <|
     .new 62 [.int .u64 i77, .int .u64 i78, .int .u64 i79] fun p80 =>
     .append 62 3 24 [.int .u64 0, .int .u64 0, .int .u64 0] a72 n72 c72 (some ⟨p80, 0, none⟩) 1 fun a81 n81 c81 =>
     .store ⟨s, 19, none⟩ [.slice a81 n81 c81] <|
     .again 0 [.slice a2 n2 c2, .int .i64 (IntKind.i64.wrap (i3 + 1))])
    else
    (.load ⟨s, 16, none⟩ 1 fun v82 =>
    .exS fun a83 n83 c83 =>
    .isL v82 [.slice a83 n83 c83] <|
    .some a83 fun x84 =>
    .need ((0 : Int) ≤ i3 ∧ i3 < (↑n83 : Int)) <|
    .load (x84.add (i3.toNat * 3)) 3 fun v85 =>
    .exI fun i86 =>
    .exI fun i87 =>
    .exI fun i88 =>
    .isL v85 [.int .u64 i86, .int .u64 i87, .int .u64 i88] <|
    .new 62 [.int .u64 i86, .int .u64 i87, .int .u64 i88] fun p89 =>
    .append 62 3 24 [.int .u64 0, .int .u64 0, .int .u64 0] a2 n2 c2 (some ⟨p89, 0, none⟩) 1 fun a90 n90 c90 =>
    .again 0 [.slice a90 n90 c90, .int .i64 (IntKind.i64.wrap (i3 + 1))])))))
  else
  (.store ⟨s, 16, none⟩ [.slice a2 n2 c2] <|
  .ret (.tuple #[])))
theorem e105 (s : Nat) : genFn Try.prog lv105 noM Try.f105 [.pointer (some ⟨s, 0, none⟩)] = t105 s := by kernel_rfl
theorem r105 (s : Nat) {R : Value → World → Prop} {w : World} (h : (t105 s).wp Try.prog R (fun _ _ _ => False) w) : Runs Try.prog 105 [.pointer (some ⟨s, 0, none⟩)] w R :=
 genFn_runs mixed lv105 noM Try.func105 (by kernel_rfl) (by rw [e105]; exact h)
end Go.Proofs.Ytnbfffmdplcajaa
