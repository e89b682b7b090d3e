/- The trees of verification conditions of functions 40, 82, 83: printed by a program of mine, checked here. -/
import Derived.Test.YtnbfffmdplcajaaTree0
set_option linter.unusedVariables false
set_option maxRecDepth 100000
namespace Go.Proofs.Ytnbfffmdplcajaa
open Go.Vc
def t40 (a0a : Option Addr) (a0n : Nat) (a0c : Nat) (a1a : Option Addr) (a1n : Nat) (a1c : Nat) (a2a : Option Addr) (a2n : Nat) (a2c : Nat) (b0a : Option Addr) (b0n : Nat) (b0c : Nat) (b1a : Option Addr) (b1n : Nat) (b1c : Nat) (b2a : Option Addr) (b2n : Nat) (b2c : Nat) : VC :=
 .new 48 [.slice a0a a0n a0c, .slice a1a a1n a1c, .slice a2a a2n a2c] fun p1 =>
 .new 48 [.slice b0a b0n b0c, .slice b1a b1n b1c, .slice b2a b2n b2c] fun p2 =>
 .load ⟨p1, 0, none⟩ 1 fun v3 =>
 .exS fun a4 n4 c4 =>
 .isL v3 [.slice a4 n4 c4] <|
 .load ⟨p2, 0, none⟩ 1 fun v5 =>
 .exS fun a6 n6 c6 =>
 .isL v5 [.slice a6 n6 c6] <|
 .call 82 ([.slice a4 n4 c4, .slice a6 n6 c6]) fun v7 =>
 .exB fun b8 =>
 .isL [v7] [.bool b8] <|
 bif b8 then
  (.load ⟨p1, 1, none⟩ 1 fun v9 =>
  .exS fun a10 n10 c10 =>
  .isL v9 [.slice a10 n10 c10] <|
  .load ⟨p2, 1, none⟩ 1 fun v11 =>
  .exS fun a12 n12 c12 =>
  .isL v11 [.slice a12 n12 c12] <|
  .call 83 ([.slice a10 n10 c10, .slice a12 n12 c12]) fun v13 =>
  .exB fun b14 =>
  .isL [v13] [.bool b14] <|
  bif b14 then
   (.load ⟨p1, 2, none⟩ 1 fun v15 =>
   .exS fun a16 n16 c16 =>
   .isL v15 [.slice a16 n16 c16] <|
   .load ⟨p2, 2, none⟩ 1 fun v17 =>
   .exS fun a18 n18 c18 =>
   .isL v17 [.slice a18 n18 c18] <|
   .call 52 ([.slice a16 n16 c16, .slice a18 n18 c18]) fun v19 =>
   .exB fun b20 =>
   .isL [v19] [.bool b20] <|
   .ret (.bool b20))
  else
  (.ret (.bool false)))
 else
 (.ret (.bool false))
theorem e40 (a0a : Option Addr) (a0n : Nat) (a0c : Nat) (a1a : Option Addr) (a1n : Nat) (a1c : Nat) (a2a : Option Addr) (a2n : Nat) (a2c : Nat) (b0a : Option Addr) (b0n : Nat) (b0c : Nat) (b1a : Option Addr) (b1n : Nat) (b1c : Nat) (b2a : Option Addr) (b2n : Nat) (b2c : Nat) : genFn Try.prog noM noM Try.f40 [.agg #[.slice a0a a0n a0c, .slice a1a a1n a1c, .slice a2a a2n a2c], .agg #[.slice b0a b0n b0c, .slice b1a b1n b1c, .slice b2a b2n b2c]] = t40 a0a a0n a0c a1a a1n a1c a2a a2n a2c b0a b0n b0c b1a b1n b1c b2a b2n b2c := by kernel_rfl
theorem r40 (a0a : Option Addr) (a0n : Nat) (a0c : Nat) (a1a : Option Addr) (a1n : Nat) (a1c : Nat) (a2a : Option Addr) (a2n : Nat) (a2c : Nat) (b0a : Option Addr) (b0n : Nat) (b0c : Nat) (b1a : Option Addr) (b1n : Nat) (b1c : Nat) (b2a : Option Addr) (b2n : Nat) (b2c : Nat) {R : Value → World → Prop} {w : World} (h : (t40 a0a a0n a0c a1a a1n a1c a2a a2n a2c b0a b0n b0c b1a b1n b1c b2a b2n b2c).wp Try.prog R (fun _ _ _ => False) w) : Runs Try.prog 40 [.agg #[.slice a0a a0n a0c, .slice a1a a1n a1c, .slice a2a a2n a2c], .agg #[.slice b0a b0n b0c, .slice b1a b1n b1c, .slice b2a b2n b2c]] w R :=
 genFn_runs mixed noM noM Try.func40 (by kernel_rfl) (by rw [e40]; exact h)
def lv82 : Marks := (fun | some 4 => some [(5, .int .i64 0)] | _ => none)
def t82 (aa : Option Addr) (an : Nat) (ac : Nat) (ba : Option Addr) (bn : Nat) (bc : Nat) : VC :=
 bif ((↑an : Int) != (↑bn : Int)) then
  (.ret (.bool false))
 else
 (.loop 0 [.int .i64 0] (fun v1 =>
  .exI fun i2 =>
  .isL v1 [.int .i64 i2] <|
  bif (decide (i2 < (↑an : Int))) then
   (.draw <|
   .some aa fun x3 =>
   .need ((0 : Int) ≤ i2 ∧ i2 < (↑an : Int)) <|
   .load (x3.add (i2.toNat * 9)) 9 fun v4 =>
   .exI fun i5 =>
   .exI fun i6 =>
   .exI fun i7 =>
   .exI fun i8 =>
   .exS fun a9 n9 c9 =>
   .exI fun i10 =>
   .exI fun i11 =>
   .exI fun i12 =>
   .exS fun a13 n13 c13 =>
   .isL v4 [.int .i64 i5, .int .u64 i6, .int .i64 i7, .int .u64 i8, .slice a9 n9 c9, .int .u64 i10, .int .u64 i11, .int .u64 i12, .slice a13 n13 c13] <|
   .some ba fun x14 =>
   .need ((0 : Int) ≤ i2 ∧ i2 < (↑bn : Int)) <|
   .load (x14.add (i2.toNat * 9)) 9 fun v15 =>
   .exI fun i16 =>
   .exI fun i17 =>
   .exI fun i18 =>
   .exI fun i19 =>
   .exS fun a20 n20 c20 =>
   .exI fun i21 =>
   .exI fun i22 =>
   .exI fun i23 =>
   .exS fun a24 n24 c24 =>
   .isL v15 [.int .i64 i16, .int .u64 i17, .int .i64 i18, .int .u64 i19, .slice a20 n20 c20, .int .u64 i21, .int .u64 i22, .int .u64 i23, .slice a24 n24 c24] <|
   .call 108 ([.agg #[.int .i64 i5, .int .u64 i6, .int .i64 i7, .int .u64 i8, .slice a9 n9 c9, .int .u64 i10, .int .u64 i11, .int .u64 i12, .slice a13 n13 c13], .agg #[.int .i64 i16, .int .u64 i17, .int .i64 i18, .int .u64 i19, .slice a20 n20 c20, .int .u64 i21, .int .u64 i22, .int .u64 i23, .slice a24 n24 c24]]) fun v25 =>
   .exB fun b26 =>
   .isL [v25] [.bool b26] <|
   bif !b26 then
    (.ret (.bool false))
   else
   (.again 0 [.int .i64 (IntKind.i64.wrap (i2 + 1))]))
  else
  (.ret (.bool true))))
theorem e82 (aa : Option Addr) (an : Nat) (ac : Nat) (ba : Option Addr) (bn : Nat) (bc : Nat) : genFn Try.prog lv82 noM Try.f82 [.slice aa an ac, .slice ba bn bc] = t82 aa an ac ba bn bc := by kernel_rfl
theorem r82 (aa : Option Addr) (an : Nat) (ac : Nat) (ba : Option Addr) (bn : Nat) (bc : Nat) {R : Value → World → Prop} {w : World} (h : (t82 aa an ac ba bn bc).wp Try.prog R (fun _ _ _ => False) w) : Runs Try.prog 82 [.slice aa an ac, .slice ba bn bc] w R :=
 genFn_runs mixed lv82 noM Try.func82 (by kernel_rfl) (by rw [e82]; exact h)
def lv83 : Marks := (fun | some 4 => some [(5, .int .i64 0)] | _ => none)
def t83 (aa : Option Addr) (an : Nat) (ac : Nat) (ba : Option Addr) (bn : Nat) (bc : Nat) : VC :=
 bif ((↑an : Int) != (↑bn : Int)) then
  (.ret (.bool false))
 else
 (.loop 0 [.int .i64 0] (fun v1 =>
  .exI fun i2 =>
  .isL v1 [.int .i64 i2] <|
  bif (decide (i2 < (↑an : Int))) then
   (.draw <|
   .some aa fun x3 =>
   .need ((0 : Int) ≤ i2 ∧ i2 < (↑an : Int)) <|
   .load (x3.add (i2.toNat * 21)) 21 fun v4 =>
   .exI fun i5 =>
   .exI fun i6 =>
   .exI fun i7 =>
   .exI fun i8 =>
   .exI fun i9 =>
   .exI fun i10 =>
   .exS fun a11 n11 c11 =>
   .exI fun i12 =>
   .exI fun i13 =>
   .exB fun b14 =>
   .exI fun i15 =>
   .exI fun i16 =>
   .exS fun a17 n17 c17 =>
   .exI fun i18 =>
   .exI fun i19 =>
   .exI fun i20 =>
   .exT fun s21 =>
   .exT fun s22 =>
   .exI fun i23 =>
   .exI fun i24 =>
   .exT fun s25 =>
   .isL v4 [.int .i64 i5, .int .i64 i6, .int .i64 i7, .int .u64 i8, .int .u64 i9, .int .u64 i10, .slice a11 n11 c11, .int .u64 i12, .int .u64 i13, .bool b14, .int .u64 i15, .int .u64 i16, .slice a17 n17 c17, .int .i64 i18, .int .i64 i19, .int .u64 i20, .string s21, .string s22, .int .u64 i23, .int .i64 i24, .string s25] <|
   .some ba fun x26 =>
   .need ((0 : Int) ≤ i2 ∧ i2 < (↑bn : Int)) <|
   .load (x26.add (i2.toNat * 21)) 21 fun v27 =>
   .exI fun i28 =>
   .exI fun i29 =>
   .exI fun i30 =>
   .exI fun i31 =>
   .exI fun i32 =>
   .exI fun i33 =>
   .exS fun a34 n34 c34 =>
   .exI fun i35 =>
   .exI fun i36 =>
   .exB fun b37 =>
   .exI fun i38 =>
   .exI fun i39 =>
   .exS fun a40 n40 c40 =>
   .exI fun i41 =>
   .exI fun i42 =>
   .exI fun i43 =>
   .exT fun s44 =>
   .exT fun s45 =>
   .exI fun i46 =>
   .exI fun i47 =>
   .exT fun s48 =>
   .isL v27 [.int .i64 i28, .int .i64 i29, .int .i64 i30, .int .u64 i31, .int .u64 i32, .int .u64 i33, .slice a34 n34 c34, .int .u64 i35, .int .u64 i36, .bool b37, .int .u64 i38, .int .u64 i39, .slice a40 n40 c40, .int .i64 i41, .int .i64 i42, .int .u64 i43, .string s44, .string s45, .int .u64 i46, .int .i64 i47, .string s48] <|
   .call 109 ([.agg #[.int .i64 i5, .int .i64 i6, .int .i64 i7, .int .u64 i8, .int .u64 i9, .int .u64 i10, .slice a11 n11 c11, .int .u64 i12, .int .u64 i13, .bool b14, .int .u64 i15, .int .u64 i16, .slice a17 n17 c17, .int .i64 i18, .int .i64 i19, .int .u64 i20, .string s21, .string s22, .int .u64 i23, .int .i64 i24, .string s25], .agg #[.int .i64 i28, .int .i64 i29, .int .i64 i30, .int .u64 i31, .int .u64 i32, .int .u64 i33, .slice a34 n34 c34, .int .u64 i35, .int .u64 i36, .bool b37, .int .u64 i38, .int .u64 i39, .slice a40 n40 c40, .int .i64 i41, .int .i64 i42, .int .u64 i43, .string s44, .string s45, .int .u64 i46, .int .i64 i47, .string s48]]) fun v49 =>
   .exB fun b50 =>
   .isL [v49] [.bool b50] <|
   bif !b50 then
    (.ret (.bool false))
   else
   (.again 0 [.int .i64 (IntKind.i64.wrap (i2 + 1))]))
  else
  (.ret (.bool true))))
theorem e83 (aa : Option Addr) (an : Nat) (ac : Nat) (ba : Option Addr) (bn : Nat) (bc : Nat) : genFn Try.prog lv83 noM Try.f83 [.slice aa an ac, .slice ba bn bc] = t83 aa an ac ba bn bc := by kernel_rfl
theorem r83 (aa : Option Addr) (an : Nat) (ac : Nat) (ba : Option Addr) (bn : Nat) (bc : Nat) {R : Value → World → Prop} {w : World} (h : (t83 aa an ac ba bn bc).wp Try.prog R (fun _ _ _ => False) w) : Runs Try.prog 83 [.slice aa an ac, .slice ba bn bc] w R :=
 genFn_runs mixed lv83 noM Try.func83 (by kernel_rfl) (by rw [e83]; exact h)
end Go.Proofs.Ytnbfffmdplcajaa
