/- The trees of verification conditions of functions 48, 49: printed by a program of mine, checked here. -/
import Derived.Test.YtnbfffmdplcajaaTree0
set_option linter.unusedVariables false
set_option maxRecDepth 100000
namespace Go.Proofs.Ytnbfffmdplcajaa
open Go.Vc
def lv48 : Marks := (fun | some 4 => some [(5, .int .i64 0)] | _ => none)
def t48 (aa : Option Addr) (an : Nat) (ac : Nat) (ba : Option Addr) (bn : Nat) (bc : Nat) : VC :=
 bif ((↑an : Int) != (↑bn : Int)) then
  (.ret (.bool false))
 else
 (.loop 0 [.int .i64 0] (fun v1 =>
  .exI fun i2 =>
  .isL v1 [.int .i64 i2] <|
  bif (decide (i2 < (↑an : Int))) then
   (.draw <|
   .some aa fun x3 =>
   .need ((0 : Int) ≤ i2 ∧ i2 < (↑an : Int)) <|
   .load (x3.add (i2.toNat * 2)) 1 fun v4 =>
   .exI fun i5 =>
   .isL v4 [.int .u64 i5] <|
   .some ba fun x6 =>
   .need ((0 : Int) ≤ i2 ∧ i2 < (↑bn : Int)) <|
   .load (x6.add (i2.toNat * 2)) 1 fun v7 =>
   .exI fun i8 =>
   .isL v7 [.int .u64 i8] <|
   bif (i5 != i8) then
    (.ret (.bool false))
   else
   (.some aa fun x9 =>
   .need ((0 : Int) ≤ i2 ∧ i2 < (↑an : Int)) <|
   .load ((x9.add (i2.toNat * 2)).add 1) 1 fun v10 =>
   .exS fun a11 n11 c11 =>
   .isL v10 [.slice a11 n11 c11] <|
   .bytes a11 n11 fun s12 =>
   .some ba fun x13 =>
   .need ((0 : Int) ≤ i2 ∧ i2 < (↑bn : Int)) <|
   .load ((x13.add (i2.toNat * 2)).add 1) 1 fun v14 =>
   .exS fun a15 n15 c15 =>
   .isL v14 [.slice a15 n15 c15] <|
   .bytes a15 n15 fun s16 =>
   bif (!s12.toList == s16.toList) then
    (.ret (.bool false))
   else
   (.again 0 [.int .i64 (IntKind.i64.wrap (i2 + 1))])))
  else
  (.ret (.bool true))))
theorem e48 (aa : Option Addr) (an : Nat) (ac : Nat) (ba : Option Addr) (bn : Nat) (bc : Nat) : genFn Try.prog lv48 noM Try.f48 [.slice aa an ac, .slice ba bn bc] = t48 aa an ac ba bn bc := by kernel_rfl
theorem r48 (aa : Option Addr) (an : Nat) (ac : Nat) (ba : Option Addr) (bn : Nat) (bc : Nat) {R : Value → World → Prop} {w : World} (h : (t48 aa an ac ba bn bc).wp Try.prog R (fun _ _ _ => False) w) : Runs Try.prog 48 [.slice aa an ac, .slice ba bn bc] w R :=
 genFn_runs mixed lv48 noM Try.func48 (by kernel_rfl) (by rw [e48]; exact h)
def t49 (a0 : Int) (a1 : Int) (a2a : Option Addr) (a2n : Nat) (a2c : Nat) (b0 : Int) (b1 : Int) (b2a : Option Addr) (b2n : Nat) (b2c : Nat) : VC :=
 .new 27 [.int .u64 a0, .int .u64 a1, .slice a2a a2n a2c] fun p1 =>
 .new 27 [.int .u64 b0, .int .u64 b1, .slice b2a b2n b2c] fun p2 =>
 .load ⟨p1, 0, none⟩ 1 fun v3 =>
 .exI fun i4 =>
 .isL v3 [.int .u64 i4] <|
 .load ⟨p2, 0, none⟩ 1 fun v5 =>
 .exI fun i6 =>
 .isL v5 [.int .u64 i6] <|
 bif (i4 == i6) then
  (.load ⟨p1, 1, none⟩ 1 fun v7 =>
  .exI fun i8 =>
  .isL v7 [.int .u64 i8] <|
  .load ⟨p2, 1, none⟩ 1 fun v9 =>
  .exI fun i10 =>
  .isL v9 [.int .u64 i10] <|
  bif (i8 == i10) then
   (.load ⟨p1, 2, none⟩ 1 fun v11 =>
   .exS fun a12 n12 c12 =>
   .isL v11 [.slice a12 n12 c12] <|
   .bytes a12 n12 fun s13 =>
   .load ⟨p2, 2, none⟩ 1 fun v14 =>
   .exS fun a15 n15 c15 =>
   .isL v14 [.slice a15 n15 c15] <|
   .bytes a15 n15 fun s16 =>
   .ret (.bool (s13.toList == s16.toList)))
  else
  (.ret (.bool false)))
 else
 (.ret (.bool false))
theorem e49 (a0 : Int) (a1 : Int) (a2a : Option Addr) (a2n : Nat) (a2c : Nat) (b0 : Int) (b1 : Int) (b2a : Option Addr) (b2n : Nat) (b2c : Nat) : genFn Try.prog noM noM Try.f49 [.agg #[.int .u64 a0, .int .u64 a1, .slice a2a a2n a2c], .agg #[.int .u64 b0, .int .u64 b1, .slice b2a b2n b2c]] = t49 a0 a1 a2a a2n a2c b0 b1 b2a b2n b2c := by kernel_rfl
theorem r49 (a0 : Int) (a1 : Int) (a2a : Option Addr) (a2n : Nat) (a2c : Nat) (b0 : Int) (b1 : Int) (b2a : Option Addr) (b2n : Nat) (b2c : Nat) {R : Value → World → Prop} {w : World} (h : (t49 a0 a1 a2a a2n a2c b0 b1 b2a b2n b2c).wp Try.prog R (fun _ _ _ => False) w) : Runs Try.prog 49 [.agg #[.int .u64 a0, .int .u64 a1, .slice a2a a2n a2c], .agg #[.int .u64 b0, .int .u64 b1, .slice b2a b2n b2c]] w R :=
 genFn_runs mixed noM noM Try.func49 (by kernel_rfl) (by rw [e49]; exact h)
end Go.Proofs.Ytnbfffmdplcajaa
