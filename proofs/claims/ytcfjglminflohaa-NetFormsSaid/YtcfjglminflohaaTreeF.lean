/- The tree of verification conditions of function 4: printed by a program of mine, checked here. -/
import Derived.Test.YtcfjglminflohaaTree0
set_option linter.unusedVariables false
set_option maxRecDepth 100000
namespace Go.Proofs.Ytcfjglminflohaa
open Go.Vc
def lv4 : Marks := (fun | some 6 => some [(3, .int .i64 0)] | _ => none)
def t4 : VC :=
 .call 5 ([]) fun v1 =>
 .exB fun b2 =>
 .isL [v1] [.bool b2] <|
 bif !b2 then
  (.ret (.bool false))
 else
 (.call 6 ([]) fun v3 =>
 .exN fun p4 =>
 .isL [v3] [.pointer (some ⟨p4, 0, none⟩)] <|
 .need ((399 : Int) = 399) <|
 .make 38 224 [.int .i64 0, .int .i64 0, .int .i64 0, .int .u64 0, .int .u64 0, .int .u64 0, .slice none 0 0, .int .u64 0, .int .u64 0, .bool false, .int .u64 0, .int .u64 0, .slice none 0 0, .int .i64 0, .int .i64 0, .int .u64 0, .string ({ data := #[] }), .string ({ data := #[] }), .int .u64 0, .int .i64 0, .string ({ data := #[] })] 399 fun p5 =>
 .loop 0 [.int .i64 0] (fun v6 =>
  .exI fun i7 =>
  .isL v6 [.int .i64 i7] <|
  bif (decide (i7 < (↑(Int.toNat 399) : Int))) then
   (.some (some ⟨p5, 0, none⟩) fun x8 =>
   .need ((0 : Int) ≤ i7 ∧ i7 < (↑(Int.toNat 399) : Int)) <|
   .store (x8.add (i7.toNat * 21)) [.int .i64 1, .int .i64 0, .int .i64 0, .int .u64 0, .int .u64 (IntKind.u64.wrap i7), .int .u64 0, .slice none 0 0, .int .u64 0, .int .u64 0, .bool false, .int .u64 0, .int .u64 0, .slice none 0 0, .int .i64 0, .int .i64 0, .int .u64 0, .string ({ data := #[] }), .string ({ data := #[] }), .int .u64 0, .int .i64 0, .string ({ data := #[] })] <|
   .again 0 [.int .i64 (IntKind.i64.wrap (i7 + 1))])
  else
  (.call 7 ([.pointer (some ⟨p4, 0, none⟩), .slice (some ⟨p5, 0, none⟩) 399 399]) fun v9 =>
  .exI fun i10 =>
  .isL [v9] [.int .i64 i10] <|
  .new 38 [.int .i64 2, .int .i64 0, .int .i64 0, .int .u64 0, .int .u64 0, .int .u64 0, .slice none 0 0, .int .u64 0, .int .u64 0, .bool false, .int .u64 0, .int .u64 0, .slice none 0 0, .int .i64 0, .int .i64 0, .int .u64 0, .string ({ data := #[] }), .string ({ data := #[] }), .int .u64 0, .int .i64 0, .string ({ data := #[] }), .int .i64 3, .int .i64 0, .int .i64 0, .int .u64 0, .int .u64 0, .int .u64 0, .slice none 0 0, .int .u64 0, .int .u64 0, .bool false, .int .u64 0, .int .u64 0, .slice none 0 0, .int .i64 0, .int .i64 0, .int .u64 0, .string ({ data := #[] }), .string ({ data := #[] }), .int .u64 0, .int .i64 0, .string ({ data := #[] }), .int .i64 4, .int .i64 0, .int .i64 0, .int .u64 0, .int .u64 0, .int .u64 0, .slice none 0 0, .int .u64 0, .int .u64 0, .bool false, .int .u64 0, .int .u64 0, .slice none 0 0, .int .i64 0, .int .i64 0, .int .u64 0, .string ({ data := #[] }), .string ({ data := #[] }), .int .u64 0, .int .i64 0, .string ({ data := #[] })] fun p11 =>
  .call 7 ([.pointer (some ⟨p4, 0, none⟩), .slice (some ⟨p11, 0, none⟩) 3 3]) fun v12 =>
  .exI fun i13 =>
  .isL [v12] [.int .i64 i13] <|
  .call 11 ([.pointer (some ⟨p4, 0, none⟩), .int .i64 399]) fun v14 =>
  .exI fun i15 =>
  .exI fun i16 =>
  .exI fun i17 =>
  .exI fun i18 =>
  .exI fun i19 =>
  .exI fun i20 =>
  .exS fun a21 n21 c21 =>
  .exI fun i22 =>
  .exI fun i23 =>
  .exB fun b24 =>
  .exI fun i25 =>
  .exI fun i26 =>
  .exS fun a27 n27 c27 =>
  .exI fun i28 =>
  .exI fun i29 =>
  .exI fun i30 =>
  .exT fun s31 =>
  .exT fun s32 =>
  .exI fun i33 =>
  .exI fun i34 =>
  .exT fun s35 =>
  .exI fun i36 =>
  .isL [v14] [.tuple #[.agg #[.int .i64 i15, .int .i64 i16, .int .i64 i17, .int .u64 i18, .int .u64 i19, .int .u64 i20, .slice a21 n21 c21, .int .u64 i22, .int .u64 i23, .bool b24, .int .u64 i25, .int .u64 i26, .slice a27 n27 c27, .int .i64 i28, .int .i64 i29, .int .u64 i30, .string s31, .string s32, .int .u64 i33, .int .i64 i34, .string s35], .int .i64 i36]] <|
  .new 38 [.int .i64 0, .int .i64 0, .int .i64 0, .int .u64 0, .int .u64 0, .int .u64 0, .slice none 0 0, .int .u64 0, .int .u64 0, .bool false, .int .u64 0, .int .u64 0, .slice none 0 0, .int .i64 0, .int .i64 0, .int .u64 0, .string ({ data := #[] }), .string ({ data := #[] }), .int .u64 0, .int .i64 0, .string ({ data := #[] })] fun p37 =>
  .store ⟨p37, 0, none⟩ [.int .i64 i15, .int .i64 i16, .int .i64 i17, .int .u64 i18, .int .u64 i19, .int .u64 i20, .slice a21 n21 c21, .int .u64 i22, .int .u64 i23, .bool b24, .int .u64 i25, .int .u64 i26, .slice a27 n27 c27, .int .i64 i28, .int .i64 i29, .int .u64 i30, .string s31, .string s32, .int .u64 i33, .int .i64 i34, .string s35] <|
  .call 12 ([.pointer (some ⟨p4, 0, none⟩), .int .i64 0]) fun v38 =>
  .exI fun i39 =>
  .isL [v38] [.int .i64 i39] <|
  .call 13 ([.pointer (some ⟨p4, 0, none⟩), .int .i64 0]) fun v40 =>
  .exI fun i41 =>
  .isL [v40] [.int .i64 i41] <|
  .call 12 ([.pointer (some ⟨p4, 0, none⟩), .int .i64 0]) fun v42 =>
  .exI fun i43 =>
  .isL [v42] [.int .i64 i43] <|
  .call 8 ([.pointer (some ⟨p4, 0, none⟩), .int .i64 399]) fun v44 =>
  .exI fun i45 =>
  .exI fun i46 =>
  .exI fun i47 =>
  .exI fun i48 =>
  .exI fun i49 =>
  .exI fun i50 =>
  .exS fun a51 n51 c51 =>
  .exI fun i52 =>
  .exI fun i53 =>
  .exB fun b54 =>
  .exI fun i55 =>
  .exI fun i56 =>
  .exS fun a57 n57 c57 =>
  .exI fun i58 =>
  .exI fun i59 =>
  .exI fun i60 =>
  .exT fun s61 =>
  .exT fun s62 =>
  .exI fun i63 =>
  .exI fun i64 =>
  .exT fun s65 =>
  .exI fun i66 =>
  .isL [v44] [.tuple #[.agg #[.int .i64 i45, .int .i64 i46, .int .i64 i47, .int .u64 i48, .int .u64 i49, .int .u64 i50, .slice a51 n51 c51, .int .u64 i52, .int .u64 i53, .bool b54, .int .u64 i55, .int .u64 i56, .slice a57 n57 c57, .int .i64 i58, .int .i64 i59, .int .u64 i60, .string s61, .string s62, .int .u64 i63, .int .i64 i64, .string s65], .int .i64 i66]] <|
  .new 38 [.int .i64 0, .int .i64 0, .int .i64 0, .int .u64 0, .int .u64 0, .int .u64 0, .slice none 0 0, .int .u64 0, .int .u64 0, .bool false, .int .u64 0, .int .u64 0, .slice none 0 0, .int .i64 0, .int .i64 0, .int .u64 0, .string ({ data := #[] }), .string ({ data := #[] }), .int .u64 0, .int .i64 0, .string ({ data := #[] })] fun p67 =>
  .store ⟨p67, 0, none⟩ [.int .i64 i45, .int .i64 i46, .int .i64 i47, .int .u64 i48, .int .u64 i49, .int .u64 i50, .slice a51 n51 c51, .int .u64 i52, .int .u64 i53, .bool b54, .int .u64 i55, .int .u64 i56, .slice a57 n57 c57, .int .i64 i58, .int .i64 i59, .int .u64 i60, .string s61, .string s62, .int .u64 i63, .int .i64 i64, .string s65] <|
  bif (i10 == 399) then
   (bif (i13 == 1) then
    (bif (i36 == 0) then
     (.load ⟨p37, 0, none⟩ 1 fun v68 =>
     .exI fun i69 =>
     .isL v68 [.int .i64 i69] <|
     bif (i69 == 2) then
      (bif (i39 == 12) then
       (bif (i41 == 0) then
        (bif (i43 == 0) then
         (bif (i66 == 0) then
          (.load ⟨p67, 4, none⟩ 1 fun v70 =>
          .exI fun i71 =>
          .isL v70 [.int .u64 i71] <|
          bif (i71 == 1) then
           (.call 10 ([.pointer (some ⟨p4, 0, none⟩)]) fun v72 =>
           .exI fun i73 =>
           .isL [v72] [.int .i64 i73] <|
           .ret (.bool (i73 == 399)))
          else
          (.ret (.bool false)))
         else
         (.ret (.bool false)))
        else
        (.ret (.bool false)))
       else
       (.ret (.bool false)))
      else
      (.ret (.bool false)))
     else
     (.ret (.bool false)))
    else
    (.ret (.bool false)))
   else
   (.ret (.bool false)))
  else
  (.ret (.bool false)))))
theorem e4 : genFn Try.prog lv4 noM Try.f4 [] = t4 := by kernel_rfl
theorem r4 {R : Value → World → Prop} {w : World} (h : (t4).wp Try.prog R (fun _ _ _ => False) w) : Runs Try.prog 4 [] w R :=
 genFn_runs mixed lv4 noM Try.func4 (by kernel_rfl) (by rw [e4]; exact h)
end Go.Proofs.Ytcfjglminflohaa
