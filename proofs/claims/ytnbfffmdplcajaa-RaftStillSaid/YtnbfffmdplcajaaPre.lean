/- The laws' common beginning: something is begun, the raft may be, the letter is light. -/
import Derived.Test.YtnbfffmdplcajaaLawKit
import Derived.Test.YtnbfffmdplcajaaTreeA
namespace Go.Proofs.Ytnbfffmdplcajaa
open Go.Vc Go.Vc.Rf

section
variable {w0 w : World} {H M U : Mp} {env : Nat → List Value → World → Prop}

theorem wp_some0 {P : Program} {R : Value → World → Prop} {x : Addr} {k : Addr → VC} (h : (k x).wp P R env w) : (VC.some (some x) k).wp P R env w := ⟨x, rfl, h⟩
theorem wp_need {P : Program} {R : Value → World → Prop} {p : Prop} {k : VC} (hp : p) (h : k.wp P R env w) : (VC.need p k).wp P R env w := ⟨hp, h⟩

theorem light21_runs {m : Msg} {cs : List Value} (hp : Hp w0 w H M) (hm : Ms H cs m) (mo : m.Ok) : Runs Try.prog 68 [.agg cs.toArray] w fun v w' => ∃ b, v = .bool b ∧ (b = true → m.entries.length ≤ 20) ∧ Hp w0 w' H M := by
  obtain ⟨a1, n1, c1, a2, n2, c2, rfl, he, hs⟩ := hm
  have hn := he.1
  have hsz := mo.size
  apply r68
  refine wp_newH hp fun p1 w1 H1 hp1 hle1 f1 => ?_
  have no : ∀ {w' : World}, Hp w0 w' H1 M → ∃ b, Value.bool false = .bool b ∧ (b = true → m.entries.length ≤ 20) ∧ Hp w0 w' H M := fun h => ⟨false, rfl, fun h => (by cases h), h.lessH hle1⟩
  (refine wp_load (hp1.loadH f1 (by simp)) ?_; (repeat apply Exists.intro); refine ⟨rfl, ?_⟩)
  refine wp_bif (fun _ => no hp1) fun _ => ?_
  (refine wp_load (hp1.loadH f1 (by simp)) ?_; (repeat apply Exists.intro); refine ⟨rfl, ?_⟩)
  refine wp_bif (fun _ => no hp1) fun _ => ?_
  (refine wp_load (hp1.loadH f1 (by simp)) ?_; (repeat apply Exists.intro); refine ⟨rfl, ?_⟩)
  refine wp_bif (fun _ => no hp1) fun h3 => ?_
  have g3 : m.entries.length ≤ 20 := by
    have : ¬ (n1 : Int) > 20 := of_decide_eq_false h3
    omega
  (refine wp_load (hp1.loadH f1 (by simp)) ?_; (repeat apply Exists.intro); refine ⟨rfl, ?_⟩)
  refine wp_bif (fun _ => no hp1) fun _ => ?_
  (refine wp_load (hp1.loadH f1 (by simp)) ?_; (repeat apply Exists.intro); refine ⟨rfl, ?_⟩)
  refine wp_bif (fun _ => no hp1) fun _ => ?_
  (refine wp_load (hp1.loadH f1 (by simp)) ?_; (repeat apply Exists.intro); refine ⟨rfl, ?_⟩)
  refine wp_bif (fun _ => no hp1) fun _ => ?_
  (refine wp_load (hp1.loadH f1 (by simp)) ?_; (repeat apply Exists.intro); refine ⟨rfl, ?_⟩)
  refine wp_bif (fun _ => no hp1) fun _ => ?_
  (refine wp_load (hp1.loadH f1 (by simp)) ?_; (repeat apply Exists.intro); refine ⟨rfl, ?_⟩)
  refine wp_bif (fun _ => no hp1) fun _ => ?_
  (refine wp_load (hp1.loadH f1 (by simp)) ?_; (repeat apply Exists.intro); refine ⟨rfl, ?_⟩)
  refine wp_bif (fun _ => no hp1) fun _ => ?_
  (refine wp_load (hp1.loadH f1 (by simp)) ?_; (repeat apply Exists.intro); refine ⟨rfl, ?_⟩)
  refine wp_bif (fun _ => no hp1) fun _ => ?_
  (refine wp_load (hp1.loadH f1 (by simp)) ?_; (repeat apply Exists.intro); refine ⟨rfl, ?_⟩)
  refine wp_bif (fun _ => no hp1) fun _ => ?_
  (refine wp_load (hp1.loadH f1 (by simp)) ?_; (repeat apply Exists.intro); refine ⟨rfl, ?_⟩)
  refine wp_bif (fun _ => no hp1) fun _ => ?_
  (refine wp_load (hp1.loadH f1 (by simp)) ?_; (repeat apply Exists.intro); refine ⟨rfl, ?_⟩)
  refine wp_bif (fun _ => no hp1) fun _ => ?_
  refine ⟨fun vs w' => ∃ j : Nat, vs = [.int .i64 j] ∧ j ≤ m.entries.length ∧ Hp w0 w' H1 M, fun vs _ => match vs with | [.int _ q] => 30 - q.toNat | _ => 0, ⟨0, rfl, Nat.zero_le _, hp1⟩, ?_⟩
  rintro vs w2 ⟨j, rfl, hj, hp2⟩
  ((repeat apply Exists.intro); refine ⟨rfl, ?_⟩)
  (refine wp_load (hp2.loadH f1 (by simp)) ?_; (repeat apply Exists.intro); refine ⟨rfl, ?_⟩)
  refine wp_bif (fun h => ?_) fun _ => ?_
  · have hjl : j < m.entries.length := by simp at h; omega
    (refine wp_load (hp2.loadH f1 (by simp)) ?_; (repeat apply Exists.intro); refine ⟨rfl, ?_⟩)
    obtain ⟨b, o, cs, ha, hcs, hat⟩ := Sl.elem En.len (he.mono hle1 (En.mono hle1)) hp2 (List.getElem?_eq_getElem hjl) (by omega)
    obtain ⟨ea, en, ec, rfl, _⟩ := hcs
    have h1 := hat _ _ hp2 1 1 (by omega)
    refine ⟨_, ha, ⟨by omega, by omega⟩, ?_⟩
    simp only [add_mk, Int.toNat_natCast]
    (refine wp_load (h1) ?_; (repeat apply Exists.intro); refine ⟨rfl, ?_⟩)
    refine wp_bif (fun _ => no hp2) fun _ => ?_
    have ewrap : IntKind.i64.wrap ((j : Int) + 1) = ((j + 1 : Nat) : Int) := by rw [wrap_i64 (by omega) (by omega)]; rfl
    refine ⟨⟨j + 1, by rw [ewrap], hjl, hp2⟩, ?_⟩
    show 30 - (IntKind.i64.wrap ((j : Int) + 1)).toNat < 30 - (j : Int).toNat
    rw [ewrap]; omega
  · (refine wp_load (hp2.loadH f1 (by simp)) ?_; (repeat apply Exists.intro); refine ⟨rfl, ?_⟩)
    refine wp_bif (fun _ => ?_) fun _ => no hp2
    (refine wp_load (hp2.loadH f1 (by simp)) ?_; (repeat apply Exists.intro); refine ⟨rfl, ?_⟩)
    refine wp_bif (fun _ => ?_) fun _ => no hp2
    (refine wp_load (hp2.loadH f1 (by simp)) ?_; (repeat apply Exists.intro); refine ⟨rfl, ?_⟩)
    refine wp_bif (fun _ => ?_) fun _ => no hp2
    (refine wp_load (hp2.loadH f1 (by simp)) ?_; (repeat apply Exists.intro); refine ⟨rfl, ?_⟩)
    exact ⟨_, rfl, fun _ => g3, hp2.lessH hle1⟩

theorem light25_runs {m : Msg} {cs : List Value} (hp : Hp w0 w H M) (hm : Ms H cs m) (mo : m.Ok) : Runs Try.prog 35 [.agg cs.toArray] w fun v w' => ∃ b, v = .bool b ∧ (b = true → Lm m) ∧ Hp w0 w' H M := by
  have hm0 := hm
  obtain ⟨a1, n1, c1, a2, n2, c2, rfl, he, hs⟩ := hm
  apply r35
  refine wp_newH hp fun p1 w1 H1 hp1 hle1 f1 => ?_
  have no : ∀ {w' : World}, Hp w0 w' H1 M → ∃ b, Value.bool false = .bool b ∧ (b = true → Lm m) ∧ Hp w0 w' H M := fun h => ⟨false, rfl, fun h => (by cases h), h.lessH hle1⟩
  (refine wp_load (hp1.loadH f1 (by simp)) ?_; (repeat apply Exists.intro); refine ⟨rfl, ?_⟩)
  refine wp_call (light21_runs hp1 (hm0.mono hle1) mo) fun v2 w2 h2 => ?_
  obtain ⟨b2, rfl, hb2, hp2⟩ := h2
  ((repeat apply Exists.intro); refine ⟨rfl, ?_⟩)
  refine wp_bif (fun h2 => ?_) fun _ => no hp2
  (refine wp_load (hp2.loadH f1 (by simp)) ?_; (repeat apply Exists.intro); refine ⟨rfl, ?_⟩)
  refine wp_bif (fun h3 => ?_) fun _ => no hp2
  (refine wp_load (hp2.loadH f1 (by simp)) ?_; (repeat apply Exists.intro); refine ⟨rfl, ?_⟩)
  refine wp_bif (fun h4 => ?_) fun _ => no hp2
  (refine wp_load (hp2.loadH f1 (by simp)) ?_; (repeat apply Exists.intro); refine ⟨rfl, ?_⟩)
  refine wp_bif (fun h5 => ?_) fun _ => no hp2
  (refine wp_load (hp2.loadH f1 (by simp)) ?_; (repeat apply Exists.intro); refine ⟨rfl, ?_⟩)
  refine wp_bif (fun h6 => ?_) fun _ => no hp2
  (refine wp_load (hp2.loadH f1 (by simp)) ?_; (repeat apply Exists.intro); refine ⟨rfl, ?_⟩)
  refine ⟨_, rfl, fun h7 => ?_, hp2.lessH hle1⟩
  have g3 : m.term < 1125899906842624 := of_decide_eq_true h3
  have g4 : m.index < 1099511627776 := of_decide_eq_true h4
  have g5 : m.commit < 1099511627776 := of_decide_eq_true h5
  have g6 : m.round < 1125899906842624 := of_decide_eq_true h6
  have g7 : m.snap.idx < 1099511627776 := of_decide_eq_true h7
  exact ⟨mo.index.1, by omega, mo.term.1, by omega, mo.round.1, by omega, mo.commit.1, by omega, mo.snap.1.1, by omega, hb2 h2⟩

def preV (r0 : Int) (r1 : Int) (r2 : Int) (r3 : Int) (r4 : Int) (r5 : Int) (r6a : Option Addr) (r6n : Nat) (r6c : Nat) (r7a : Option Addr) (r7n : Nat) (r7c : Nat) (r8 : Int) (r9 : Int) (r10 : Int) (r11a : Option Addr) (r11n : Nat) (r11c : Nat) (r12a : Option Addr) (r12n : Nat) (r12c : Nat) (r13a : Option Addr) (r13n : Nat) (r13c : Nat) (r14a : Option Addr) (r14n : Nat) (r14c : Nat) (r15 : Int) (r16a : Option Addr) (r16n : Nat) (r16c : Nat) (m0 : Int) (m1 : Int) (m2 : Int) (m3 : Int) (m4 : Int) (m5 : Int) (m6a : Option Addr) (m6n : Nat) (m6c : Nat) (m7 : Int) (m8 : Int) (m9 : Bool) (m10 : Int) (m11 : Int) (m12a : Option Addr) (m12n : Nat) (m12c : Nat) (m13 : Int) (m14 : Int) (m15 : Int) (m16 : ByteArray) (m17 : ByteArray) (m18 : Int) (m19 : Int) (m20 : ByteArray) (K : Nat → Nat → VC) : VC :=
 .new 36 [.int .u64 r0, .int .i64 r1, .int .i64 r2, .int .i64 r3, .int .u64 r4, .int .u64 r5, .slice r6a r6n r6c, .slice r7a r7n r7c, .int .u64 r8, .int .i64 r9, .int .i64 r10, .slice r11a r11n r11c, .slice r12a r12n r12c, .slice r13a r13n r13c, .slice r14a r14n r14c, .int .u64 r15, .slice r16a r16n r16c] fun p1 =>
 .new 70 [.int .i64 m0, .int .i64 m1, .int .i64 m2, .int .u64 m3, .int .u64 m4, .int .u64 m5, .slice m6a m6n m6c, .int .u64 m7, .int .u64 m8, .bool m9, .int .u64 m10, .int .u64 m11, .slice m12a m12n m12c, .int .i64 m13, .int .i64 m14, .int .u64 m15, .string m16, .string m17, .int .u64 m18, .int .i64 m19, .string m20] fun p2 =>
 .call 22 ([]) fun v3 =>
 .exB fun b4 =>
 .isL [v3] [.bool b4] <|
 bif !b4 then
  (.ret (.bool false))
 else
 (.load ⟨p1, 0, none⟩ 17 fun v5 =>
 .exI fun i6 =>
 .exI fun i7 =>
 .exI fun i8 =>
 .exI fun i9 =>
 .exI fun i10 =>
 .exI fun i11 =>
 .exS fun a12 n12 c12 =>
 .exS fun a13 n13 c13 =>
 .exI fun i14 =>
 .exI fun i15 =>
 .exI fun i16 =>
 .exS fun a17 n17 c17 =>
 .exS fun a18 n18 c18 =>
 .exS fun a19 n19 c19 =>
 .exS fun a20 n20 c20 =>
 .exI fun i21 =>
 .exS fun a22 n22 c22 =>
 .isL v5 [.int .u64 i6, .int .i64 i7, .int .i64 i8, .int .i64 i9, .int .u64 i10, .int .u64 i11, .slice a12 n12 c12, .slice a13 n13 c13, .int .u64 i14, .int .i64 i15, .int .i64 i16, .slice a17 n17 c17, .slice a18 n18 c18, .slice a19 n19 c19, .slice a20 n20 c20, .int .u64 i21, .slice a22 n22 c22] <|
 .call 30 ([.agg #[.int .u64 i6, .int .i64 i7, .int .i64 i8, .int .i64 i9, .int .u64 i10, .int .u64 i11, .slice a12 n12 c12, .slice a13 n13 c13, .int .u64 i14, .int .i64 i15, .int .i64 i16, .slice a17 n17 c17, .slice a18 n18 c18, .slice a19 n19 c19, .slice a20 n20 c20, .int .u64 i21, .slice a22 n22 c22]]) fun v23 =>
 .exB fun b24 =>
 .isL [v23] [.bool b24] <|
 bif !b24 then
  (.ret (.bool true))
 else
 (.load ⟨p2, 0, none⟩ 21 fun v25 =>
 .exI fun i26 =>
 .exI fun i27 =>
 .exI fun i28 =>
 .exI fun i29 =>
 .exI fun i30 =>
 .exI fun i31 =>
 .exS fun a32 n32 c32 =>
 .exI fun i33 =>
 .exI fun i34 =>
 .exB fun b35 =>
 .exI fun i36 =>
 .exI fun i37 =>
 .exS fun a38 n38 c38 =>
 .exI fun i39 =>
 .exI fun i40 =>
 .exI fun i41 =>
 .exT fun s42 =>
 .exT fun s43 =>
 .exI fun i44 =>
 .exI fun i45 =>
 .exT fun s46 =>
 .isL v25 [.int .i64 i26, .int .i64 i27, .int .i64 i28, .int .u64 i29, .int .u64 i30, .int .u64 i31, .slice a32 n32 c32, .int .u64 i33, .int .u64 i34, .bool b35, .int .u64 i36, .int .u64 i37, .slice a38 n38 c38, .int .i64 i39, .int .i64 i40, .int .u64 i41, .string s42, .string s43, .int .u64 i44, .int .i64 i45, .string s46] <|
 .call 35 ([.agg #[.int .i64 i26, .int .i64 i27, .int .i64 i28, .int .u64 i29, .int .u64 i30, .int .u64 i31, .slice a32 n32 c32, .int .u64 i33, .int .u64 i34, .bool b35, .int .u64 i36, .int .u64 i37, .slice a38 n38 c38, .int .i64 i39, .int .i64 i40, .int .u64 i41, .string s42, .string s43, .int .u64 i44, .int .i64 i45, .string s46]]) fun v47 =>
 .exB fun b48 =>
 .isL [v47] [.bool b48] <|
 bif !b48 then
  (.ret (.bool true))
 else
 (K p1 p2)))

theorem pre_wp {r : Raft} {m : Msg} {ss ls vs ns ms ak rs : Sl3} {cm : List Value} {a1 a2 : Option Addr} {n1 c1 n2 c2 : Nat} {K : Nat → Nat → VC} (hp : Hp w0 w H M) (hr : RaS H r ss ls vs ns ms ak rs) (ho : RaOk r) (hm : Ms H cm m) (mo : m.Ok)
    (hcm : cm = [.int .i64 m.kind, .int .i64 m.frm, .int .i64 m.dest, .int .u64 m.term, .int .u64 m.index, .int .u64 m.logTerm, .slice a1 n1 c1, .int .u64 m.commit, .int .u64 m.round, .bool m.ok, .int .u64 m.snap.idx, .int .u64 m.snap.term, .slice a2 n2 c2, .int .i64 m.ck, .int .i64 m.cc, .int .u64 m.cs, .string m.cname, .string m.curl, .int .u64 m.cuntil, .int .i64 m.aerr, .string m.atext])
    (hK : ∀ p1 p2 w' H', Hp w0 w' H' M → H.le H' → H' p1 = some (cells17 r ss ls vs ns ms ak rs) → H' p2 = some cm → MayP r → Lm m → Ra H' (cells17 r ss ls vs ns ms ak rs) r → Ms H' cm m → (K p1 p2).wp Try.prog (fun v w' => v = .bool true ∧ Hp w0 w' H M) env w') :
    (preV r.term r.vote r.id r.n r.snap.idx r.snap.term ss.a ss.n ss.c ls.a ls.n ls.c r.commit r.role r.lead vs.a vs.n vs.c ns.a ns.n ns.c ms.a ms.n ms.c ak.a ak.n ak.c r.round rs.a rs.n rs.c
      m.kind m.frm m.dest m.term m.index m.logTerm a1 n1 c1 m.commit m.round m.ok m.snap.idx m.snap.term a2 n2 c2 m.ck m.cc m.cs m.cname m.curl m.cuntil m.aerr m.atext K).wp Try.prog (fun v w' => v = .bool true ∧ Hp w0 w' H M) env w := by
  subst hcm
  refine wp_newH hp fun p1 w1 H1 hp1 hle1 f1 => wp_newH hp1 fun p2 w2 H2 hp2 hle2 f2 => ?_
  have hle := hle1.trans hle2
  replace f1 := hle2 _ _ f1
  have hra : Ra H (cells17 r ss ls vs ns ms ak rs) r := ⟨_, _, _, _, _, _, _, rfl, hr⟩
  refine wp_call (begun_runs hp2) fun v3 w3 h3 => ?_
  obtain ⟨rfl, hp3⟩ := h3
  ((repeat apply Exists.intro); refine ⟨rfl, ?_⟩)
  refine wp_bif (fun h => by simp at h) fun _ => ?_
  (refine wp_load (hp3.loadH f1 (by simp [cells17])) ?_; (repeat apply Exists.intro); refine ⟨rfl, ?_⟩)
  refine wp_call (may25_runs hp3 (hra.mono hle) ho) fun v4 w4 h4 => ?_
  obtain ⟨b4, rfl, hmay, hp4⟩ := h4
  ((repeat apply Exists.intro); refine ⟨rfl, ?_⟩)
  refine wp_bif (fun _ => ⟨rfl, hp4.lessH hle⟩) fun h => ?_
  have may := hmay (by simpa using h)
  (refine wp_load (hp4.loadH f2 (by simp)) ?_; (repeat apply Exists.intro); refine ⟨rfl, ?_⟩)
  refine wp_call (light25_runs hp4 (hm.mono hle) mo) fun v5 w5 h5 => ?_
  obtain ⟨b5, rfl, hlm, hp5⟩ := h5
  ((repeat apply Exists.intro); refine ⟨rfl, ?_⟩)
  refine wp_bif (fun _ => ⟨rfl, hp5.lessH hle⟩) fun h => ?_
  have lm := hlm (by simpa using h)
  exact hK p1 p2 w5 H2 hp5 hle f1 f2 may lm (hra.mono hle) (hm.mono hle)

/-- One letter alone: its cells, asked for. -/
theorem msg0 {a : Option Addr} {n c : Nat} {x : Msg} (hs : Sl H (Ms H) a n c [x]) (hp : Hp w0 w H M) : ∃ b o, a = some ⟨b, o, none⟩ ∧ n = 1 ∧
    (∀ {w' : World}, Hp w0 w' H M → cellsAt w' ⟨b, o, none⟩ 0 1 = some [.int .i64 x.kind]) ∧ (∀ {w' : World}, Hp w0 w' H M → cellsAt w' ⟨b, o + 2, none⟩ 0 1 = some [.int .i64 x.dest]) ∧
    (∀ {w' : World}, Hp w0 w' H M → cellsAt w' ⟨b, o + 3, none⟩ 0 1 = some [.int .u64 x.term]) ∧ (∀ {w' : World}, Hp w0 w' H M → cellsAt w' ⟨b, o + 4, none⟩ 0 1 = some [.int .u64 x.index]) ∧
    (∀ {w' : World}, Hp w0 w' H M → cellsAt w' ⟨b, o + 8, none⟩ 0 1 = some [.int .u64 x.round]) ∧ (∀ {w' : World}, Hp w0 w' H M → cellsAt w' ⟨b, o + 9, none⟩ 0 1 = some [.bool x.ok]) := by
  obtain ⟨b, o, cs, ha, hcs, hat⟩ := Sl.elem (i := 0) Ms.len hs hp rfl (by omega)
  obtain ⟨_, _, _, _, _, _, rfl, _⟩ := hcs
  simp only [Nat.zero_mul, Nat.add_zero] at hat
  refine ⟨b, o, ha, hs.1, fun h => hat _ _ h 0 1 (by omega), fun h => hat _ _ h 2 1 (by omega), fun h => hat _ _ h 3 1 (by omega), fun h => hat _ _ h 4 1 (by omega), fun h => hat _ _ h 8 1 (by omega), fun h => hat _ _ h 9 1 (by omega)⟩
end
end Go.Proofs.Ytnbfffmdplcajaa
