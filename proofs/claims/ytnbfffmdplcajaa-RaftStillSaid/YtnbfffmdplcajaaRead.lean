/- The row's readings of bytes, entries, snapshots, messages. -/
import Derived.Test.YtnbfffmdplcajaaOpen
import Derived.Test.YtnbfffmdplcajaaProg
namespace Go.Proofs.Ytnbfffmdplcajaa
open Go.Vc Go.Vc.Rf

section
variable {W : World} {H : Type} {enc : TypeId × Value → H} {cs : List Value} {d : DataW H}

theorem rd_u64 (h : Vc.Rd enc Try.prog W 22 cs d) : ∃ n, cs = [.int .u64 n] ∧ U64 n := by
  obtain ⟨n, h1, h2, h3⟩ := rd_int Try.underlying22 h
  exact ⟨n, h1, h2, h3⟩
theorem rd_i64 (h : Vc.Rd enc Try.prog W 3 cs d) : ∃ n, cs = [.int .i64 n] ∧ I64 n := by
  obtain ⟨n, h1, h2, h3⟩ := rd_int Try.underlying3 h
  exact ⟨n, h1, h2, h3⟩
theorem rd_err (h : Vc.Rd enc Try.prog W 66 cs d) : ∃ n, cs = [.int .i64 n] ∧ I64 n := by
  obtain ⟨n, h1, h2, h3⟩ := rd_int Try.underlying66 h
  exact ⟨n, h1, h2, h3⟩

theorem reach_le {c b : Nat} (h : c * b ≤ reachBytes) : c * b ≤ 140737488351232 := h

theorem rd_bytes (h : Vc.Rd enc Try.prog W 25 cs d) (hw : Wt Try.prog 25 d) : ∃ a n c l, cs = [.slice a n c] ∧ Bs (heapH W) a n c l := by
  obtain ⟨a, n, c, l, h1, h2, h3⟩ := rd_slice (p := fun c (x : UInt8) => c = [.int .u8 x.toNat]) Try.underlying25 (k := 1) (by kernel_rfl) (by omega) (fun c d _ hr _ => by
    obtain ⟨n, h1, h2, h3⟩ := rd_int Try.underlying5 hr
    simp [IntKind.min, IntKind.max, IntKind.signed, IntKind.bits] at h2 h3
    refine ⟨UInt8.ofNat n.toNat, ?_⟩
    rw [h1]
    have e : ((UInt8.ofNat n.toNat).toNat : Int) = n := by
      rw [UInt8.toNat_ofNat']
      omega
    rw [e]) h hw
  have hb : Try.prog.bytesOf 5 = 1 := by kernel_rfl
  rw [hb] at h3
  have h4 := reach_le h3
  obtain ⟨g1, g2, cells, g3, g4⟩ := h2
  rw [LL.u8 g4] at g3
  exact ⟨a, n, c, l, h1, g1, g2, by omega, g3⟩

theorem rd_ent (h : Vc.Rd enc Try.prog W 57 cs d) (hw : Wt Try.prog 57 d) : ∃ x, En (heapH W) cs x ∧ x.Ok := by
  obtain ⟨c0, r0, d0, rfl, h0, w0, c1, r1, d1, rfl, h1, w1, rfl⟩ := rd_struct Try.underlying57 (by kernel_rfl) h hw
  obtain ⟨n, rfl, hn⟩ := rd_u64 h0
  obtain ⟨a, m, c, l, rfl, hb⟩ := rd_bytes h1 w1
  exact ⟨⟨n, l⟩, ⟨a, m, c, rfl, hb⟩, hn⟩

theorem rd_ents (h : Vc.Rd enc Try.prog W 28 cs d) (hw : Wt Try.prog 28 d) : ∃ a n c l, cs = [.slice a n c] ∧ Sl (heapH W) (En (heapH W)) a n c l ∧ l.length ≤ 4398046511104 ∧ ∀ e ∈ l, e.Ok := by
  obtain ⟨a, n, c, l, h1, h2, h3⟩ := rd_slice (p := fun c x => En (heapH W) c x ∧ x.Ok) Try.underlying28 (k := 2) (by kernel_rfl) (by omega) (fun c d _ hr hw => rd_ent hr hw) h hw
  have hb : Try.prog.bytesOf 57 = 32 := by kernel_rfl
  rw [hb] at h3
  have h4 := reach_le h3
  have h5 := h2.1
  have h6 := h2.2.1
  exact ⟨a, n, c, l, h1, h2.mono (Mp.le.refl _) (fun c x h => h.1), by omega, h2.all fun c x h => h.2⟩

theorem rd_snp (h : Vc.Rd enc Try.prog W 27 cs d) (hw : Wt Try.prog 27 d) : ∃ x, Sn (heapH W) cs x ∧ x.Ok := by
  obtain ⟨c0, r0, d0, rfl, h0, w0, c1, r1, d1, rfl, h1, w1, c2, r2, d2, rfl, h2, w2, rfl⟩ := rd_struct Try.underlying27 (by kernel_rfl) h hw
  obtain ⟨n, rfl, hn⟩ := rd_u64 h0
  obtain ⟨k, rfl, hk⟩ := rd_u64 h1
  obtain ⟨a, m, c, l, rfl, hb⟩ := rd_bytes h2 w2
  exact ⟨⟨n, k, l⟩, ⟨a, m, c, rfl, hb⟩, hn, hk⟩

theorem rd_msg (h : Vc.Rd enc Try.prog W 70 cs d) (hw : Wt Try.prog 70 d) : ∃ x, Ms (heapH W) cs x ∧ x.Ok := by
  obtain ⟨c0, r0, d0, rfl, h0, w0, c1, r1, d1, rfl, h1, w1, c2, r2, d2, rfl, h2, w2, c3, r3, d3, rfl, h3, w3, c4, r4, d4, rfl, h4, w4, c5, r5, d5, rfl, h5, w5, c6, r6, d6, rfl, h6, w6,
    c7, r7, d7, rfl, h7, w7, c8, r8, d8, rfl, h8, w8, c9, r9, d9, rfl, h9, w9, c10, r10, d10, rfl, h10, w10, c11, r11, d11, rfl, h11, w11, c12, r12, d12, rfl, h12, w12, rfl⟩ := rd_struct Try.underlying70 (by kernel_rfl) h hw
  obtain ⟨n0, rfl, k0⟩ := rd_i64 h0
  obtain ⟨n1, rfl, k1⟩ := rd_i64 h1
  obtain ⟨n2, rfl, k2⟩ := rd_i64 h2
  obtain ⟨n3, rfl, k3⟩ := rd_u64 h3
  obtain ⟨n4, rfl, k4⟩ := rd_u64 h4
  obtain ⟨n5, rfl, k5⟩ := rd_u64 h5
  obtain ⟨a6, n6, m6, l6, rfl, k6, s6, o6⟩ := rd_ents h6 w6
  obtain ⟨n7, rfl, k7⟩ := rd_u64 h7
  obtain ⟨n8, rfl, k8⟩ := rd_u64 h8
  obtain ⟨n9, rfl⟩ := rd_bool Try.underlying4 h9
  obtain ⟨s, ⟨a10, n10, m10, rfl, k10⟩, o10⟩ := rd_snp h10 w10
  obtain ⟨e0, f0, g0, rfl, i0, j0, e1, f1, g1, rfl, i1, j1, e2, f2, g2, rfl, i2, j2, e3, f3, g3, rfl, i3, j3, e4, f4, g4, rfl, i4, j4, e5, f5, g5, rfl, i5, j5, rfl⟩ := rd_struct Try.underlying65 (by kernel_rfl) h11 w11
  obtain ⟨p0, rfl, _⟩ := rd_i64 i0
  obtain ⟨p1, rfl, _⟩ := rd_i64 i1
  obtain ⟨p2, rfl, _⟩ := rd_u64 i2
  obtain ⟨p3, rfl⟩ := rd_str Try.underlying9 i3
  obtain ⟨p4, rfl⟩ := rd_str Try.underlying9 i4
  obtain ⟨p5, rfl, _⟩ := rd_u64 i5
  obtain ⟨e6, f6, g6, rfl, i6, j6, e7, f7, g7, rfl, i7, j7, rfl⟩ := rd_struct Try.underlying68 (by kernel_rfl) h12 w12
  obtain ⟨p6, rfl, _⟩ := rd_err i6
  obtain ⟨p7, rfl⟩ := rd_str Try.underlying9 i7
  exact ⟨⟨n0, n1, n2, n3, n4, n5, l6, n7, n8, n9, s, p0, p1, p2, p3, p4, p5, p6, p7⟩, ⟨a6, n6, m6, a10, n10, m10, rfl, k6, k10⟩, ⟨k0, k1, k2, k3, k4, k5, s6, o6, k7, k8, o10⟩⟩

theorem rd_msgs (h : Vc.Rd enc Try.prog W 46 cs d) (hw : Wt Try.prog 46 d) : ∃ a n c l, cs = [.slice a n c] ∧ Sl (heapH W) (Ms (heapH W)) a n c l ∧ l.length ≤ 1000000000000 ∧ ∀ e ∈ l, e.Ok := by
  obtain ⟨a, n, c, l, h1, h2, h3⟩ := rd_slice (p := fun c x => Ms (heapH W) c x ∧ x.Ok) Try.underlying46 (k := 21) (by kernel_rfl) (by omega) (fun c d _ hr hw => rd_msg hr hw) h hw
  have hb : Try.prog.bytesOf 70 = 224 := by kernel_rfl
  rw [hb] at h3
  have h4 := reach_le h3
  have h5 := h2.1
  have h6 := h2.2.1
  exact ⟨a, n, c, l, h1, h2.mono (Mp.le.refl _) (fun c x h => h.1), by omega, h2.all fun c x h => h.2⟩
end
end Go.Proofs.Ytnbfffmdplcajaa
