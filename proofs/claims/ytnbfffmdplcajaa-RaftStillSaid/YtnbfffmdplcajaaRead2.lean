/- The row's readings of rafts, of what is kept, of lists of bytes. -/
import Derived.Test.YtnbfffmdplcajaaRead
import Derived.Test.YtnbfffmdplcajaaR7
namespace Go.Vc.Rf
/-- Bytes, as an element. -/
def By (H : Mp) (cs : List Value) (d : List UInt8) : Prop := ∃ a n c, cs = [.slice a n c] ∧ Bs H a n c d
theorem By.len {H : Mp} (c : List Value) (x : List UInt8) (h : By H c x) : c.length = 1 := by obtain ⟨_, _, _, rfl, _⟩ := h; rfl
theorem By.mono {H H' : Mp} (h : H.le H') (cs : List Value) (e : List UInt8) (he : By H cs e) : By H' cs e := by
  obtain ⟨a, n, c, h1, h2⟩ := he; exact ⟨a, n, c, h1, h2.mono h⟩
structure Kept.Ok (k : Kept) : Prop where
  term : U64 k.term
  vote : I64 k.vote
  snap : k.snap.Ok
  size : k.entries.length ≤ 4398046511104
  entries : ∀ e ∈ k.entries, e.Ok
end Go.Vc.Rf
namespace Go.Proofs.Ytnbfffmdplcajaa
open Go.Vc Go.Vc.Rf

structure RaOk (r : Raft) : Prop where
  term : U64 r.term
  vote : I64 r.vote
  id : I64 r.id
  n : I64 r.n
  snap : r.snap.Ok
  log : ∀ e ∈ r.log, e.Ok
  commit : U64 r.commit
  role : I64 r.role
  lead : I64 r.lead
  next : ∀ x ∈ r.next, U64 x
  mat : ∀ x ∈ r.mat, U64 x
  acks : ∀ x ∈ r.acks, U64 x
  round : U64 r.round
  reads : ∀ x ∈ r.reads, x.Ok
  logN : r.log.length ≤ 4398046511104
  votesN : r.votes.length ≤ 140737488351232
  nextN : r.next.length ≤ 17592186043904
  matN : r.mat.length ≤ 17592186043904
  acksN : r.acks.length ≤ 17592186043904
  readsN : r.reads.length ≤ 17592186043904

section
variable {W : World} {H : Type} {enc : TypeId × Value → H} {cs : List Value} {d : DataW H}

theorem rd_hard (h : Vc.Rd enc Try.prog W 24 cs d) (hw : Wt Try.prog 24 d) : ∃ t v, cs = [.int .u64 t, .int .i64 v] ∧ U64 t ∧ I64 v := by
  obtain ⟨c0, r0, d0, rfl, h0, w0, c1, r1, d1, rfl, h1, w1, rfl⟩ := rd_struct Try.underlying24 (by kernel_rfl) h hw
  obtain ⟨n, rfl, hn⟩ := rd_u64 h0
  obtain ⟨k, rfl, hk⟩ := rd_i64 h1
  exact ⟨n, k, rfl, hn, hk⟩

theorem rd_bools (h : Vc.Rd enc Try.prog W 32 cs d) (hw : Wt Try.prog 32 d) : ∃ a n c l, cs = [.slice a n c] ∧ Sl (heapH W) Bo a n c l ∧ n ≤ 140737488351232 := by
  obtain ⟨a, n, c, l, h1, h2, h3⟩ := rd_slice (p := fun c x => Bo c x) Try.underlying32 (k := 1) (by kernel_rfl) (by omega) (fun c d _ hr hw => by
    obtain ⟨b, hb⟩ := rd_bool Try.underlying4 hr
    exact ⟨b, hb⟩) h hw
  have hb : Try.prog.bytesOf 4 = 1 := by kernel_rfl
  rw [hb] at h3
  have h4 := reach_le h3
  have h5 := h2.2.1
  exact ⟨a, n, c, l, h1, h2, by omega⟩

theorem rd_nums (h : Vc.Rd enc Try.prog W 33 cs d) (hw : Wt Try.prog 33 d) : ∃ a n c l, cs = [.slice a n c] ∧ Sl (heapH W) Nu a n c l ∧ n ≤ 17592186043904 ∧ ∀ x ∈ l, U64 x := by
  obtain ⟨a, n, c, l, h1, h2, h3⟩ := rd_slice (p := fun c x => Nu c x ∧ U64 x) Try.underlying33 (k := 1) (by kernel_rfl) (by omega) (fun c d _ hr hw => by
    obtain ⟨x, hx, hu⟩ := rd_u64 hr
    exact ⟨x, hx, hu⟩) h hw
  have hb : Try.prog.bytesOf 22 = 8 := by kernel_rfl
  rw [hb] at h3
  have h4 := reach_le h3
  have h5 := h2.2.1
  exact ⟨a, n, c, l, h1, h2.mono (Mp.le.refl _) (fun c x h => h.1), by omega, h2.all fun c x h => h.2⟩

theorem rd_reads (h : Vc.Rd enc Try.prog W 34 cs d) (hw : Wt Try.prog 34 d) : ∃ a n c l, cs = [.slice a n c] ∧ Sl (heapH W) Re a n c l ∧ n ≤ 17592186043904 ∧ ∀ x ∈ l, x.Ok := by
  obtain ⟨a, n, c, l, h1, h2, h3⟩ := rd_slice (p := fun c x => Re c x ∧ x.Ok) Try.underlying34 (k := 3) (by kernel_rfl) (by omega) (fun c d _ hr hw => by
    obtain ⟨c0, r0, d0, rfl, h0, w0, c1, r1, d1, rfl, h1, w1, c2, r2, d2, rfl, h2, w2, rfl⟩ := rd_struct Try.underlying62 (by kernel_rfl) hr hw
    obtain ⟨x, rfl, hx⟩ := rd_u64 h0
    obtain ⟨y, rfl, hy⟩ := rd_u64 h1
    obtain ⟨z, rfl, hz⟩ := rd_u64 h2
    exact ⟨⟨x, y, z⟩, rfl, hx, hy, hz⟩) h hw
  have hb : Try.prog.bytesOf 62 = 24 := by kernel_rfl
  rw [hb] at h3
  have h4 := reach_le h3
  have h5 := h2.2.1
  exact ⟨a, n, c, l, h1, h2.mono (Mp.le.refl _) (fun c x h => h.1), by omega, h2.all fun c x h => h.2⟩

theorem rd_bufs (h : Vc.Rd enc Try.prog W 52 cs d) (hw : Wt Try.prog 52 d) : ∃ a n c l, cs = [.slice a n c] ∧ Sl (heapH W) (By (heapH W)) a n c l := by
  obtain ⟨a, n, c, l, h1, h2, h3⟩ := rd_slice (p := By (heapH W)) Try.underlying52 (k := 1) (by kernel_rfl) (by omega) (fun c d _ hr hw => by
    obtain ⟨a, n, c, l, h1, h2⟩ := rd_bytes hr hw
    exact ⟨l, a, n, c, h1, h2⟩) h hw
  exact ⟨a, n, c, l, h1, h2⟩

theorem rd_kept (h : Vc.Rd enc Try.prog W 30 cs d) (hw : Wt Try.prog 30 d) : ∃ k, Kp (heapH W) cs k ∧ k.Ok := by
  obtain ⟨c0, r0, d0, rfl, h0, w0, c1, r1, d1, rfl, h1, w1, c2, r2, d2, rfl, h2, w2, rfl⟩ := rd_struct Try.underlying30 (by kernel_rfl) h hw
  obtain ⟨t, v, rfl, ht, hv⟩ := rd_hard h0 w0
  obtain ⟨s, ⟨a, n, c, rfl, hs⟩, so⟩ := rd_snp h1 w1
  obtain ⟨b, m, e, l, rfl, hl, hle, hlo⟩ := rd_ents h2 w2
  exact ⟨⟨t, v, s, l⟩, ⟨⟨a, n, c⟩, ⟨b, m, e⟩, rfl, hs, hl⟩, ⟨ht, hv, so, hle, hlo⟩⟩

theorem rd_raft (h : Vc.Rd enc Try.prog W 36 cs d) (hw : Wt Try.prog 36 d) : ∃ r, Ra (heapH W) cs r ∧ RaOk r := by
  obtain ⟨c0, r0, d0, rfl, h0, w0, c1, r1, d1, rfl, h1, w1, c2, r2, d2, rfl, h2, w2, c3, r3, d3, rfl, h3, w3, c4, r4, d4, rfl, h4, w4, c5, r5, d5, rfl, h5, w5, c6, r6, d6, rfl, h6, w6,
    c7, r7, d7, rfl, h7, w7, c8, r8, d8, rfl, h8, w8, c9, r9, d9, rfl, h9, w9, c10, r10, d10, rfl, h10, w10, c11, r11, d11, rfl, h11, w11, c12, r12, d12, rfl, h12, w12, c13, r13, d13, rfl, h13, w13, rfl⟩ := rd_struct Try.underlying36 (by kernel_rfl) h hw
  obtain ⟨t, v, rfl, ht, hv⟩ := rd_hard h0 w0
  obtain ⟨n1, rfl, k1⟩ := rd_i64 h1
  obtain ⟨n2, rfl, k2⟩ := rd_i64 h2
  obtain ⟨s, ⟨a, n, c, rfl, hs⟩, so⟩ := rd_snp h3 w3
  obtain ⟨b, m, e, l, rfl, hl, hle, hlo⟩ := rd_ents h4 w4
  obtain ⟨n5, rfl, k5⟩ := rd_u64 h5
  obtain ⟨n6, rfl, k6⟩ := rd_i64 h6
  obtain ⟨n7, rfl, k7⟩ := rd_i64 h7
  obtain ⟨a8, m8, e8, l8, rfl, g8, q8⟩ := rd_bools h8 w8
  obtain ⟨a9, m9, e9, l9, rfl, g9, q9, o9⟩ := rd_nums h9 w9
  obtain ⟨a10, m10, e10, l10, rfl, g10, q10, o10⟩ := rd_nums h10 w10
  obtain ⟨a11, m11, e11, l11, rfl, g11, q11, o11⟩ := rd_nums h11 w11
  obtain ⟨n12, rfl, k12⟩ := rd_u64 h12
  obtain ⟨a13, m13, e13, l13, rfl, g13, q13, o13⟩ := rd_reads h13 w13
  have s8 := g8.1
  have s9 := g9.1
  have s10 := g10.1
  have s11 := g11.1
  have s13 := g13.1
  exact ⟨⟨t, v, n1, n2, s, l, n5, n6, n7, l8, l9, l10, l11, n12, l13⟩, ⟨⟨a, n, c⟩, ⟨b, m, e⟩, ⟨a8, m8, e8⟩, ⟨a9, m9, e9⟩, ⟨a10, m10, e10⟩, ⟨a11, m11, e11⟩, ⟨a13, m13, e13⟩, rfl, hs, hl, g8, g9, g10, g11, g13⟩,
    ⟨ht, hv, k1, k2, so, hlo, k5, k6, k7, o9, o10, o11, k12, o13, hle, by show l8.length ≤ _; omega, by show l9.length ≤ _; omega, by show l10.length ≤ _; omega, by show l11.length ≤ _; omega, by show l13.length ≤ _; omega⟩⟩
end
end Go.Proofs.Ytnbfffmdplcajaa
