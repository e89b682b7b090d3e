/- Contracts: others, most, what is asked of each, bare, hard, put, send. -/
import Derived.Test.YtnbfffmdplcajaaR1
namespace Go.Proofs.Ytnbfffmdplcajaa
open Go.Vc Go.Vc.Rf

section
variable {w0 w : World} {H M U : Mp} {s : Nat} {o : List Nat} {r : Raft} {q : Out}

def othersTo (r : Raft) (j : Nat) : List Int := ((List.range j).map fun i : Nat => (i : Int) + 1).filter fun i => i != r.id
theorem othersTo_succ (j : Nat) : othersTo r (j + 1) = othersTo r j ++ if ((j : Int) + 1 != r.id) = true then [(j : Int) + 1] else [] := by
  unfold othersTo
  rw [List.range_succ, List.map_append, List.filter_append]
  simp only [List.map_cons, List.map_nil, List.filter_cons, List.filter_nil]
theorem othersTo_len (j : Nat) : (othersTo r j).length ≤ j := by
  unfold othersTo
  exact Nat.le_trans (List.length_filter_le _ _) (by simp)
theorem others_mem {i : Int} (h : i ∈ others r) : 1 ≤ i ∧ i ≤ r.n ∧ i ≠ r.id := by
  unfold others at h
  simp only [List.mem_filter, List.mem_map, List.mem_range, bne_iff_ne, ne_eq] at h
  obtain ⟨⟨a, ha, rfl⟩, h2⟩ := h
  exact ⟨by omega, by omega, h2⟩
theorem others_len (hn : r.n ≤ 7) : (others r).length ≤ 7 := by
  have := othersTo_len (r := r) r.n.toNat
  unfold othersTo at this
  unfold others
  omega

theorem others_runs (hp : Hp w0 w H M) (st : St H M s o r q) (hn : r.n ≤ 7) :
    Runs Try.prog 63 [.pointer (some ⟨s, 0, none⟩)] w fun v w' => ∃ a n c H', v = .slice a n c ∧ Hp w0 w' H' M ∧ H.le H' ∧ Sl H' It a n c (others r) := by
  obtain ⟨ss, g, rfl, low, sem⟩ := st.ex
  apply r63
  refine ⟨fun vs w' => ∃ (j : Nat) (t : Sl3) (cells : List Value) (o' : List Nat) (H' M' : Mp), vs = [.slice t.a t.n t.c, .int .i64 (j + 1 : Nat)] ∧ j ≤ r.n.toNat ∧ Hp w0 w' H' M' ∧ H.le H' ∧ Adv M [] M' o' ∧ Own M' 1 t cells o' ∧ LL It cells (othersTo r j),
    fun vs _ => match vs with | [_, .int _ k] => 9 - k.toNat | _ => 0, ⟨0, ⟨none, 0, 0⟩, [], [], H, M, rfl, Nat.zero_le _, hp, Mp.le.refl _, Adv.refl _ _, Own.nil _ _, rfl⟩, ?_⟩
  rintro vs w1 ⟨j, t, cells, o', H1, M1, rfl, hj, hp1, hle1, ha1, ho1, hl1⟩
  have hv1 : M1 s = _ := (ha1.keep s (Mp.ne_of low.var) (by simp)).trans low.var
  ((repeat apply Exists.intro); refine ⟨rfl, ?_⟩)
  (refine wp_load (hp1.loadM hv1 (by simp [cells20])) ?_; (repeat apply Exists.intro); refine ⟨rfl, ?_⟩)
  refine wp_bif (fun h => ?_) fun h => ?_
  · have hjn : ((j : Int) + 1) ≤ r.n := by simp at h; omega
    (refine wp_load (hp1.loadM hv1 (by simp [cells20])) ?_; (repeat apply Exists.intro); refine ⟨rfl, ?_⟩)
    have hcl := LL.length It.len hl1
    have hcl2 := ho1.1
    have hlen := othersTo_len (r := r) j
    refine wp_bif (fun h2 => ?_) fun h2 => ?_
    · refine wp_newH hp1 fun p w2 H2 hp2 hle2 f2 => ?_
      refine wp_append hp2 ho1 rfl (m := 1) (hp2.read1 f2 rfl) rfl (by simp [Value.oneCell']) (by omega) (by omega) fun t' M' o'' w3 hp3 ho3 hn3 ha3 => ?_
      refine ⟨⟨j + 1, t', _, o'', H2, M', ?_, by omega, hp3, hle1.trans hle2, ha1.trans ha3, ho3, ?_⟩, ?_⟩
      · rw [wrap_i64 (by omega) (by omega)]; simp
      · rw [othersTo_succ, if_pos (by simpa using h2)]
        exact hl1.append (LL.one (by simp [It]))
      · show 9 - (IntKind.i64.wrap (((j + 1 : Nat) : Int) + 1)).toNat < 9 - (((j + 1 : Nat) : Int)).toNat
        rw [wrap_i64 (by omega) (by omega)]; omega
    · refine ⟨⟨j + 1, t, cells, o', H1, M1, ?_, by omega, hp1, hle1, ha1, ho1, ?_⟩, ?_⟩
      · rw [wrap_i64 (by omega) (by omega)]; simp
      · rw [othersTo_succ, if_neg (by simpa using h2), List.append_nil]
        exact hl1
      · show 9 - (IntKind.i64.wrap (((j + 1 : Nat) : Int) + 1)).toNat < 9 - (((j + 1 : Nat) : Int)).toNat
        rw [wrap_i64 (by omega) (by omega)]; omega
  · have hjn : j = r.n.toNat := by simp at h; omega
    subst hjn
    refine ⟨t.a, t.n, t.c, H1.froz M1 o', rfl, hp1.give ha1, hle1.trans (hp1.froz_le _), ?_⟩
    exact own_sl It.len (by omega) ho1 (ho1.froz fun _ h => h) hl1

/-- What a majority is asked for. -/
def Asks (w0 : World) (H M : Mp) (r : Raft) (f : Nat) (c : Array Value) (has : Int → Bool) : Prop :=
  ∀ H' w', H.le H' → Hp w0 w' H' M → ∀ i ∈ others r, Runs Try.prog f ([.int .i64 (i - 1)] ++ c.1) w' fun v w'' => v = .bool (has (i - 1)) ∧ Hp w0 w'' H' M

def mostLoop (s : Nat) (a : Option Addr) (n : Nat) (f : Nat) (c : Array Value) (k : Int) : VC :=
  .loop 0 [.int .i64 k, .int .i64 0] (fun v3 =>
   .exI fun i4 =>
   .exI fun i5 =>
   .isL v3 [.int .i64 i4, .int .i64 i5] <|
   bif (decide (i5 < (↑n : Int))) then
    (.some a fun x6 =>
    .need ((0 : Int) ≤ i5 ∧ i5 < (↑n : Int)) <|
    .load (x6.add (i5.toNat * 1)) 1 fun v7 =>
    .exI fun i8 =>
    .isL v7 [.int .i64 i8] <|
    .call f ([.int .i64 (IntKind.i64.wrap (i8 - 1))] ++ c.1) fun v9 =>
    .exB fun b10 =>
    .isL [v9] [.bool b10] <|
    bif b10 then
     (.again 0 [.int .i64 (IntKind.i64.wrap (i4 + 1)), .int .i64 (IntKind.i64.wrap (i5 + 1))])
    else
    (.again 0 [.int .i64 i4, .int .i64 (IntKind.i64.wrap (i5 + 1))]))
   else
   (.load ⟨s, 3, none⟩ 1 fun v11 =>
   .exI fun i12 =>
   .isL v11 [.int .i64 i12] <|
   .ret (.bool (decide (IntKind.i64.wrap (2 * i4) > i12)))))

theorem mostLoop_wp {env : Nat → List Value → World → Prop} {a : Option Addr} {n c : Nat} {f : Nat} {cap : Array Value} {has : Int → Bool} {k : Nat} {H' : Mp} (hp : Hp w0 w H' M) (hle : H.le H') (st : St H M s o r q) (hn : r.n ≤ 7)
    (hl : Sl H' It a n c (others r)) (hcall : Asks w0 H M r f cap has) (hk : k ≤ 1) :
    (mostLoop s a n f cap k).wp Try.prog (fun v w' => v = .bool (decide (2 * (k + ((others r).countP fun i => has (i - 1) : Nat) : Int) > r.n)) ∧ Hp w0 w' H M) env w := by
  obtain ⟨ss, g, rfl, low, sem⟩ := st.ex
  have h7 := others_len hn
  have hln := hl.1
  refine ⟨fun vs w' => ∃ j : Nat, vs = [.int .i64 (k + (((others r).take j).countP fun i => has (i - 1) : Nat) : Int), .int .i64 j] ∧ j ≤ (others r).length ∧ Hp w0 w' H' M,
    fun vs _ => match vs with | [_, .int _ q] => 9 - q.toNat | _ => 0, ⟨0, by simp, Nat.zero_le _, hp⟩, ?_⟩
  rintro vs w1 ⟨j, rfl, hj, hp1⟩
  have hcnt : (((others r).take j).countP fun i => has (i - 1)) ≤ 7 := Nat.le_trans List.countP_le_length (by rw [List.length_take]; omega)
  ((repeat apply Exists.intro); refine ⟨rfl, ?_⟩)
  refine wp_bif (fun h => ?_) fun h => ?_
  · have hjl : j < (others r).length := by simp at h; omega
    obtain ⟨b, o2, cs, ha, hcs, hat⟩ := Sl.elem It.len hl hp (List.getElem?_eq_getElem hjl) (by omega)
    have hat1 := hat _ _ hp1 0 1 (by omega)
    cases hcs
    refine ⟨_, ha, ⟨by omega, by omega⟩, ?_⟩
    simp only [add_mk, Int.toNat_natCast]
    rw [Nat.add_zero] at hat1
    (refine wp_load (hat1) ?_; (repeat apply Exists.intro); refine ⟨rfl, ?_⟩)
    have hmem := List.getElem_mem hjl
    obtain ⟨h1, h2, _⟩ := others_mem hmem
    rw [wrap_i64 (by omega) (by omega)]
    refine wp_call (hcall _ _ hle hp1 _ hmem) fun v2 w2 h2 => ?_
    obtain ⟨rfl, hp2⟩ := h2
    ((repeat apply Exists.intro); refine ⟨rfl, ?_⟩)
    have etake : (((others r).take (j + 1)).countP fun i => has (i - 1)) = (((others r).take j).countP fun i => has (i - 1)) + if has ((others r)[j] - 1) = true then 1 else 0 := by
      rw [List.take_succ_eq_append_getElem hjl, List.countP_append, List.countP_singleton]
    refine wp_bif (fun hb => ?_) fun hb => ?_
    · refine ⟨⟨j + 1, ?_, hjl, hp2⟩, ?_⟩
      · rw [etake, if_pos hb, wrap_i64 (by omega) (by omega), wrap_i64 (by omega) (by omega)]
        simp [Int.add_assoc]
      · show 9 - (IntKind.i64.wrap ((j : Int) + 1)).toNat < 9 - (j : Int).toNat
        rw [wrap_i64 (by omega) (by omega)]; omega
    · refine ⟨⟨j + 1, ?_, hjl, hp2⟩, ?_⟩
      · rw [etake, if_neg (by simp [hb]), wrap_i64 (by omega) (by omega)]
        simp
      · show 9 - (IntKind.i64.wrap ((j : Int) + 1)).toNat < 9 - (j : Int).toNat
        rw [wrap_i64 (by omega) (by omega)]; omega
  · have hje : j = (others r).length := by simp at h; omega
    subst hje
    rw [List.take_length] at hcnt
    (refine wp_load (hp1.loadM low.var (by simp [cells20])) ?_; (repeat apply Exists.intro); refine ⟨rfl, ?_⟩)
    refine ⟨?_, hp1.lessH hle⟩
    rw [List.take_length, wrap_i64 (by omega) (by omega)]

theorem most_runs {own : Bool} {f : Nat} {cap : Array Value} {has : Int → Bool} (hp : Hp w0 w H M) (st : St H M s o r q) (hn : r.n ≤ 7) (hcall : Asks w0 H M r f cap has) :
    Runs Try.prog 98 [.pointer (some ⟨s, 0, none⟩), .bool own, .func (.func f) #[] cap] w fun v w' => v = .bool (most r own has) ∧ Hp w0 w' H M := by
  apply r98
  refine wp_bif (fun h => ?_) fun h => ?_
  · subst h
    refine wp_call (others_runs hp st hn) fun v1 w1 h1 => ?_
    obtain ⟨a, n, c, H1, rfl, hp1, hle1, hl1⟩ := h1
    ((repeat apply Exists.intro); refine ⟨rfl, ?_⟩)
    exact mostLoop_wp (k := 1) hp1 hle1 st hn hl1 hcall (by omega)
  · subst h
    refine wp_call (others_runs hp st hn) fun v1 w1 h1 => ?_
    obtain ⟨a, n, c, H1, rfl, hp1, hle1, hl1⟩ := h1
    ((repeat apply Exists.intro); refine ⟨rfl, ?_⟩)
    exact mostLoop_wp (k := 0) hp1 hle1 st hn hl1 hcall (by omega)
end
end Go.Proofs.Ytnbfffmdplcajaa
