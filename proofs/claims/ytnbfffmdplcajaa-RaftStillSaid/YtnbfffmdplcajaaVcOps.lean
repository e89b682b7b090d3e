/- The tree of verification conditions is sound. Part 2: operations that look into memory, and operations that act. -/
import Derived.Test.YtnbfffmdplcajaaVcSound
namespace Go.Vc

section
variable {P : Program} {w : World}

theorem run_loadCells_from (a : Addr) : ∀ (n i : Nat) (vs : List Value) (acc : Array Value), cellsAt w a i n = some vs →
    (loadCellsFrom a i n acc).run P w = .ok (acc ++ vs.toArray) w
  | 0, i, vs, acc, h => by simp only [cellsAt, Option.some.injEq] at h; subst h; simp [loadCellsFrom]
  | n + 1, i, vs, acc, h => by
    simp only [cellsAt] at h
    split at h
    · rename_i v hv
      cases hr : cellsAt w a (i + 1) n with
      | none => simp [hr] at h
      | some r =>
        simp only [hr, Option.map_some, Option.some.injEq] at h
        subst h
        simp only [loadCellsFrom, Sem.run_bind, run_load, hv, Result.andThen_ok, run_loadCells_from a n (i + 1) r _ hr]
        congr 1
        apply Array.ext'
        simp
    · simp at h

theorem run_loadCells {a : Addr} {n : Nat} {vs : List Value} (h : cellsAt w a 0 n = some vs) : (loadCells a n).run P w = .ok vs.toArray w := by
  have := run_loadCells_from (P := P) a n 0 vs #[] h
  simpa [loadCells] using this

theorem cellsAt_length {a : Addr} : ∀ {n i : Nat} {vs : List Value}, cellsAt w a i n = some vs → vs.length = n
  | 0, i, vs, h => by simp only [cellsAt, Option.some.injEq] at h; subst h; rfl
  | n + 1, i, vs, h => by
    simp only [cellsAt] at h
    split at h
    · cases hr : cellsAt w a (i + 1) n with
      | none => simp [hr] at h
      | some r =>
        simp only [hr, Option.map_some, Option.some.injEq] at h
        subst h
        simp [cellsAt_length hr]
    · simp at h

theorem cellsAt_alloc {a : Addr} (o : Obj) : ∀ {n i : Nat} {vs : List Value}, cellsAt w a i n = some vs → cellsAt (w.alloc o) a i n = some vs
  | 0, _, _, h => h
  | n + 1, i, vs, h => by
    simp only [cellsAt] at h ⊢
    split at h
    · rename_i v hv
      have hb := World.block_lt_of_cell? w _ hv
      rw [World.cell?_alloc_lt _ _ _ hb, hv]
      cases hr : cellsAt w a (i + 1) n with
      | none => simp [hr] at h
      | some r => simp only [hr, Option.map_some, Option.some.injEq] at h; simp [cellsAt_alloc o hr, h]
    · simp at h

theorem cellsAt_drew {a : Addr} : ∀ (n i : Nat), cellsAt w.drew a i n = cellsAt w a i n
  | 0, _ => rfl
  | n + 1, i => by simp only [cellsAt, World.cell?_drew, cellsAt_drew n]
theorem readN_drew {a : Option Addr} (n : Nat) : readN w.drew a n = readN w a n := by
  cases a
  · rfl
  · exact cellsAt_drew _ _

theorem run_storeCells (a : Addr) : ∀ (vs : List Value) (i : Nat) (w w' : World), storeW w a i vs = some w' → (storeCells a vs i).run P w = .ok () w'
  | [], i, w, w', h => by simp only [storeW, Option.some.injEq] at h; subst h; rfl
  | v :: vs, i, w, w', h => by
    simp only [storeW] at h
    split at h
    · rename_i hc
      obtain ⟨h1, h2, h3⟩ := hc
      obtain ⟨u, hu⟩ := Option.isSome_iff_exists.1 h2
      simp only [storeCells, Sem.run_bind, run_store P w _ v _ h1, hu, h3, Bool.false_eq_true, if_false, Result.andThen_ok]
      exact run_storeCells a vs (i + 1) _ w' h
    · simp at h

theorem run_firstCells {a : Option Addr} {sz n m c : Nat} {vs : List Value} (h : readN w a (n * sz) = some vs) :
    (Builtin.firstCells sz n (.slice a m c)).run P w = .ok vs.toArray w := by
  cases a with
  | none => simp only [readN, Option.some.injEq] at h; subst h; simp [Builtin.firstCells]
  | some a => simpa [Builtin.firstCells] using run_loadCells h
end

/-! ### whatever cells they be -/
section
variable {P : Program} {R : Value → World → Prop} {env : Nat → List Value → World → Prop} {w : World}

theorem exCells_wp : ∀ (zs : List Value) (k : List Value → VC), (exCells zs k).wp P R env w → ∃ us, us.length = zs.length ∧ (∀ u ∈ us, isU u = false) ∧ (k us).wp P R env w
  | [], k, h => ⟨[], rfl, by simp, h⟩
  | z :: r, k, h => by
    cases z <;> simp only [exCells] at h
    case int kd _ =>
      obtain ⟨n, h⟩ := h
      obtain ⟨us, hl, hu, hk⟩ := exCells_wp r _ h
      exact ⟨_, by simp [hl], by intro u hm; rcases List.mem_cons.1 hm with e | e; (· subst e; rfl); (· exact hu u e), hk⟩
    case bool _ =>
      obtain ⟨n, h⟩ := h
      obtain ⟨us, hl, hu, hk⟩ := exCells_wp r _ h
      exact ⟨_, by simp [hl], by intro u hm; rcases List.mem_cons.1 hm with e | e; (· subst e; rfl); (· exact hu u e), hk⟩
    case slice _ _ _ =>
      obtain ⟨a, n, c, h⟩ := h
      obtain ⟨us, hl, hu, hk⟩ := exCells_wp r _ h
      exact ⟨_, by simp [hl], by intro u hm; rcases List.mem_cons.1 hm with e | e; (· subst e; rfl); (· exact hu u e), hk⟩
    case pointer _ =>
      obtain ⟨n, h⟩ := h
      obtain ⟨us, hl, hu, hk⟩ := exCells_wp r _ h
      exact ⟨_, by simp [hl], by intro u hm; rcases List.mem_cons.1 hm with e | e; (· subst e; rfl); (· exact hu u e), hk⟩
    case string _ =>
      obtain ⟨n, h⟩ := h
      obtain ⟨us, hl, hu, hk⟩ := exCells_wp r _ h
      exact ⟨_, by simp [hl], by intro u hm; rcases List.mem_cons.1 hm with e | e; (· subst e; rfl); (· exact hu u e), hk⟩
    all_goals exact h.elim

theorem exV_wp {z : Value} {k : Value → VC} (h : (exV z k).wp P R env w) : ∃ v, isU v = false ∧ (k v).wp P R env w := by
  have one : ∀ z : Value, (exCells [z] fun vs => match vs with | [v] => k v | _ => .fail).wp P R env w → ∃ v, isU v = false ∧ (k v).wp P R env w := by
    intro z h
    obtain ⟨us, hl, hu, hk⟩ := exCells_wp _ _ h
    match us, hl with
    | [u], _ => exact ⟨u, hu u (by simp), hk⟩
  unfold exV at h
  split at h
  · obtain ⟨us, _, _, hk⟩ := exCells_wp _ _ h
    exact ⟨_, rfl, hk⟩
  · exact h.elim
  · exact one _ h

theorem exVs_wp : ∀ (zs : List Value) (k : List Value → VC), (exVs zs k).wp P R env w → ∃ vs, vs.length = zs.length ∧ (k vs).wp P R env w
  | [], k, h => ⟨[], rfl, h⟩
  | z :: r, k, h => by
    obtain ⟨v, _, h⟩ := exV_wp h
    obtain ⟨vs, hl, hk⟩ := exVs_wp r _ h
    exact ⟨v :: vs, by simp [hl], hk⟩

theorem exT_wp {t : TypeId} {k : Value → VC} (h : (exT P t k).wp P R env w) : ∃ v, (k v).wp P R env w := by
  unfold exT at h
  split at h
  · split at h
    · obtain ⟨vs, _, hk⟩ := exVs_wp _ _ h
      exact ⟨_, hk⟩
    · exact h.elim
  · split at h
    · obtain ⟨v, _, hk⟩ := exV_wp h
      exact ⟨v, hk⟩
    · exact h.elim

theorem loadV_wp {t : TypeId} {a : Addr} {k : Value → Option (Addr × List Value) → VC} (h : (loadV P t a k).wp P R env w) :
    ∃ v us, isU v = false ∧ cellsAt w a 0 us.length = some us ∧ (∀ w', cellsAt w' a 0 us.length = some us → (loadVar t a).run P w' = .ok v w') ∧ (k v (some (a, us))).wp P R env w := by
  unfold loadV at h
  split at h
  · rename_i i d hi hu
    split at h
    · rename_i z hz
      split at h
      · obtain ⟨vs, hc, h⟩ := h
        obtain ⟨us, _, _, he, hk⟩ := exCells_wp _ _ h
        subst he
        have hl := cellsAt_length hc
        refine ⟨_, vs, rfl, by rw [hl]; exact hc, fun w' hw' => ?_, hk⟩
        rw [hl] at hw'
        simp [loadVar, isAgg, run_underlying hu, sizeOf, typeInfo, hi, run_loadCells hw']
      · exact h.elim
      · rename_i h1 h2
        obtain ⟨vs, hc, h⟩ := h
        obtain ⟨us, hl, hun, hk⟩ := exCells_wp _ _ h
        match us, hl with
        | [u], _ =>
          obtain ⟨rfl, hk⟩ := hk
          refine ⟨u, [u], hun u (by simp), hc, fun w' hw' => ?_, hk⟩
          have hcell : w'.cell? a = some u := by
            simp only [List.length_singleton, cellsAt] at hw'
            split at hw'
            · rename_i v hv
              simp at hw'; subst hw'
              simpa [Addr.add] using hv
            · simp at hw'
          have hagg : (isAgg t).run P w' = .ok false w' := by
            cases d <;> first
              | (exfalso; exact h1 _ rfl)
              | (exfalso; exact h2 _ _ rfl)
              | simp [isAgg, run_underlying hu]
          simp [loadVar, hagg, hcell]
    · exact h.elim
  · exact h.elim

theorem bound_wp {t : List Value} {a : Act} (hr : Ref t a.tmps) {o : Option Operand} {d top : Nat} {code : BoundsCode} {k : Nat → VC} (h : (bound (ev t) o d top k).wp P R env w) :
    ∃ n, (k n).wp P R env w ∧ ∀ w', (match o.map a.eval with | some v => Instr.sliceBound v top code | none => pure d : Sem Nat).run P w' = .ok n w' := by
  unfold bound at h
  split at h
  · exact ⟨d, h, fun _ => rfl⟩
  · rename_i x
    split at h
    · rename_i k' i hx
      obtain ⟨⟨h0, h1⟩, hk⟩ := h
      refine ⟨_, hk, fun w' => ?_⟩
      simp [hr.ev_eq hx rfl, Instr.sliceBound, asIntOf, h0, h1]
    · exact h.elim

/-- What an operation that looks has looked at still lies there. -/
def Held (w : World) (h : List (Option (Addr × List Value))) : Prop := ∀ x ∈ h, ∃ p, x = some p ∧ cellsAt w p.1 0 p.2.length = some p.2

theorem bytes_fold (s : ByteArray) : (s.data.toList.map fun b => (b.toNat : Int)).foldl (fun r n => r.push (UInt8.ofNat n.toNat)) ByteArray.empty = s := by
  rw [foldl_push_bytes]
  cases s with
  | mk d =>
    congr 1
    apply Array.ext'
    simp [Function.comp_def]

theorem genF_sound {t : List Value} {a : Act} (hr : Ref t a.tmps) {o : Oper} {k : Value → List (Option (Addr × List Value)) → VC} (h : (genF P (ev t) o.op k).wp P R env w) :
    ∃ v v' hs, (isU v' = true ∨ v = v') ∧ (execOp a.eval o).run P w = .ok (.value v) w ∧ (∀ w', Held w' hs → (execOp a.eval o).run P w' = .ok (.value v) w') ∧
      (∀ p, some p ∈ hs → cellsAt w p.1 0 p.2.length = some p.2) ∧ (k v' hs).wp P R env w := by
  unfold genF at h
  split at h
  · rename_i v' hp
    obtain ⟨v, hv, hrun⟩ := pureOp_sound hr hp
    exact ⟨v, v', [], hv, hrun w, fun w' _ => hrun w', by simp, h⟩
  · rename_i hn0
    clear hn0
    obtain ⟨dst, op, ty, pos, after, guard⟩ := o
    simp only at h
    split at h
    · rename_i t' x
      split at h
      · rename_i ad hx
        obtain ⟨v, us, hun, hc, hrun, hk⟩ := loadV_wp h
        have hrun' : ∀ w', cellsAt w' ad 0 us.length = some us → (execOp a.eval ⟨dst, .load t' x, ty, pos, after, guard⟩).run P w' = .ok (.value v) w' := fun w' hw' => by
          simp [execOp, Instr.loadAt, hr.ev_eq hx rfl, Instr.sureAddr, hrun w' hw']
        refine ⟨v, v, [some (ad, us)], .inr rfl, hrun' w hc, fun w' hh => ?_, ?_, hk⟩
        · obtain ⟨p, hp, hcc⟩ := hh (some (ad, us)) (by simp)
          cases hp
          exact hrun' w' hcc
        · intro p hp
          simp at hp
          subst hp
          exact hc
      · exact h.elim
    · rename_i t' x ix
      split at h
      · rename_i e base len cp ik i hu hx hix
        split at h
        · rename_i ie hie
          obtain ⟨ad, rfl, ⟨h0, h1⟩, hk⟩ := h
          have hrun' : ∀ w', (execOp a.eval ⟨dst, .indexAddr t' x ix, ty, pos, after, guard⟩).run P w' = .ok (.value (.pointer (some (ad.add (i.toNat * ie.size))))) w' := fun w' => by
            simp [execOp, Instr.indexAt, run_underlying hu, hr.ev_eq hx rfl, hr.ev_eq hix rfl, asIntOf, h0, h1, sizeOf, typeInfo, hie]
          exact ⟨_, _, [], .inr rfl, hrun' w, fun w' _ => hrun' w', by simp, hk⟩
        · exact h.elim
      · exact h.elim
    · rename_i t' x lo hi mx
      split at h
      · rename_i e ad n c hu hx
        split at h
        · rename_i ie hie
          split at h
          · exact h.elim
          · rename_i hmh
            obtain ⟨m, h, hrunm⟩ := bound_wp (code := .slice3Acap) hr h
            obtain ⟨hh, h, hrunh⟩ := bound_wp (code := if mx.isSome then .slice3B else .sliceAcap) hr h
            obtain ⟨l, hk, hrunl⟩ := bound_wp (code := if mx.isSome then .slice3C else .sliceB) hr h
            have hrun' : ∀ w', (execOp a.eval ⟨dst, .slice t' x lo hi mx, ty, pos, after, guard⟩).run P w' = .ok (.value (.slice (if m = l then ad else ad.map (·.add (l * ie.size))) (hh - l) (m - l))) w' := fun w' => by
              have h0 := hrunm w'
              have h1 := hrunh w'
              have h2 := hrunl w'
              have hsb : (Instr.sliceBounds true n c (lo.map a.eval) (hi.map a.eval) (mx.map a.eval)).run P w' = .ok (l, hh, m) w' := by
                unfold Instr.sliceBounds
                cases mx with
                | none =>
                  simp only [Option.map_none, Sem.run_pure, Result.ok.injEq, and_true, Option.isSome_none, Bool.false_eq_true, if_false] at h0 h1 h2
                  subst h0
                  cases hi <;> cases lo <;> simp only [Option.map_none, Option.map_some, Sem.run_pure, Result.ok.injEq, and_true] at h1 h2 <;> simp [h1, h2]
                | some mx =>
                  simp only [Option.map_some, Option.isSome_some, if_true] at h0 h1 h2
                  cases hi with
                  | none => simp at hmh
                  | some hi => cases lo <;> simp only [Option.map_none, Option.map_some, Sem.run_pure, Result.ok.injEq, and_true] at h1 h2 <;> simp [h0, h1, h2]
              simp [execOp, Instr.sliceAt, run_underlying hu, hr.ev_eq hx rfl, Instr.slice, hsb, sizeOf, typeInfo, hie]
            exact ⟨_, _, [], .inr rfl, hrun' w, fun w' _ => hrun' w', by simp, hk⟩
        · exact h.elim
      · exact h.elim
    · rename_i xt x y yt
      split at h
      · rename_i kx p ky q hx hy
        split at h
        · rename_i hk2
          obtain ⟨hne, hk⟩ := h
          subst hk2
          have hrun' : ∀ w', (execOp a.eval ⟨dst, .binOp .rem xt x y yt, ty, pos, after, guard⟩).run P w' = .ok (.value (.int kx (p.tmod q))) w' := fun w' => by
            simp [execOp, hr.ev_eq hx rfl, hr.ev_eq hy rfl, eqGuard, binOp, Op.intDiv, hne]
          exact ⟨_, _, [], .inr rfl, hrun' w, fun w' _ => hrun' w', by simp, hk⟩
        · exact h.elim
      · exact h.elim
    · rename_i src dst' x
      split at h
      · rename_i e ad n c hs hd hx
        split at h
        · rename_i he
          obtain ⟨s, hc, hk⟩ := h
          refine ⟨.string s, .string s, [none], .inr rfl, ?_, fun w' hh => ?_, by simp, hk⟩
          · simp only [execOp, hr.ev_eq hx rfl, Sem.run_bind, run_convert_bytes_string w src dst' e _ n c hs he hd]
            cases ad with
            | none =>
              simp only [readN, Option.some.injEq] at hc
              have : s = ByteArray.empty := by
                cases s with
                | mk d =>
                  have hd : d = #[] := by simpa using hc.symm
                  subst hd; rfl
              subst this
              simp [Conv.bytesToString]
            | some ad =>
              have hl := run_loadCells (P := P) hc
              rw [run_bytesToString w ad n c (s.data.toList.map fun b => (b.toNat : Int)) (by rw [hl]; simp [Function.comp_def]), bytes_fold]
              rfl
          · obtain ⟨p, hp, _⟩ := hh _ (List.mem_singleton.2 rfl)
            cases hp
        · exact h.elim
      · exact h.elim
    · exact h.elim

theorem wp_of_value {o : Oper} {a : Act} {w w' : World} {v : Value} {K : Act → World → Prop} {Q : Exit → Act → World → Prop}
    (h : (execOp a.eval o).run P w = .ok (.value v) w') (hK : K (a.put o.dst v) w') : o.wp P a w K Q := by
  unfold Oper.wp; rw [h]; exact hK

theorem mapM_known {t : List Value} {a : Act} (hr : Ref t a.tmps) {parts : List (Nat × Operand)} (hn : ¬ (parts.any fun p => isU (ev t p.2)) = true) :
    (parts.map fun (i, x) => (i, a.eval x)) = parts.map fun p => (p.1, ev t p.2) :=
  List.map_congr_left fun p hp => by
    have := (hr.ev p.2).resolve_left fun e => hn (List.any_eq_true.2 ⟨p, hp, e⟩)
    simp [this]

/-- What follows an operation that acts. -/
def After (P : Program) (R : Value → World → Prop) (env : Nat → List Value → World → Prop) (w : World) (o : Oper) (a : Act) (k : Value → Bool → VC) (a' : Act) (w' : World) : Prop :=
  ∃ v v' plain, (isU v' = true ∨ v = v') ∧ a' = a.put o.dst v ∧ (plain = true → ∃ obj, w' = w.alloc obj) ∧ (k v' plain).wp P R env w'

theorem append_sound {t ty e : TypeId} {i : TypeInfo} {z : Value} (ht : P.underlying t = some (.slice e)) {t2 e2 : TypeId} (ht2 : P.underlying t2 = some (.slice e2)) (hi : P.info? e = some i) (hz : i.zero = some z)
    {sa : Option Addr} {sn sc : Nat} {xa : Option Addr} {xn xc : Nat} {K : Option Addr → Nat → Nat → World → Prop} (h : AppendTo w e i.size i.bytes z.cells.toList sa sn sc xa xn K) :
    ∃ a' n' c' w', (Builtin.append_ #[t, t2] ty #[.slice sa sn sc, .slice xa xn xc]).run P w = .ok (.slice a' n' c') w' ∧ K a' n' c' w' := by
  obtain ⟨new, hnew, hroom, hgrow⟩ := h
  by_cases hc : sn + xn ≤ sc
  · obtain ⟨w', hst, hK⟩ := hroom hc
    refine ⟨sa, sn + xn, sc, w', ?_, hK⟩
    have hf := run_firstCells (P := P) (sz := i.size) (n := xn) (m := xn) (c := xc) hnew
    cases sa with
    | none =>
      simp only [Option.some.injEq] at hst
      subst hst
      simp [Builtin.append_, run_underlying ht, run_underlying ht2, sizeOf, typeInfo, hi, Builtin.lenOf, hc, hf]
    | some ad =>
      have hs := run_storeCells (P := P) _ _ _ _ _ hst
      simp [Builtin.append_, run_underlying ht, run_underlying ht2, sizeOf, typeInfo, hi, Builtin.lenOf, hc, hf, hs]
  · obtain ⟨old, hold, hb, hfit, hK⟩ := hgrow hc
    have hfo := run_firstCells (P := P) (sz := i.size) (n := sn) (m := sn) (c := sc) (w := w.drew) (vs := old) (by rw [readN_drew]; exact hold)
    have hf := run_firstCells (P := P) (sz := i.size) (n := xn) (m := xn) (c := xc) (w := w.drew) (vs := new) (by rw [readN_drew]; exact hnew)
    have h48 : ¬ (281474976710656 < Builtin.nextslicecap (sn + xn) sc * i.bytes) := by
      have : (2 : Nat) ^ 48 = 281474976710656 := by decide
      omega
    have hb0 : i.bytes ≠ 0 := by omega
    refine ⟨_, _, _, _, ?_, hK (grownCap w (sn + xn) sc e) (grownCap_ge w _ _ e)⟩
    simp [Builtin.append_, run_underlying ht, run_underlying ht2, sizeOf, typeInfo, zeroValue, hi, hz, Builtin.lenOf, hc, h48, hb0, Question.forced, hf, hfo, newRow, grownCap, zeros]
    congr 2
    apply Array.ext'
    simp [List.append_assoc]

set_option maxHeartbeats 1000000 in
theorem genE_sound {t : List Value} {a : Act} (hr : Ref t a.tmps) {o : Oper} {k : Value → Bool → VC} (h : (genE P (ev t) o k).wp P R env w) {Q : Exit → Act → World → Prop} :
    o.wp P a w (After P R env w o a k) Q := by
  unfold genE at h
  split at h
  case h_1 ty x y hop =>
    split at h
    · rename_i i ad hi hx
      split at h
      · exact h.elim
      · rename_i hn
        simp only [not_or, Bool.not_eq_true, Decidable.not_not] at hn
        obtain ⟨hu, hsz⟩ := hn
        obtain ⟨w', hst, hk⟩ := h
        have hy : a.eval y = ev t y := (hr.ev y).resolve_left (by simp [hu])
        unfold Oper.wp
        have hrun : (execOp a.eval o).run P w = .ok .skip w' := by
          have := run_storeCells (P := P) _ _ _ _ _ hst
          simp [execOp, hop, Instr.storeAt, hr.ev_eq hx rfl, Instr.sureAddr, storeVar, sizeOf, typeInfo, hi, hy, hsz, this]
        rw [hrun]
        exact ⟨undef, undef, false, .inr rfl, rfl, by simp, hk⟩
    · exact h.elim
  case h_2 e hop =>
    split at h
    · rename_i z hz
      have hz' : (zeroValue e).run P w = .ok z w := by
        simp only [zeroOf, Option.bind_eq_some_iff] at hz
        obtain ⟨i, hi, hz⟩ := hz
        simp [zeroValue, typeInfo, hi, hz]
      refine wp_of_value (v := .pointer (some ⟨w.heap.size, 0, none⟩)) (w' := w.alloc (.cells z.cells e)) ?_ ⟨_, _, true, .inr rfl, rfl, fun _ => ⟨_, rfl⟩, ?_⟩
      · simp [execOp, hop, Instr.alloc, hz', newVar, newRow]
      · have h' : (k (.pointer (some ⟨w.heap.size, 0, none⟩)) true).wp P R env (w.alloc (.cells z.cells.toList.toArray e)) := h
        simpa using h'
    · exact h.elim
  case h_3 e x hop =>
    split at h
    · exact h.elim
    · rename_i hu
      have hx : a.eval x = ev t x := (hr.ev x).resolve_left hu
      refine wp_of_value (v := .pointer (some ⟨w.heap.size, 0, none⟩)) (w' := w.alloc (.cells (ev t x).cells e)) ?_ ⟨_, _, true, .inr rfl, rfl, fun _ => ⟨_, rfl⟩, ?_⟩
      · simp [execOp, hop, Instr.box, hx, newVar, newRow]
      · have h' : (k (.pointer (some ⟨w.heap.size, 0, none⟩)) true).wp P R env (w.alloc (.cells (ev t x).cells.toList.toArray e)) := h
        simpa using h'
  case h_4 ty len parts hop =>
    split at h
    · rename_i e hu
      split at h
      · rename_i ie z hie hz
        split at h
        · exact h.elim
        · rename_i hn
          simp only [not_or, gt_iff_lt, Nat.not_lt] at hn
          obtain ⟨hlen, hkn⟩ := hn
          split at h
          · rename_i cells hf
            have hz' : (zeroValue e).run P w = .ok z w := by
              simp only [zeroOf, hie, Option.bind_some] at hz
              simp [zeroValue, typeInfo, hie, hz]
            have hparts : (parts.map fun (i, x) => (i, a.eval x)).toList = parts.toList.map fun p => (p.1, ev t p.2) := by
              rw [Array.toList_map]; exact mapM_known hr hkn
            have hparts2 : (parts.toList.map fun x => (x.1, a.eval x.2)) = parts.toList.map fun p => (p.1, ev t p.2) := mapM_known hr hkn
            refine wp_of_value (v := .slice (some ⟨w.heap.size, 0, none⟩) len len) (w' := w.alloc (.cells cells e)) ?_ ⟨_, _, true, .inr rfl, rfl, fun _ => ⟨_, rfl⟩, ?_⟩
            · have hlen' : ¬ (16777216 < len * ie.size) := by
                have : (2 : Nat) ^ 24 = 16777216 := by decide
                omega
              by_cases h0 : len * ie.size = 0
              · have hf0 : Instr.fill (fun i => some (i * ie.size, ie.size)) #[] (parts.toList.map fun p => (p.1, ev t p.2)) = some cells := by
                  simpa [h0, Array.range_zero'] using hf
                simp [execOp, hop, Instr.buildSlice, run_underlying hu, sizeOf, typeInfo, hie, h0, hparts2, hf0, newRow, Array.range_zero']
              · simp [execOp, hop, Instr.buildSlice, run_underlying hu, sizeOf, typeInfo, hie, h0, hlen', hz', hparts2, hf, newRow]
            · have h' : (k (.slice (some ⟨w.heap.size, 0, none⟩) len len) true).wp P R env (w.alloc (.cells cells.toList.toArray e)) := h
              simpa using h'
          · exact h.elim
      · exact h.elim
    · exact h.elim
  case h_5 ty l c hop =>
    split at h
    · rename_i e n n' hu hl hc
      split at h
      · rename_i ie z hie hz
        split at h
        · exact h.elim
        · rename_i hn
          simp only [not_or, Decidable.not_not] at hn
          obtain ⟨hs0, hzs⟩ := hn
          obtain ⟨rfl, h0, h48, h63, hk⟩ := h
          have hz' : ie.zero = some z := by simpa [zeroOf, hie] using hz
          have hrun := run_make (P := P) w ty e ie z hu hie hz' .i64 .i64 n' n' h0 (Int.le_refl _) (by
            have : (2 : Int) ^ 48 = 281474976710656 := by decide
            omega) h63
          have hcells : madeCells z.cells (n'.toNat * ie.size) = zeros z.cells.toList n'.toNat := by
            simp [madeCells, zeros, Builtin.zeroCells, hzs]
          rw [hcells] at hrun
          refine wp_of_value (v := .slice (some ⟨w.heap.size, 0, none⟩) n'.toNat n'.toNat) (w' := w.alloc (.cells (zeros z.cells.toList n'.toNat) e)) ?_ ⟨_, _, true, .inr rfl, rfl, fun _ => ⟨_, rfl⟩, hk⟩
          simp [execOp, hop, hr.ev_eq hl rfl, hr.ev_eq hc rfl, hrun]
      · exact h.elim
    · exact h.elim
  case h_6 src dst x hop =>
    split at h
    · rename_i e1 e2 ad n c hs hd hx
      split at h
      · rename_i he
        split at h
        · rename_i hsd
          subst hsd
          refine wp_of_value (v := .slice (some ad) n c) (w' := markW w ad) ?_ ⟨_, _, false, .inr rfl, rfl, by simp, h⟩
          have he1 : e1 = e2 := by rw [hs] at hd; simpa using hd
          subst he1
          have hm : (markStringish ad).run P w = .ok () (markW w ad) := by
            unfold markStringish markW
            simp only [Sem.run_bind, run_shape, Result.andThen_ok]
            cases hsh : w.shape? ad.block with
            | none => simp
            | some p => cases p; simp
          simp [execOp, hop, hr.ev_eq hx rfl, convert, run_underlying hs, run_underlying he, hm]
        · exact h.elim
      · exact h.elim
    · exact h.elim
  case h_7 c hop =>
    obtain ⟨callee, args, argTypes⟩ := c
    simp only at h
    split at h
    · -- append
      split at h
      · rename_i sa sn sc xa xn xc e e2 hargs ht ht2
        split at h
        · rename_i ie z hie hz
          have hz' : ie.zero = some z := by simpa [zeroOf, hie] using hz
          cases h1 : argTypes[0]? with
          | none => simp [h1] at ht
          | some t1 =>
            cases h2 : argTypes[1]? with
            | none => simp [h2] at ht2
            | some t2 =>
              have ht' : P.underlying t1 = some (.slice e) := by simpa [h1] using ht
              have ht2' : P.underlying t2 = some (.slice e2) := by simpa [h2] using ht2
              obtain ⟨a', n', c', w', hrun, hk⟩ := append_sound (ty := o.type) (xc := xc) ht' ht2' hie hz' h
              have ha : args.map a.eval = #[.slice sa sn sc, .slice xa xn xc] := by
                apply Array.ext'
                rw [Array.toList_map]
                show _ = [Value.slice sa sn sc, .slice xa xn xc]
                rw [← hargs]
                refine List.map_congr_left fun x hx => (hr.ev x).resolve_left ?_
                have : ev t x ∈ [Value.slice sa sn sc, .slice xa xn xc] := by rw [← hargs]; exact List.mem_map.2 ⟨x, hx, rfl⟩
                simp only [List.mem_cons, List.not_mem_nil, or_false] at this
                rcases this with e | e <;> rw [e] <;> simp [isU]
              have hat : (Builtin.append_ argTypes o.type #[.slice sa sn sc, .slice xa xn xc]).run P w = (Builtin.append_ #[t1, t2] o.type #[.slice sa sn sc, .slice xa xn xc]).run P w := by
                unfold Builtin.append_
                simp only [h1, h2]
                rfl
              refine wp_of_value (v := .slice a' n' c') (w' := w') ?_ ⟨_, _, false, .inr rfl, rfl, by simp, hk⟩
              simp [execOp, hop, resolve, invoke, builtin, ha, hat, hrun]
        · exact h.elim
      · exact h.elim
    · -- clear
      split at h
      · rename_i sa sn sc e hargs ht
        split at h
        · rename_i z hz
          obtain ⟨w', hcl, hk⟩ := h
          cases h1 : argTypes[0]? with
          | none => simp [h1] at ht
          | some t1 =>
            have ht' : P.underlying t1 = some (.slice e) := by simpa [h1] using ht
            have hz' : ∀ w : World, (zeroValue e).run P w = .ok z w := fun w => by
              simp only [zeroOf, Option.bind_eq_some_iff] at hz
              obtain ⟨i, hi, hz⟩ := hz
              simp [zeroValue, typeInfo, hi, hz]
            have ha : args.map a.eval = #[.slice sa sn sc] := by
              apply Array.ext'
              rw [Array.toList_map]
              show _ = [Value.slice sa sn sc]
              rw [← hargs]
              refine List.map_congr_left fun x hx => (hr.ev x).resolve_left ?_
              have : ev t x ∈ [Value.slice sa sn sc] := by rw [← hargs]; exact List.mem_map.2 ⟨x, hx, rfl⟩
              rw [List.mem_singleton] at this
              rw [this]; simp [isU]
            have hrun : (Builtin.clear_ argTypes o.type #[.slice sa sn sc]).run P w = .ok (.tuple #[]) w' := by
              unfold clearW at hcl
              cases sa with
              | none =>
                simp only [Option.some.injEq] at hcl
                subst hcl
                simp [Builtin.clear_, h1, run_underlying ht']
              | some ad =>
                simp only at hcl
                cases sn with
                | zero =>
                  have e0 : (zeros z.cells.toList 0).toList = [] := by simp [zeros, Builtin.zeroCells]
                  rw [e0] at hcl
                  simp only [storeW, Option.some.injEq] at hcl
                  subst hcl
                  simp [Builtin.clear_, h1, run_underlying ht']
                | succ n =>
                  have hst := run_storeCells (P := P) _ _ _ _ _ hcl
                  have e0 : (zeros z.cells.toList (n + 1)) = Builtin.zeroCells z.cells (n + 1) := by simp [zeros]
                  rw [e0] at hst
                  simp [Builtin.clear_, h1, run_underlying ht', hz', hst]
            refine wp_of_value (v := .tuple #[]) (w' := w') ?_ ⟨_, undef, false, .inr rfl, rfl, by simp, hk⟩
            simp [execOp, hop, resolve, invoke, builtin, ha, hrun]
        · exact h.elim
      · exact h.elim
    · rename_i f
      split at h
      · rename_i g first caps hf
        split at h
        · exact h.elim
        · rename_i hn
          obtain ⟨⟨fn, hfn, hbody, hname⟩, hcalls⟩ := h
          have ha : (args.map a.eval).toList = args.toList.map (ev t) := by
            rw [Array.toList_map]
            exact map_ev hr (by simpa using hn)
          have hbody' : fn.body ≠ none := by intro e; rw [e] at hbody; cases hbody
          have hname' : fn.name ≠ ("runtime.NumGoroutine") := by simpa using hname
          have hrun : (execOp a.eval o).run P w = .ok (.enter g (first ++ args.map a.eval ++ caps)) w := by
            simp [execOp, hop, resolve, hr.ev_eq hf rfl, Deferred.ofValue, invoke, callFunc, hfn, hname', hbody']
          have harr : (first.toList ++ (args.toList.map (ev t)) ++ caps.toList).toArray = first ++ args.map a.eval ++ caps := by
            apply Array.ext'
            simp only [Array.toList_append, ha]
          unfold Oper.wp
          rw [hrun, Oper.upon_enter, ← harr]
          refine Calls.mono hcalls fun e w'' he => ?_
          obtain ⟨v, rfl, hv⟩ := he
          split at hv
          · split at hv
            · obtain ⟨hv1, hv⟩ := hv
              simp only [List.cons.injEq, and_true] at hv1
              exact ⟨v, undef, false, .inr hv1, rfl, by simp, hv⟩
            · obtain ⟨v', hv1, hv⟩ := exT_wp hv
              simp only [List.cons.injEq, and_true] at hv1
              subst hv1
              exact ⟨v, v, false, .inr rfl, rfl, by simp, hv⟩
          · obtain ⟨v', hv1, hv⟩ := exT_wp hv
            simp only [List.cons.injEq, and_true] at hv1
            subst hv1
            exact ⟨v, v, false, .inr rfl, rfl, by simp, hv⟩
      · exact h.elim
    · exact h.elim
  case h_8 => exact h.elim
end
end Go.Vc
