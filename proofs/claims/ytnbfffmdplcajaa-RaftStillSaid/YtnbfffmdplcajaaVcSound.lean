/- The tree of verification conditions is sound: what it says of a function's text holds of every run of it. Part 1: operations. -/
import Derived.Test.YtnbfffmdplcajaaVc
namespace Go.Vc
open Go.Region (wanted)

theorem forceV_eq (v : Value) (k : Value → VC) : forceV v k = k v := by cases v <;> rfl
theorem forceL_eq : ∀ (l : List Value) (k : List Value → VC), forceL l k = k l
  | [], _ => rfl
  | v :: vs, k => by simp only [forceL, forceV_eq, forceL_eq vs]
theorem forceN_eq (n : Nat) (k : Nat → VC) : forceN n k = k n := by cases n <;> rfl
theorem setC_eq : ∀ (t : List Value) (d : Nat) (v : Value) (k : List Value → VC), setC t d v k = k (t.set d v)
  | [], _, _, _ => rfl
  | _ :: _, 0, _, _ => rfl
  | x :: xs, n + 1, v, k => by simp only [setC, setC_eq xs, List.set_cons_succ]
theorem setK_eq (t : List Value) (d : Option Tmp) (v : Value) (k : List Value → VC) : setK t d v k = k (setT t d v) := by
  cases d <;> simp only [setK, setT, forceV_eq, setC_eq]

/-- What is known of the slots: each is unknown or as it says. -/
structure Ref (t : List Value) (s : Array Value) : Prop where
  len : t.length = s.size
  at_ : ∀ i, isU (t.getD i undef) = true ∨ s.getD i undef = t.getD i undef

theorem isU_undef : isU undef = false := rfl

theorem Ref.ev {t : List Value} {a : Act} (h : Ref t a.tmps) (x : Operand) : isU (ev t x) = true ∨ a.eval x = ev t x := by
  cases x with
  | tmp i => exact h.at_ i
  | const v => exact .inr rfl
  | global g => exact .inr rfl
  | func f => exact .inr rfl

theorem Ref.ev_eq {t : List Value} {a : Act} (h : Ref t a.tmps) {x : Operand} {v : Value} (hv : Vc.ev t x = v) (hu : isU v = false) : a.eval x = v := by
  rcases h.ev x with e | e
  · rw [hv, hu] at e; cases e
  · rw [e, hv]

theorem Ref.put {t : List Value} {a : Act} (h : Ref t a.tmps) {v v' : Value} (hv : isU v' = true ∨ v = v') (d : Option Tmp) : Ref (setT t d v') (a.put d v).tmps := by
  cases d with
  | none => exact h
  | some d =>
    refine ⟨by simp [setT, Act.put, h.len], fun i => ?_⟩
    simp only [setT, Act.put]
    by_cases hd : d = i
    · subst hd
      by_cases hl : d < t.length
      · have hs : d < a.tmps.size := by rw [← h.len]; exact hl
        simp only [List.getD_eq_getElem?_getD, List.getElem?_set_self hl, Option.getD_some, Array.getD_eq_getD_getElem?, Array.getElem?_setIfInBounds_self_of_lt hs]
        exact hv
      · have hs : ¬ d < a.tmps.size := by rw [← h.len]; exact hl
        right
        rw [List.getD_eq_getElem?_getD, List.getElem?_eq_none (by simpa using hl), Array.getD_eq_getD_getElem?, Array.getElem?_eq_none (by simpa using hs)]
    · have := h.at_ i
      simp only [List.getD_eq_getElem?_getD, List.getElem?_set_ne hd, Array.getD_eq_getD_getElem?, Array.getElem?_setIfInBounds_ne hd] at this ⊢
      exact this

theorem Ref.setKnown {t : List Value} {s : Array Value} (h : Ref t s) {d : Nat} {v : Value} (hv : s.getD d undef = v) (hd : d < t.length) : Ref (t.set d v) s := by
  refine ⟨by simp [h.len], fun i => ?_⟩
  by_cases hi : d = i
  · subst hi
    right
    simp only [List.getD_eq_getElem?_getD, List.getElem?_set_self hd, Option.getD_some]
    exact hv
  · have := h.at_ i
    simp only [List.getD_eq_getElem?_getD, List.getElem?_set_ne hi] at this ⊢
    exact this

theorem isU_int (k : IntKind) (n : Int) : isU (.int k n) = false := rfl

/-! ### pure operations -/
section
variable {P : Program} {w : World}

theorem sameInts_run (d : Nat) (X Y : Array Value) : ∀ (fs : List Field) (xs ys : List Value) (n : Nat) (r : Bool), sameInts P fs xs ys = some r →
    offsetsFrom n fs = true → (∀ j, j < fs.length → X[n + j]? = xs[j]? ∧ Y[n + j]? = ys[j]?) → (Op.eqFields (d + 1) X Y fs).run P w = .ok r w := by
  intro fs
  induction fs with
  | nil =>
    intro xs ys n r h _ _
    cases xs <;> cases ys <;> simp [sameInts] at h
    subst h
    rfl
  | cons f fs ih =>
    intro xs ys n r h ho hc
    cases xs with
    | nil => simp [sameInts] at h
    | cons x xs =>
      cases ys with
      | nil => cases x <;> simp [sameInts] at h
      | cons y ys =>
        have hoff : f.offset = n := by simp [offsetsFrom] at ho; exact ho.1
        have ho' : offsetsFrom (n + 1) fs = true := by simp [offsetsFrom] at ho; exact ho.2
        have h0 := hc 0 (by simp)
        simp only [Nat.add_zero, List.getElem?_cons_zero] at h0
        have hc' : ∀ j, j < fs.length → X[n + 1 + j]? = xs[j]? ∧ Y[n + 1 + j]? = ys[j]? := fun j hj => by
          have := hc (j + 1) (by simp; omega)
          simpa [Nat.add_assoc, Nat.add_comm 1 j] using this
        have fin : ∀ b : Bool, (isAgg f.type).run P w = .ok false w → (Op.equalIn (d + 1) f.type x y).run P w = .ok b w → f.name ≠ "_" →
            ((sameInts P fs xs ys).map fun r => b && r) = some r → (Op.eqFields (d + 1) X Y (f :: fs)).run P w = .ok r w := by
          intro b hagg he hn h
          cases hr : sameInts P fs xs ys with
          | none => simp [hr] at h
          | some r' =>
            simp only [hr, Option.map_some, Option.some.injEq] at h
            have p1 : (part f.type X f.offset).run P w = .ok x w := by simp [part, hagg, hoff, h0.1]
            have p2 : (part f.type Y f.offset).run P w = .ok y w := by simp [part, hagg, hoff, h0.2]
            have ihr := ih xs ys (n + 1) r' hr ho' hc'
            subst h
            simp only [Op.eqFields, if_pos hn, Sem.run_bind, p1, p2, he, Result.andThen_ok, Sem.run_ite, Sem.run_pure, ihr]
            cases b <;> simp
        simp only [sameInts] at h
        split at h
        · rename_i k k1 a k2 b hu
          split at h
          · rename_i hh
            obtain ⟨hk, hn⟩ := hh
            exact fin _ (by simp [isAgg, run_underlying hu]) (by simp [Op.equalIn, run_underlying hu, hk]) hn h
          · simp at h
        · rename_i a b hu
          split at h
          · rename_i hn
            exact fin _ (by simp [isAgg, run_underlying hu]) (run_equalIn_string w d f.type a b hu) hn h
          · simp at h
        · simp at h

theorem aggEq_run {t : TypeId} {xs ys : Array Value} {r : Bool} (h : aggEq P t xs.toList ys.toList = some r) :
    (Op.equalIn 10000 t (.agg xs) (.agg ys)).run P w = .ok r w ∧ P.eqGuardType P.depth t = false := by
  unfold aggEq at h
  split at h
  · rename_i fs hu
    split at h
    · rename_i hh
      obtain ⟨h1, h2, h3⟩ := hh
      refine ⟨?_, h2⟩
      have hf : P.fieldsOf t = fs := by simp [Program.fieldsOf, hu]
      have := run_equalIn_struct w 9999 t xs ys (by rw [hf]; exact hu) h1
      rw [this, hf]
      exact sameInts_run 9998 xs ys fs.toList _ _ 0 r h h3 (fun j _ => by simp)
    · simp at h
  · simp at h

theorem eql_slice_nil {e t : TypeId} (hu : P.underlying t = some (.slice e)) (a : Option Addr) (n c n' c' : Nat) :
    (Op.equalIn 10000 t (.slice a n c) (.slice none n' c')).run P w = .ok a.isNone w := by
  rw [show (10000 : Nat) = 9999 + 1 from rfl, Op.equalIn]
  cases a <;> simp only [Sem.run_bind, run_underlying hu, Result.andThen_ok] <;> rfl
theorem eql_ptr_nil {e t : TypeId} (hu : P.underlying t = some (.pointer e)) (a : Addr) :
    (Op.equalIn 10000 t (.pointer (some a)) (.pointer none)).run P w = .ok false w := by
  rw [show (10000 : Nat) = 9999 + 1 from rfl, Op.equalIn]
  simp only [Sem.run_bind, run_underlying hu, Result.andThen_ok]
  rfl

set_option maxHeartbeats 1000000 in
theorem pureBin_run {op : BinOp} {xt : TypeId} {x y : Operand} {a b v : Value} (h : pureBin P op xt a b = some v) :
    (do eqGuard op xt x y a b; binOp op xt a b : Sem Value).run P w = .ok v w := by
  unfold pureBin at h
  split at h
  · -- integers
    rename_i k a k' b
    split at h
    · rename_i hk
      subst hk
      have hg : (eqGuard op xt x y (.int k a) (.int k b)).run P w = .ok () w := by cases op <;> simp [eqGuard]
      rw [Sem.run_bind, hg]
      cases op <;> simp only [cmpInt, Option.map_some, Option.map_none, Option.some.injEq, reduceCtorEq] at h <;> subst h <;> simp [binOp, Op.intArith, Op.intCmp]
    · simp at h
  · rename_i a b
    have hg : (eqGuard op xt x y (.bool a) (.bool b)).run P w = .ok () w := by cases op <;> simp [eqGuard]
    rw [Sem.run_bind, hg]
    split at h
    · rename_i hu; cases h
      simp [binOp, Op.equal, Op.maxDepth, run_equalIn_bool' w 9999 xt a b hu]
    · rename_i hu; cases h
      simp [binOp, Op.equal, Op.maxDepth, run_equalIn_bool' w 9999 xt a b hu]
    · simp at h
  · rename_i a b
    have hg : (eqGuard op xt x y (.string a) (.string b)).run P w = .ok () w := by cases op <;> simp [eqGuard]
    rw [Sem.run_bind, hg]
    split at h <;> cases h <;> simp [binOp, Op.stringOp]
  · rename_i a n c n' c'
    have hg : (eqGuard op xt x y (.slice a n c) (.slice none n' c')).run P w = .ok () w := by cases op <;> simp [eqGuard]
    rw [Sem.run_bind, hg]
    split at h
    · rename_i e hu; cases h
      simp only [binOp, Op.equal, Op.maxDepth, Sem.run_bind, Result.andThen_ok, eql_slice_nil hu, Sem.run_pure]
    · rename_i e hu; cases h
      simp only [binOp, Op.equal, Op.maxDepth, Sem.run_bind, Result.andThen_ok, eql_slice_nil hu, Sem.run_pure]
    · simp at h
  · rename_i a
    have hg : (eqGuard op xt x y (.pointer (some a)) (.pointer none)).run P w = .ok () w := by cases op <;> simp [eqGuard]
    rw [Sem.run_bind, hg]
    split at h
    · rename_i e hu; cases h
      simp only [binOp, Op.equal, Op.maxDepth, Sem.run_bind, Result.andThen_ok, eql_ptr_nil hu, Sem.run_pure]
    · rename_i e hu; cases h
      simp only [binOp, Op.equal, Op.maxDepth, Sem.run_bind, Result.andThen_ok, eql_ptr_nil hu, Sem.run_pure, Bool.not_false]
    · simp at h
  · rename_i xs ys
    split at h
    · cases hr : aggEq P xt xs.toList ys.toList with
      | none => simp [hr] at h
      | some r =>
        simp only [hr, Option.map_some, Option.some.injEq] at h
        obtain ⟨h1, h2⟩ := aggEq_run (w := w) hr
        rw [Sem.run_bind, run_eqGuard_agg w _ _ _ _ _ _ h2, Result.andThen_ok, run_eql_struct, h1]
        subst h; rfl
    · cases hr : aggEq P xt xs.toList ys.toList with
      | none => simp [hr] at h
      | some r =>
        simp only [hr, Option.map_some, Option.some.injEq] at h
        obtain ⟨h1, h2⟩ := aggEq_run (w := w) hr
        rw [Sem.run_bind, run_eqGuard_agg w _ _ _ _ _ _ h2, Result.andThen_ok, run_neq_struct, h1]
        subst h; rfl
    · simp at h
  · simp at h
end

theorem map_ev {t : List Value} {a : Act} (h : Ref t a.tmps) {xs : List Operand} (hn : (xs.any fun x => isU (ev t x)) = false) : xs.map a.eval = xs.map (ev t) :=
  List.map_congr_left fun x hx => (h.ev x).resolve_left (by
    have := List.any_eq_false.1 hn x hx
    simpa using this)

theorem pureOp_sound {P : Program} {t : List Value} {a : Act} (hr : Ref t a.tmps) {o : Oper} {v' : Value} (h : pureOp P (ev t) o.op = some v') :
    ∃ v, (isU v' = true ∨ v = v') ∧ ∀ w, (execOp a.eval o).run P w = .ok (.value v) w := by
  obtain ⟨dst, op, ty, pos, after, guard⟩ := o
  simp only at h
  cases op <;> simp only [pureOp, reduceCtorEq] at h <;> simp only [execOp]
  case move x => cases h; exact ⟨a.eval x, hr.ev x, fun _ => rfl⟩
  case assign x => cases h; exact ⟨a.eval x, hr.ev x, fun _ => rfl⟩
  case pick c x y =>
    split at h
    · rename_i hc; cases h
      refine ⟨a.eval x, hr.ev x, fun w => ?_⟩
      simp [hr.ev_eq hc rfl, asBool]
    · rename_i hc; cases h
      refine ⟨a.eval y, hr.ev y, fun w => ?_⟩
      simp [hr.ev_eq hc rfl, asBool]
    · simp at h
  case nilCheck x =>
    split at h
    · rename_i b hx; cases h
      refine ⟨_, .inr rfl, fun w => ?_⟩
      rw [hr.ev_eq hx rfl]; rfl
    · simp at h
  case fieldAddr s x f =>
    split at h
    · rename_i fs b hu hx
      split at h
      · rename_i g hg
        split at h
        · rename_i i hi
          split at h
          · simp at h
          · rename_i hs; cases h
            refine ⟨_, .inr rfl, fun w => ?_⟩
            simp [Instr.fieldAt, run_underlying hu, hg, hr.ev_eq hx rfl, Instr.sureAddr, fieldPlace, sizeOf, typeInfo, hi, hs]
        · simp at h
      · simp at h
    · simp at h
  case build s parts =>
    split at h
    · simp at h
    · rename_i hn
      cases hb : P.built s (parts.toList.map fun p => (p.1, ev t p.2)) with
      | none => simp [hb] at h
      | some cells =>
        simp only [hb, Option.map_some, Option.some.injEq] at h
        subst h
        refine ⟨_, .inr rfl, fun w => ?_⟩
        have he : (parts.map fun (i, x) => (i, a.eval x)).toList = parts.toList.map fun p => (p.1, ev t p.2) := by
          simp only [Array.toList_map]
          refine List.map_congr_left fun p hp => ?_
          have := (hr.ev p.2).resolve_left (by
            intro e
            exact hn (List.any_eq_true.2 ⟨p, hp, e⟩))
          simp [this]
        have := run_build (P := P) w s (parts.map fun (i, x) => (i, a.eval x)) cells (by rw [he]; exact hb)
        simp only [Sem.run_bind, this, Result.andThen_ok]
        rfl
  case binOp op xt x y yt =>
    refine ⟨v', .inr rfl, fun w => ?_⟩
    have hx : isU (ev t x) = false ∧ isU (ev t y) = false := by
      unfold pureBin at h
      split at h <;> simp_all [isU]
    rw [(hr.ev x).resolve_left (by simp [hx.1]), (hr.ev y).resolve_left (by simp [hx.2]), Sem.run_bind, pureBin_run h]
    rfl
  case unOp op xt x =>
    cases op <;> simp only [reduceCtorEq] at h
    split at h
    · rename_i b hx; cases h
      refine ⟨_, .inr rfl, fun w => ?_⟩
      simp [hr.ev_eq hx rfl, Op.unary]
    · simp at h
  case convert src dst x =>
    split at h
    · rename_i d k k2 n h1 h2 hx; cases h
      refine ⟨_, .inr rfl, fun w => ?_⟩
      cases d <;> simp [convert, run_underlying h1, run_underlying h2, hr.ev_eq hx rfl, Conv.intToInt]
    · simp at h
  case makeFunc fn first captured =>
    split at h
    · simp at h
    · rename_i hn; cases h
      simp only [Bool.or_eq_true, not_or, Bool.not_eq_true] at hn
      refine ⟨_, .inr rfl, fun w => ?_⟩
      have e1 : first.map a.eval = first.map (ev t) := by
        have := map_ev hr hn.1
        exact Array.ext' (by simpa using this)
      have e2 : captured.map a.eval = captured.map (ev t) := by
        have := map_ev hr hn.2
        exact Array.ext' (by simpa using this)
      simp [Instr.makeFunc, e1, e2]
  case extract x i =>
    split at h
    · rename_i vs hx
      split at h
      · simp at h
      · rename_i hu
        refine ⟨v', .inr rfl, fun w => ?_⟩
        simp [Instr.extract, hr.ev_eq hx (by simpa using hu), h]
    · simp at h
  case call c =>
    obtain ⟨callee, args, argTypes⟩ := c
    simp only at h
    have hargs : ∀ vs : List Value, args.toList.map (ev t) = vs → (∀ v ∈ vs, isU v = false) → args.map a.eval = vs.toArray := fun vs hv hk => by
      apply Array.ext'
      rw [Array.toList_map, List.toList_toArray, ← hv]
      refine List.map_congr_left fun x hx => (hr.ev x).resolve_left ?_
      have := hk (ev t x) (by rw [← hv]; exact List.mem_map.2 ⟨x, hx, rfl⟩)
      simp [this]
    split at h
    · rename_i s1 n c1 he
      have ha := hargs _ he (by simp [isU])
      split at h
      · rename_i e hu; cases h
        refine ⟨_, .inr rfl, fun w => ?_⟩
        cases ht : argTypes[0]? with
        | none => simp [ht] at hu
        | some ty =>
          have hu' : P.underlying ty = some (.slice e) := by simpa [ht] using hu
          simp [resolve, invoke, builtin, Builtin.len_, ha, ht, run_underlying hu', goInt]
      · simp at h
    · rename_i s he
      have ha := hargs _ he (by simp [isU])
      split at h
      · rename_i hu; cases h
        refine ⟨_, .inr rfl, fun w => ?_⟩
        cases ht : argTypes[0]? with
        | none => simp [ht] at hu
        | some ty =>
          have hu' : P.underlying ty = some .string := by simpa [ht] using hu
          simp [resolve, invoke, builtin, Builtin.len_, ha, ht, run_underlying hu', goInt]
      · simp at h
    · rename_i k x k' y he; cases h
      have ha := hargs _ he (by simp [isU])
      refine ⟨_, .inr rfl, fun w => ?_⟩
      simp [resolve, invoke, builtin, Builtin.max_, Builtin.max2, ha]
    · rename_i k x k' y he; cases h
      have ha := hargs _ he (by simp [isU])
      refine ⟨_, .inr rfl, fun w => ?_⟩
      simp [resolve, invoke, builtin, Builtin.min_, Builtin.min2, ha]
    · simp at h
end Go.Vc
