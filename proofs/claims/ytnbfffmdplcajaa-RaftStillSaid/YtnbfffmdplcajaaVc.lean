/- The verification conditions of a Go function's operations: a tree, its meaning over worlds, and the program that makes the tree out of the code. -/
import Derived.WalkKit
import Derived.KernelRfl
namespace Go.Vc

inductive VC where
  | fail
  | ret (v : Value)
  | again (lvl : Nat) (vs : List Value)
  | isL (xs ys : List Value) (k : VC)
  | exI (k : Int → VC)
  | exB (k : Bool → VC)
  | exS (k : Option Addr → Nat → Nat → VC)
  | exN (k : Nat → VC)
  | exT (k : ByteArray → VC)
  | need (p : Prop) (k : VC)
  | some (a : Option Addr) (k : Addr → VC)
  | load (a : Addr) (n : Nat) (k : List Value → VC)
  | bytes (a : Option Addr) (n : Nat) (k : ByteArray → VC)
  | store (a : Addr) (vs : List Value) (k : VC)
  | new (e : TypeId) (cs : List Value) (k : Nat → VC)
  | make (e : TypeId) (bts : Nat) (z : List Value) (n : Int) (k : Nat → VC)
  | append (e : TypeId) (sz bts : Nat) (z : List Value) (a : Option Addr) (n c : Nat) (b : Option Addr) (m : Nat) (k : Option Addr → Nat → Nat → VC)
  | mark (a : Addr) (k : VC)
  | clear (a : Option Addr) (z : List Value) (n : Nat) (k : VC)
  | call (f : FuncId) (args : List Value) (k : Value → VC)
  | hold (hs : List (Addr × List Value)) (k : VC)
  | both (x y : VC)
  | draw (k : VC)
  | loop (lvl : Nat) (init : List Value) (body : List Value → VC)
  | cut (lvl : Nat) (body : VC) (k : List Value → VC)

/-- The n cells from a on. -/
def cellsAt (w : World) (a : Addr) : Nat → Nat → Option (List Value)
  | _, 0 => Option.some []
  | i, n + 1 => match w.cell? (a.add i) with
    | Option.some v => (cellsAt w a (i + 1) n).map (v :: ·)
    | none => none

def readN (w : World) (a : Option Addr) (n : Nat) : Option (List Value) :=
  match a with
  | none => Option.some []
  | Option.some a => cellsAt w a 0 n

/-- Cells stored from a on, one behind the other. -/
def storeW (w : World) (a : Addr) : Nat → List Value → Option World
  | _, [] => Option.some w
  | i, v :: vs =>
    if v.oneCell' = true ∧ (w.cell? (a.add i)).isSome = true ∧ w.frozen? (a.add i) = false then storeW (w.setCell (a.add i) v) a (i + 1) vs else none

def markW (w : World) (a : Addr) : World :=
  match w.shape? a.block with
  | Option.some (_, n) => w.freeze ⟨a.block, n, none⟩ 1
  | none => w

def zeros (z : List Value) (n : Nat) : Array Value := Builtin.zeroCells z.toArray n

def clearW (w : World) (a : Option Addr) (z : List Value) (n : Nat) : Option World :=
  match a with
  | none => Option.some w
  | Option.some a => storeW w a 0 (zeros z n).toList

def AppendTo (w : World) (e : TypeId) (sz bts : Nat) (z : List Value) (a : Option Addr) (n c : Nat) (b : Option Addr) (m : Nat) (K : Option Addr → Nat → Nat → World → Prop) : Prop :=
  ∃ new, readN w b (m * sz) = Option.some new ∧
    (n + m ≤ c → ∃ w', (match a with | Option.some a' => storeW w (a'.add (n * sz)) 0 new | none => Option.some w) = Option.some w' ∧ K a (n + m) c w') ∧
    (¬ n + m ≤ c → ∃ old, readN w a (n * sz) = Option.some old ∧ 0 < bts ∧ Builtin.nextslicecap (n + m) c * bts ≤ 2 ^ 48 ∧
      ∀ cap, n + m ≤ cap → K (Option.some ⟨w.heap.size, 0, none⟩) (n + m) cap (w.drew.alloc (.cells (old.toArray ++ new.toArray ++ zeros z (cap - (n + m))) e)))

def Callable (P : Program) (f : FuncId) : Prop := ∃ fn, P.funcs[f]? = Option.some fn ∧ fn.body.isSome = true ∧ (fn.name == "runtime.NumGoroutine") = false

/-- A call that returns, whatever comes. -/
def Runs (P : Program) (f : FuncId) (args : List Value) (w : World) (R : Value → World → Prop) : Prop :=
  Callable P f ∧ Calls P f args.toArray w fun e w' => ∃ v, e = .returned v ∧ R v w'

def upd (env : Nat → List Value → World → Prop) (l : Nat) (I : List Value → World → Prop) : Nat → List Value → World → Prop :=
  fun i => if i = l then I else env i

def VC.wp (P : Program) (R : Value → World → Prop) : VC → (Nat → List Value → World → Prop) → World → Prop
  | .fail, _, _ => False
  | .ret v, _, w => R v w
  | .again l vs, env, w => env l vs w
  | .isL xs ys k, env, w => xs = ys ∧ k.wp P R env w
  | .exI k, env, w => ∃ n, (k n).wp P R env w
  | .exB k, env, w => ∃ n, (k n).wp P R env w
  | .exS k, env, w => ∃ a n c, (k a n c).wp P R env w
  | .exN k, env, w => ∃ n, (k n).wp P R env w
  | .exT k, env, w => ∃ n, (k n).wp P R env w
  | .need p k, env, w => p ∧ k.wp P R env w
  | .some a k, env, w => ∃ x, a = Option.some x ∧ (k x).wp P R env w
  | .load a n k, env, w => ∃ vs, cellsAt w a 0 n = Option.some vs ∧ (k vs).wp P R env w
  | .bytes a n k, env, w => ∃ s : ByteArray, readN w a n = Option.some (s.data.toList.map fun b => .int .u8 b.toNat) ∧ (k s).wp P R env w
  | .store a vs k, env, w => ∃ w', storeW w a 0 vs = Option.some w' ∧ k.wp P R env w'
  | .new e cs k, env, w => (k w.heap.size).wp P R env (w.alloc (.cells cs.toArray e))
  | .make e bts z n k, env, w => 0 ≤ n ∧ (bts : Int) * n ≤ 2 ^ 48 ∧ n ≤ 9223372036854775807 ∧ (k w.heap.size).wp P R env (w.alloc (.cells (zeros z n.toNat) e))
  | .append e sz bts z a n c b m k, env, w => AppendTo w e sz bts z a n c b m fun a' n' c' w' => (k a' n' c').wp P R env w'
  | .mark a k, env, w => k.wp P R env (markW w a)
  | .clear a z n k, env, w => ∃ w', clearW w a z n = Option.some w' ∧ k.wp P R env w'
  | .call f args k, env, w => Runs P f args w fun v w' => (k v).wp P R env w'
  | .hold hs k, env, w => (∀ h ∈ hs, cellsAt w h.1 0 h.2.length = Option.some h.2) ∧ k.wp P R env w
  | .draw k, env, w => k.wp P R env w.drew
  | .both x y, env, w => x.wp P R env w ∧ y.wp P R env w
  | .loop l init body, env, w => ∃ (I : List Value → World → Prop) (μ : List Value → World → Nat), I init w ∧
      ∀ vs w', I vs w' → (body vs).wp P R (upd env l fun vs' w'' => I vs' w'' ∧ μ vs' w'' < μ vs w') w'
  | .cut l body k, env, w => ∃ J : List Value → World → Prop, body.wp P R (upd env l J) w ∧ ∀ vs w', J vs w' → (k vs).wp P R env w'

/-! ### the tree of the code -/

def ev (t : List Value) : Operand → Value
  | .tmp i => t.getD i undef
  | .const v => v
  | .global g => .pointer (Option.some ⟨g, 0, none⟩)
  | .func f => .func (.func f) #[] #[]

/-- The same value, to its constructor; then on. -/
def forceV (v : Value) (k : Value → VC) : VC :=
  match v with
  | .bool b => k (.bool b)
  | .int i n => k (.int i n)
  | .float i n => k (.float i n)
  | .complex i n m => k (.complex i n m)
  | .string s => k (.string s)
  | .pointer a => k (.pointer a)
  | .slice a n c => k (.slice a n c)
  | .map r => k (.map r)
  | .chan r => k (.chan r)
  | .func f x y => k (.func f x y)
  | .nilFunc => k .nilFunc
  | .iface t v => k (.iface t v)
  | .nilIface => k .nilIface
  | .agg c => k (.agg c)
  | .tuple c => k (.tuple c)

/-- The same list, laid out; then on. -/
def forceL : List Value → (List Value → VC) → VC
  | [], k => k []
  | v :: vs, k => forceV v fun v' => forceL vs fun vs' => k (v' :: vs')

def forceN (n : Nat) (k : Nat → VC) : VC :=
  match n with
  | 0 => k 0
  | m + 1 => k (m + 1)

/-- A slot set, the list laid out; then on. -/
def setC : List Value → Nat → Value → (List Value → VC) → VC
  | [], _, _, k => k []
  | _ :: xs, 0, v, k => k (v :: xs)
  | x :: xs, n + 1, v, k => setC xs n v fun r => k (x :: r)

def setK (t : List Value) (d : Option Tmp) (v : Value) (k : List Value → VC) : VC :=
  match d with
  | Option.some d => forceV v fun v' => setC t d v' k
  | none => k t

def setT (t : List Value) (d : Option Tmp) (v : Value) : List Value :=
  match d with
  | Option.some d => t.set d v
  | none => t

/-- The mark of a slot of which nothing is known. -/
def unk : Value := .tuple #[.nilFunc]

def isU : Value → Bool
  | .tuple vs => match vs.toList with | [.nilFunc] => true | _ => false
  | _ => false

def cmpInt (op : BinOp) (a b : Int) : Option Bool :=
  match op with
  | .eql => Option.some (a == b)
  | .neq => Option.some (a != b)
  | .lss => Option.some (decide (a < b))
  | .leq => Option.some (decide (a ≤ b))
  | .gtr => Option.some (decide (a > b))
  | .geq => Option.some (decide (a ≥ b))
  | _ => none

/-- Two rows of cells that are integers of the fields' kinds, cell by cell: are they the same? -/
def sameInts (P : Program) : List Field → List Value → List Value → Option Bool
  | [], [], [] => Option.some true
  | f :: fs, x :: xs, y :: ys =>
    match P.underlying f.type, x, y with
    | Option.some (.int _), .int k a, .int k' b => if k = k' ∧ f.name ≠ "_" then (sameInts P fs xs ys).map fun r => (a == b) && r else none
    | Option.some .string, .string a, .string b => if f.name ≠ "_" then (sameInts P fs xs ys).map fun r => (a.toList == b.toList) && r else none
    | _, _, _ => none
  | _, _, _ => none

def offsetsFrom : Nat → List Field → Bool
  | _, [] => true
  | n, f :: fs => f.offset == n && offsetsFrom (n + 1) fs

def aggEq (P : Program) (t : TypeId) (xs ys : List Value) : Option Bool :=
  match P.underlying t with
  | Option.some (.struct fs) => if P.stoodInHeld t = false ∧ P.eqGuardType P.depth t = false ∧ offsetsFrom 0 fs.toList = true then sameInts P fs.toList xs ys else none
  | _ => none

def pureBin (P : Program) (op : BinOp) (xt : TypeId) (x y : Value) : Option Value :=
  match x, y with
  | .int k a, .int k' b =>
    if k = k' then
      match op with
      | .add => Option.some (.int k (k.wrap (a + b)))
      | .sub => Option.some (.int k (k.wrap (a - b)))
      | .mul => Option.some (.int k (k.wrap (a * b)))
      | _ => (cmpInt op a b).map .bool
    else none
  | .bool a, .bool b =>
    match P.underlying xt, op with
    | Option.some .bool, .eql => Option.some (.bool (a == b))
    | Option.some .bool, .neq => Option.some (.bool (!(a == b)))
    | _, _ => none
  | .string a, .string b =>
    match op with
    | .eql => Option.some (.bool (a.toList == b.toList))
    | .neq => Option.some (.bool (!(a.toList == b.toList)))
    | _ => none
  | .slice a _ _, .slice none _ _ =>
    match P.underlying xt, op with
    | Option.some (.slice _), .eql => Option.some (.bool a.isNone)
    | Option.some (.slice _), .neq => Option.some (.bool (!a.isNone))
    | _, _ => none
  | .pointer (Option.some _), .pointer none =>
    match P.underlying xt, op with
    | Option.some (.pointer _), .eql => Option.some (.bool false)
    | Option.some (.pointer _), .neq => Option.some (.bool true)
    | _, _ => none
  | .agg xs, .agg ys =>
    match op with
    | .eql => (aggEq P xt xs.toList ys.toList).map .bool
    | .neq => (aggEq P xt xs.toList ys.toList).map fun r => .bool (!r)
    | _ => none
  | _, _ => none

/-- Those operations whose value hangs on their operands alone. -/
def pureOp (P : Program) (ρ : Operand → Value) : Op → Option Value
  | .move x => Option.some (ρ x)
  | .assign x => Option.some (ρ x)
  | .pick c a b =>
    match ρ c with
    | .bool true => Option.some (ρ a)
    | .bool false => Option.some (ρ b)
    | _ => none
  | .nilCheck x =>
    match ρ x with
    | .pointer (Option.some a) => Option.some (.pointer (Option.some a))
    | _ => none
  | .fieldAddr s x f =>
    match P.underlying s, ρ x with
    | Option.some (.struct fs), .pointer (Option.some a) =>
      match fs[f]? with
      | Option.some g =>
        match P.info? g.type with
        | Option.some i => if i.size = 0 then none else Option.some (.pointer (Option.some (a.add g.offset)))
        | none => none
      | none => none
    | _, _ => none
  | .build t parts => if (parts.toList.any fun p => isU (ρ p.2)) then none else (P.built t (parts.toList.map fun p => (p.1, ρ p.2))).map .agg
  | .binOp op xt x y _ => pureBin P op xt (ρ x) (ρ y)
  | .unOp .not _ x =>
    match ρ x with
    | .bool b => Option.some (.bool (!b))
    | _ => none
  | .convert src dst x =>
    match P.underlying src, P.underlying dst, ρ x with
    | Option.some _, Option.some (.int k), .int _ n => Option.some (.int k (k.wrap n))
    | _, _, _ => none
  | .makeFunc fn first captured => if (first.toList.any fun p => isU (ρ p)) || (captured.toList.any fun p => isU (ρ p)) then none else Option.some (.func fn (first.map ρ) (captured.map ρ))
  | .extract x i =>
    match ρ x with
    | .tuple vs => if isU (.tuple vs) = true then none else vs[i]?
    | _ => none
  | .call c =>
    match c.callee, c.args.toList.map ρ with
    | .builtin .len, [.slice _ n _] =>
      match (c.argTypes[0]?).bind P.underlying with
      | Option.some (.slice _) => Option.some (.int .i64 n)
      | _ => none
    | .builtin .len, [.string s] =>
      match (c.argTypes[0]?).bind P.underlying with
      | Option.some .string => Option.some (.int .i64 s.size)
      | _ => none
    | .builtin .max, [.int k a, .int _ b] => Option.some (.int k (if b > a then b else a))
    | .builtin .min, [.int k a, .int _ b] => Option.some (.int k (if b < a then b else a))
    | _, _ => none
  | _ => none

/-- Does an operation only look? -/
def floats : Op → Bool
  | .move _ | .assign _ | .pick .. | .nilCheck _ | .fieldAddr .. | .build .. | .binOp .. | .unOp .. | .makeFunc .. | .extract .. | .load .. | .indexAddr .. | .slice .. => true
  | .convert src dst _ => src != dst
  | .call { callee := .builtin .len, .. } | .call { callee := .builtin .max, .. } | .call { callee := .builtin .min, .. } => true
  | _ => false

/-- A value of each cell's kind, whatever it be. -/
def exCells : List Value → (List Value → VC) → VC
  | [], k => k []
  | .int kd _ :: r, k => .exI fun n => exCells r fun vs => k (.int kd n :: vs)
  | .bool _ :: r, k => .exB fun n => exCells r fun vs => k (.bool n :: vs)
  | .slice _ _ _ :: r, k => .exS fun a n c => exCells r fun vs => k (.slice a n c :: vs)
  | .pointer _ :: r, k => .exN fun b => exCells r fun vs => k (.pointer (Option.some ⟨b, 0, none⟩) :: vs)
  | .string _ :: r, k => .exT fun s => exCells r fun vs => k (.string s :: vs)
  | _ :: _, _ => .fail

def exV (z : Value) (k : Value → VC) : VC :=
  match z with
  | .agg cs => exCells cs.toList fun vs => k (.agg vs.toArray)
  | .tuple _ => .fail
  | z => exCells [z] fun vs => match vs with | [v] => k v | _ => .fail

def exVs : List Value → (List Value → VC) → VC
  | [], k => k []
  | z :: r, k => exV z fun v => exVs r fun vs => k (v :: vs)

def zeroOf (P : Program) (t : TypeId) : Option Value := (P.info? t).bind (·.zero)

/-- A value of a type, whatever it be. -/
def exT (P : Program) (t : TypeId) (k : Value → VC) : VC :=
  match P.underlying t with
  | Option.some (.tuple ts) =>
    match ts.toList.mapM (zeroOf P) with
    | Option.some zs => exVs zs fun vs => k (.tuple vs.toArray)
    | none => .fail
  | _ =>
    match zeroOf P t with
    | Option.some z => exV z k
    | none => .fail

def loadV (P : Program) (t : TypeId) (a : Addr) (k : Value → Option (Addr × List Value) → VC) : VC :=
  match P.info? t, P.underlying t with
  | Option.some i, Option.some d =>
    match i.zero with
    | Option.some z =>
      match d with
      | .struct _ => .load a i.size fun vs => exCells z.cells.toList fun us => .isL vs us (k (.agg us.toArray) (Option.some (a, us)))
      | .array .. => .fail
      | _ => .load a 1 fun vs => exCells [z] fun us => match us with | [v] => .isL vs [v] (k v (Option.some (a, [v]))) | _ => .fail
    | none => .fail
  | _, _ => .fail

def bound (ρ : Operand → Value) (o : Option Operand) (dflt : Nat) (top : Nat) (k : Nat → VC) : VC :=
  match o with
  | none => k dflt
  | Option.some x =>
    match ρ x with
    | .int _ i => .need (0 ≤ i ∧ i ≤ top) (k i.toNat)
    | _ => .fail

/-- An operation that only looks: its value, and the cells that it looked at (none: they can't be named). -/
def genF (P : Program) (ρ : Operand → Value) (op : Op) (k : Value → List (Option (Addr × List Value)) → VC) : VC :=
  match pureOp P ρ op with
  | Option.some v => k v []
  | none =>
    match op with
    | .load t x =>
      match ρ x with
      | .pointer (Option.some a) => loadV P t a fun v h => k v [h]
      | _ => .fail
    | .indexAddr t x ix =>
      match P.underlying t, ρ x, ρ ix with
      | Option.some (.slice e), .slice base len _, .int _ i =>
        match P.info? e with
        | Option.some ie => .some base fun a => .need (0 ≤ i ∧ i < len) (k (.pointer (Option.some (a.add (i.toNat * ie.size)))) [])
        | none => .fail
      | _, _, _ => .fail
    | .slice t x lo hi mx =>
      match P.underlying t, ρ x with
      | Option.some (.slice e), .slice a n c =>
        match P.info? e with
        | Option.some ie =>
          if mx.isSome && hi.isNone then .fail else
          bound ρ mx c c fun m => bound ρ hi n m fun h => bound ρ lo 0 h fun l => k (.slice (if m = l then a else a.map (·.add (l * ie.size))) (h - l) (m - l)) []
        | none => .fail
      | _, _ => .fail
    | .binOp .rem _ x y _ =>
      match ρ x, ρ y with
      | .int kx a, .int ky b => if kx = ky then .need (b ≠ 0) (k (.int kx (a.tmod b)) []) else .fail
      | _, _ => .fail
    | .convert src dst x =>
      match P.underlying src, P.underlying dst, ρ x with
      | Option.some (.slice e), Option.some .string, .slice a n _ =>
        match P.underlying e with
        | Option.some (.int .u8) => .bytes a n fun s => k (.string s) [none]
        | _ => .fail
      | _, _, _ => .fail
    | _ => .fail

/-- An operation that acts: its value, and whether it only made a new block. -/
def genE (P : Program) (ρ : Operand → Value) (o : Oper) (k : Value → Bool → VC) : VC :=
  match o.op with
  | .store t x v =>
    match P.info? t, ρ x with
    | Option.some i, .pointer (Option.some a) => if isU (ρ v) = true ∨ (ρ v).cells.size ≠ i.size then .fail else .store a (ρ v).cells.toList (k undef false)
    | _, _ => .fail
  | .alloc e =>
    match zeroOf P e with
    | Option.some z => .new e z.cells.toList fun b => k (.pointer (Option.some ⟨b, 0, none⟩)) true
    | none => .fail
  | .box e v => if isU (ρ v) = true then .fail else .new e (ρ v).cells.toList fun b => k (.pointer (Option.some ⟨b, 0, none⟩)) true
  | .buildSlice t len parts =>
    match P.underlying t with
    | Option.some (.slice e) =>
      match P.info? e, zeroOf P e with
      | Option.some ie, Option.some z =>
        if len * ie.size > 2 ^ 24 ∨ (parts.toList.any fun p => isU (ρ p.2)) = true then .fail else
        match Instr.fill (fun i => Option.some (i * ie.size, ie.size)) ((Array.range (len * ie.size)).map (z.cells[· % z.cells.size]!)) (parts.toList.map fun p => (p.1, ρ p.2)) with
        | Option.some cells => .new e cells.toList fun b => k (.slice (Option.some ⟨b, 0, none⟩) len len) true
        | none => .fail
      | _, _ => .fail
    | _ => .fail
  | .makeSlice t l c =>
    match P.underlying t, ρ l, ρ c with
    | Option.some (.slice e), .int .i64 n, .int .i64 n' =>
      match P.info? e, zeroOf P e with
      | Option.some ie, Option.some z => if ie.size = 0 ∨ z.cells.size ≠ ie.size then .fail else .need (n' = n) (.make e ie.bytes z.cells.toList n fun b => k (.slice (Option.some ⟨b, 0, none⟩) n.toNat n.toNat) true)
      | _, _ => .fail
    | _, _, _ => .fail
  | .convert src dst x =>
    match P.underlying src, P.underlying dst, ρ x with
    | Option.some (.slice _), Option.some (.slice e), .slice (Option.some a) n c =>
      match P.underlying e with
      | Option.some (.int .u8) => if src = dst then .mark a (k (.slice (Option.some a) n c) false) else .fail
      | _ => .fail
    | _, _, _ => .fail
  | .call c =>
    match c.callee with
    | .builtin .append =>
      match c.args.toList.map ρ, (c.argTypes[0]?).bind P.underlying, (c.argTypes[1]?).bind P.underlying with
      | [.slice a n cp, .slice b m _], Option.some (.slice e), Option.some (.slice _) =>
        match P.info? e, zeroOf P e with
        | Option.some ie, Option.some z => .append e ie.size ie.bytes z.cells.toList a n cp b m fun a' n' c' => k (.slice a' n' c') false
        | _, _ => .fail
      | _, _, _ => .fail
    | .builtin .clear =>
      match c.args.toList.map ρ, (c.argTypes[0]?).bind P.underlying with
      | [.slice a n _], Option.some (.slice e) =>
        match zeroOf P e with
        | Option.some z => .clear a z.cells.toList n (k undef false)
        | none => .fail
      | _, _ => .fail
    | .value f =>
      match ρ f with
      | .func (.func g) first caps =>
        if (c.args.toList.any fun x => isU (ρ x)) = true then .fail else
        .call g (first.toList ++ (c.args.toList.map ρ) ++ caps.toList) fun v => match P.underlying o.type with
          | Option.some (.tuple ts) => if ts.size = 0 then .isL [v] [undef] (k undef false) else exT P o.type fun v' => .isL [v] [v'] (k v' false)
          | _ => exT P o.type fun v' => .isL [v] [v'] (k v' false)
      | _ => .fail
    | _ => .fail
  | _ => .fail

/-! ### the order in which a region's operations are shown -/

def readyB (o : Oper) (done : Nat) : Bool := o.after.all fun e => !Region.binds .any e || done.testBit e.on

/-- The first of the rest that may come up and is of the wished make. -/
def pickFirst (done : Nat) (fl : Bool) : Nat → List Oper → Option Nat
  | _, [] => none
  | i, o :: r => if !done.testBit i && (floats o.op == fl) && readyB o done then Option.some i else pickFirst done fl (i + 1) r

/-- Those that act and may come up. -/
def readies (done : Nat) : Nat → List Oper → List Nat
  | _, [] => []
  | i, o :: r => if !done.testBit i && !floats o.op && readyB o done then i :: readies done (i + 1) r else readies done (i + 1) r

/-- What each operation waits for, at once or through others, as a mask. -/
def masks : List Oper → List Nat → List Nat
  | [], acc => acc
  | o :: r, acc => masks r (acc ++ [o.after.foldl (fun s e => if Region.binds .any e then s ||| 2 ^ e.on ||| acc.getD e.on 0 else s) 0])

def preOf (ops : Array Oper) : List Nat := masks ops.toList []

def waits (pre : List Nat) (i j : Nat) : Bool := (pre.getD i 0).testBit j

/-- Whatever looks, and another one: the one waits for the other, or they are apart. -/
def okRegion (ops : Array Oper) (pre : List Nat) : Bool :=
  (ops.toList.all fun o => match o.op with | .select .. => false | _ => true) &&
  (List.range ops.size).all fun i => (List.range ops.size).all fun j =>
    match ops[i]?, ops[j]? with
    | Option.some x, Option.some y => i == j || !floats x.op || waits pre j i || waits pre i j || x.apart ops y
    | _, _ => false

/-- What is to be held behind an operation that acts; none: it can't be said. -/
def toHold (pre : List Nat) (i : Nat) : List (Nat × Option (Addr × List Value)) → Option (List (Nat × Option (Addr × List Value)))
  | [] => Option.some []
  | h :: r =>
    if waits pre i h.1 then toHold pre i r else
    match h.2 with
    | none => none
    | Option.some _ => (toHold pre i r).map (h :: ·)

def holdN (hs : List (Nat × Option (Addr × List Value))) (k : VC) : VC :=
  match hs with
  | [] => k
  | hs => .hold (hs.filterMap (·.2)) k

/-- One operation. 'hold': what is to be held behind it if it acts. -/
def genOp (P : Program) (ops : Array Oper) (o : Oper) (hold : Option (List (Nat × Option (Addr × List Value)))) (t : List Value)
    (kf : List (Option (Addr × List Value)) → List Value → VC) (ke : List (Nat × Option (Addr × List Value)) → List Value → VC) : VC :=
  let go (t : List Value) : VC :=
    if floats o.op then genF P (ev t) o.op fun v h => setK t o.dst v fun t' => kf h t'
    else
      match hold with
      | none => .fail
      | Option.some hs => genE P (ev t) o fun v plain => if plain then setK t o.dst v fun t' => ke hs t' else holdN hs (setK t o.dst v fun t' => ke hs t')
  let pass (t : List Value) : VC := if floats o.op then setK t o.dst undef fun t' => kf [] t' else
    match hold with
    | none => .fail
    | Option.some hs => setK t o.dst undef fun t' => ke hs t'
  match o.guard with
  | none => go t
  | Option.some (j, want) =>
    match (ops[j]?).bind (·.dst) with
    | none => .fail
    | Option.some d =>
      match t.getD d undef with
      | .bool b =>
        bif b then (setC t d (.bool true) fun t' => if want then go t' else pass t')
        else (setC t d (.bool false) fun t' => if want then pass t' else go t')
      | .tuple vs => if vs.size = 0 then pass t else .fail
      | _ => .fail

/-- A region in the order of its text. -/
def genOps (P : Program) (ops : Array Oper) (k : List Value → VC) : List Oper → List Value → VC
  | [], t => k t
  | o :: rest, t => genOp P ops o (Option.some []) t (fun _ t' => genOps P ops k rest t') (fun _ t' => genOps P ops k rest t')

def bothAll : List VC → VC
  | [] => .fail
  | [x] => x
  | x :: r => .both x (bothAll r)

/-- A region that draws its order: whatever looks comes as soon as it may; whatever acts, in each order that may be. -/
def genR (P : Program) (ops : Array Oper) (pre : List Nat) (k : List Value → VC) : Nat → Nat → List (Nat × Option (Addr × List Value)) → List Value → VC
  | 0, done, _, t => if (List.range ops.size).all (fun i => done.testBit i) then k t else .fail
  | f + 1, done, hs, t =>
    match pickFirst done true 0 ops.toList with
    | Option.some i =>
      match ops[i]? with
      | none => .fail
      | Option.some o => genOp P ops o none t (fun h t' => forceN (done ||| 2 ^ i) fun done' => genR P ops pre k f done' (h.map (fun x => (i, x)) ++ hs) t') (fun _ _ => .fail)
    | none =>
      bothAll ((readies done 0 ops.toList).map fun i =>
        match ops[i]? with
        | none => .fail
        | Option.some o => genOp P ops o (toHold pre i hs) t (fun _ _ => .fail) (fun hs' t' => forceN (done ||| 2 ^ i) fun done' => genR P ops pre k f done' hs' t'))

/-- The slots that a piece of code writes. -/
def writes : Code → List Nat
  | .region _ ops _ => ops.toList.filterMap (·.dst)
  | .seq a b => writes a ++ writes b
  | .cond _ a b => writes a ++ writes b
  | .block _ c => writes c
  | .loop c => writes c
  | _ => []

/-- The number of the first region. -/
def firstR : Code → Option Nat
  | .region i _ _ => Option.some i
  | .seq a b => (firstR a).or (firstR b)
  | .cond _ a b => (firstR a).or (firstR b)
  | .block _ c => firstR c
  | .loop c => firstR c
  | _ => none

def forget (ws : List Nat) (t : List Value) : List Value := t.mapIdx fun i v => if ws.contains i then unk else v

def setAll (t : List Value) : List (Nat × Value) → List Value → List Value
  | (s, _) :: r, v :: vs => setAll (t.set s v) r vs
  | _, _ => t

abbrev Marks := Option Nat → Option (List (Nat × Value))

/-- The tree of a piece of code. 'lv': of each loop, by the number of its first region, the slots that its rounds hand on; 'ct': where the ways meet. -/
def gen (P : Program) (lv ct : Marks) : Code → Nat → (Exit → List Value → VC) → List Value → VC
  | .skip, _, k, t => k .normal t
  | .seq a b, d, k, t =>
    match ct (firstR b) with
    | none => gen P lv ct a d (fun e t' => match e with | .normal => gen P lv ct b d k t' | e => k e t') t
    | Option.some sl =>
      .cut d (gen P lv ct a (d + 1) (fun e t' => match e with | .normal => .again d (sl.map fun s => t'.getD s.1 undef) | e => k e t') t)
        fun vs => exCells (sl.map (·.2)) fun us => .isL vs us (forceL (setAll (forget (writes a) t) sl us) fun t' => gen P lv ct b d k t')
  | .cond c a b, d, k, t =>
    match ev t c with
    | .bool x => bif x then gen P lv ct a d k t else gen P lv ct b d k t
    | _ => .fail
  | .block id c, d, k, t =>
    gen P lv ct c d (fun e t' => match e with | .exit i => if i = id then k .normal t' else k (.exit i) t' | e => k e t') t
  | .loop body, d, k, t =>
    match lv (firstR body) with
    | none => .fail
    | Option.some sl =>
      .loop d (sl.map fun s => t.getD s.1 undef) fun vs => exCells (sl.map (·.2)) fun us => .isL vs us
        (forceL (setAll (forget (writes body) t) sl us) fun t0 => gen P lv ct body (d + 1) (fun e t' => match e with | .normal => .again d (sl.map fun s => t'.getD s.1 undef) | e => k e t') t0)
  | .exit id, _, k, t => k (.exit id) t
  | .ret, _, k, t => k .ret t
  | .region _ ops draw, _, k, t =>
    if draw then
      (if okRegion ops (preOf ops) then .draw (genR P ops (preOf ops) (fun t' => k .normal t') ops.size 0 [] t) else .fail)
    else genOps P ops (fun t' => k .normal t') ops.toList t
  | _, _, _, _ => .fail

def retCells (P : Program) : List ResultVar → List Value → (List Value → VC) → VC
  | [], _, k => k []
  | .tmp i :: r, t, k => if isU (t.getD i undef) then .fail else retCells P r t fun vs => k (t.getD i undef :: vs)
  | .cell a ty :: r, t, k =>
    match t.getD a undef with
    | .pointer (Option.some ad) => loadV P ty ad fun v _ => retCells P r t fun vs => k (v :: vs)
    | _ => .fail

def genFn (P : Program) (lv ct : Marks) (fn : Func) (args : List Value) : VC :=
  match fn.body with
  | none => .fail
  | Option.some c =>
    forceL (args ++ List.replicate (fn.ntmps - args.length) undef) fun t0 => gen P lv ct c 0 (fun e t => match e with
      | .normal | .ret => retCells P fn.results.toList t fun vs => match vs with | [v] => .ret v | vs => .ret (.tuple vs.toArray)
      | _ => .fail) t0

end Go.Vc
