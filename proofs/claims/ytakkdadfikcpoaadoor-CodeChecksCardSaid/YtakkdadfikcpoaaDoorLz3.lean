/- Lz3: what each operation does to abstract values and objects (a reckoning), and the weakest precondition of code over them. -/
import Derived.Test.YtakkdadfikcpoaaDoorLz2
namespace Go.Lz
set_option linter.unusedVariables false
set_option linter.unusedSimpArgs false

def loK : IntKind → Int
  | .i8 => -128 | .i16 => -32768 | .i32 => -2147483648 | .i64 => -9223372036854775808 | _ => 0
def hiK : IntKind → Int
  | .i8 => 127 | .i16 => 32767 | .i32 => 2147483647 | .i64 => 9223372036854775807
  | .u8 => 255 | .u16 => 65535 | .u32 => 4294967295 | .u64 => 18446744073709551615

def C.ofV : Value → Option C
  | .int k n => if loK k ≤ n ∧ n ≤ hiK k then some (.int k n) else none
  | .bool b => some (.bool b)
  | .string s => if s.data.toList.length ≤ lim then some (.str s.data.toList) else none
  | .slice none 0 0 => some (.slf [])
  | .pointer none => some .nilp
  | .map none => some .nilm
  | .nilFunc => some .nilfn
  | .nilIface => some .nilif
  | _ => none

def V.ofV : Value → V
  | .agg cs => match cs.toList.mapM C.ofV with | some l => .agg l | none => .un
  | v => match C.ofV v with | some c => .one c | none => .un

/-- What an operation comes to: what it asks, what is learnt, its value, the objects behind it. -/
structure R where
  pre : Prop
  fact : Prop
  v : V
  h : List O

def R.ok (v : V) (h : List O) : R := ⟨True, True, v, h⟩
def R.bad : R := ⟨False, True, .un, []⟩

/-! The table of types. -/
def tAg (P : Program) (t : TypeId) : Option (Bool × Nat) :=
  match P.underlying t, P.info? t with
  | some (.struct _), some i | some (.array ..), some i => some (true, i.size)
  | some _, some i => some (false, i.size)
  | _, _ => none
def tSl (P : Program) (t : TypeId) : Option (Nat × Nat × Nat) :=
  match P.underlying t with
  | some (.slice e) => match P.info? e with | some i => some (e, i.size, i.bytes) | none => none
  | _ => none
def tAr (P : Program) (t : TypeId) : Option (Nat × Nat × Nat) :=
  match P.underlying t with
  | some (.array n e) => match P.info? e with | some i => some (n, e, i.size) | none => none
  | _ => none
def tFd (P : Program) (t : TypeId) (f : Nat) : Option (Nat × Bool × Nat) :=
  match P.underlying t with
  | some (.struct fs) => match fs[f]? with
    | some f => match tAg P f.type with | some (g, n) => some (f.offset, g, n) | none => none
    | none => none
  | _ => none
def tZ (P : Program) (t : TypeId) : Option V :=
  match P.info? t with
  | some i => match i.zero with | some z => some (V.ofV z) | none => none
  | none => none
def tK (P : Program) (t : TypeId) : Option IntKind :=
  match P.underlying t with | some (.int k) => some k | _ => none
def tIsStr (P : Program) (t : TypeId) : Bool :=
  match P.underlying t with | some .string => true | _ => false
def tIsBool (P : Program) (t : TypeId) : Bool :=
  match P.underlying t with | some .bool => true | _ => false

def nth (rows : List (List C)) (i : Int) : List C := rows.getD i.toNat []
def splice {α : Type} (row : List α) (off : Nat) (cs : List α) : List α := row.take off ++ cs ++ row.drop (off + cs.length)
def ldV (g : Bool) (n : Nat) (row : List C) (off : Nat) : V := if g then .agg ((row.drop off).take n) else .one (row.getD off .nilp)
def wd (g : Bool) (n : Nat) : Nat := if g then n else 1

def andI (k : IntKind) (a b : Int) : Int := (BitVec.ofInt k.bits a &&& BitVec.ofInt k.bits b).toNat
def orI (k : IntKind) (a b : Int) : Int := (BitVec.ofInt k.bits a ||| BitVec.ofInt k.bits b).toNat
def xorI (k : IntKind) (a b : Int) : Int := (BitVec.ofInt k.bits a ^^^ BitVec.ofInt k.bits b).toNat
def andNotI (k : IntKind) (a b : Int) : Int := (BitVec.ofInt k.bits a &&& ~~~(BitVec.ofInt k.bits b)).toNat
def intF (op : BinOp) (k : IntKind) (a b : Int) (H : List O) : R :=
  match op with
  | .add => .ok (.one (.int k (k.wrap (a + b)))) H
  | .sub => .ok (.one (.int k (k.wrap (a - b)))) H
  | .mul => .ok (.one (.int k (k.wrap (a * b)))) H
  | .quo => ⟨b ≠ 0, True, .one (.int k (k.wrap (a.tdiv b))), H⟩
  | .rem => ⟨b ≠ 0, True, .one (.int k (a.tmod b)), H⟩
  | .eql => .ok (.one (.bool (decide (a = b)))) H
  | .neq => .ok (.one (.bool (!decide (a = b)))) H
  | .lss => .ok (.one (.bool (decide (a < b)))) H
  | .leq => .ok (.one (.bool (decide (a ≤ b)))) H
  | .gtr => .ok (.one (.bool (decide (b < a)))) H
  | .geq => .ok (.one (.bool (decide (b ≤ a)))) H
  | .and => .ok (.one (.int k (k.wrap (andI k a b)))) H
  | .or => .ok (.one (.int k (k.wrap (orI k a b)))) H
  | .xor => .ok (.one (.int k (k.wrap (xorI k a b)))) H
  | .andNot => .ok (.one (.int k (k.wrap (andNotI k a b)))) H
  | _ => .bad

def shF (op : BinOp) (k : IntKind) (a b : Int) (H : List O) : R :=
  match op with
  | .shl => ⟨0 ≤ b, True, .one (.int k (k.wrap (a * 2 ^ (min b.toNat k.bits)))), H⟩
  | .shr => ⟨0 ≤ b, True, .one (.int k (a.fdiv (2 ^ (min b.toNat k.bits)))), H⟩
  | _ => .bad
def isSh : BinOp → Bool
  | .shl => true
  | .shr => true
  | .add => false
  | .sub => false
  | .mul => false
  | .quo => false
  | .rem => false
  | .and => false
  | .or => false
  | .xor => false
  | .andNot => false
  | .eql => false
  | .neq => false
  | .lss => false
  | .leq => false
  | .gtr => false
  | .geq => false

def strF (op : BinOp) (a b : List UInt8) (H : List O) : R :=
  match op with
  | .add => ⟨a.length + b.length ≤ lim, True, .one (.str (a ++ b)), H⟩
  | .eql => .ok (.one (.bool (decide (a = b)))) H
  | .neq => .ok (.one (.bool (!decide (a = b)))) H
  | .lss => .ok (.one (.bool (Op.bytesLess a b))) H
  | _ => .bad

/-- Data leaf by leaf. -/
inductive Lf where
  | i (k : IntKind) (n : Int)
  | b (b : Bool)
  | s (s : List UInt8)
  deriving DecidableEq
/-- The leaves of a value of a type, if they are of the right kinds. -/
def litC (P : Program) : Nat → TypeId → List C → Option (List Lf)
  | 0, _, _ => none
  | d + 1, t, cs =>
    match P.underlying t, cs with
    | some .bool, [.bool b] => some [.b b]
    | some (.int q), [.int q' n] => if q' = q then some [.i q n] else none
    | some .string, [.str s] => some [.s s]
    | some (.array n e), cs => if cs.length = P.cellsOf t then ((List.range n).mapM fun i => litC P d e ((cs.drop (i * P.cellsOf e)).take (P.cellsOf e))).map List.flatten else none
    | some (.struct fs), cs => if cs.length = P.cellsOf t ∧ fs.all (·.name != "_") = true then (fs.toList.mapM fun f => litC P d f.type ((cs.drop f.offset).take (P.cellsOf f.type))).map List.flatten else none
    | _, _ => none
def aggT (P : Program) (t : TypeId) : Bool := match P.underlying t with | some (.struct _) => true | some (.array _ _) => true | _ => false
def eqT (P : Program) (t : TypeId) : Bool := P.keyTypeAt 20 t && !P.eqGuardType P.depth t && aggT P t
def eqF (P : Program) (op : BinOp) (t : TypeId) (xs ys : List C) (H : List O) : R :=
  match litC P 20 t xs, litC P 20 t ys with
  | some a, some b => match op with
    | .eql => ⟨eqT P t = true, True, .one (.bool (decide (a = b))), H⟩
    | .neq => ⟨eqT P t = true, True, .one (.bool (!decide (a = b))), H⟩
    | _ => .bad
  | _, _ => .bad
def tIsFn (P : Program) (t : TypeId) : Bool := match P.underlying t with | some (.func _ _ _) => true | _ => false
def nilF (P : Program) (op : BinOp) (t : TypeId) (b : Bool) (H : List O) : R :=
  match op with
  | .eql => ⟨tIsFn P t = true, True, .one (.bool b), H⟩
  | .neq => ⟨tIsFn P t = true, True, .one (.bool (!b)), H⟩
  | _ => .bad

def binF (P : Program) (op : BinOp) (t : TypeId) (x y : V) (H : List O) : R :=
  match x, y with
  | .agg xs, .agg ys => eqF P op t xs ys H
  | .one (.fn _ _), .one .nilfn => nilF P op t false H
  | .one .nilfn, .one .nilfn => nilF P op t true H
  | .one (.int k a), .one (.int k' b) => match isSh op with
    | true => shF op k a b H
    | false => if k = k' then intF op k a b H else .bad
  | .one (.str a), .one (.str b) => strF op a b H
  | .one (.bool a), .one (.bool b) => match tIsBool P t, op with
    | true, .eql => .ok (.one (.bool (a == b))) H
    | true, .neq => .ok (.one (.bool (!(a == b)))) H
    | _, _ => .bad
  | _, _ => .bad

def rowOf (H : List O) : C → Option (List C × Nat × Prop)
  | .iptr row off => some (row, off, True)
  | .ref id ver r off => match H[id]? with
    | some (.cells cur _ rows) => some (rows.getD r [], off, ver = cur ∧ r < rows.length)
    | _ => none
  | _ => none

def loadF (P : Program) (t : TypeId) (a : V) (H : List O) : R :=
  match a with
  | .one c => match tAg P t, rowOf H c with
    | some (g, n), some (row, off, p) => ⟨p ∧ off + wd g n ≤ row.length, True, ldV g n row off, H⟩
    | _, _ => .bad
  | _ => .bad

def storeF (P : Program) (t : TypeId) (a x : V) (H : List O) : R :=
  match a, x.cs, tAg P t with
  | .one (.ref id ver r off), some cs, some (_, n) => match H[id]? with
    | some (.cells cur sz rows) => ⟨ver = cur ∧ r < rows.length ∧ off + cs.length ≤ (rows.getD r []).length ∧ cs.length = n, True, .un,
        H.set id (.cells cur sz (rows.set r (splice (rows.getD r []) off cs)))⟩
    | _ => .bad
  | _, _, _ => .bad

def newF (cs : List C) (H : List O) : R := .ok (.one (.ref H.length 0 0 0)) (H ++ [.cells 0 cs.length [cs]])

def indexAddrF (P : Program) (t : TypeId) (x i : V) (H : List O) : R :=
  match i with
  | .one (.int _ i) => match tAr P t with
    | some (n, _, s) => match x with
      | .one (.ref id ver r off) => match H[id]? with
        | some (.cells cur _ _) => ⟨ver = cur ∧ 0 ≤ i ∧ i < n, True, .one (.ref id ver r (off + i.toNat * s)), H⟩
        | _ => .bad
      | .one (.iptr row off) => ⟨0 ≤ i ∧ i < n, True, .one (.iptr row (off + i.toNat * s)), H⟩
      | _ => .bad
    | none => match tSl P t with
      | some (_, s, _) => match x with
        | .one (.sl rows) => ⟨0 ≤ i ∧ i < rows.length ∧ (nth rows i).length = s, True, .one (.iptr (nth rows i) 0), H⟩
        | .one (.slf rows) => ⟨0 ≤ i ∧ i < rows.length ∧ (nth rows i).length = s, True, .one (.iptr (nth rows i) 0), H⟩
        | .one (.msl id ver lo hi) => match H[id]? with
          | some (.cells cur sz rows) => ⟨ver = cur ∧ sz = s ∧ 0 ≤ i ∧ i < ((hi - lo : Nat) : Int), True, .one (.ref id ver (lo + i.toNat) 0), H⟩
          | _ => .bad
        | _ => .bad
      | none => .bad
  | _ => .bad

def indexF (P : Program) (t : TypeId) (x i : V) (H : List O) : R :=
  match x, i with
  | .one (.str s), .one (.int _ i) => if tIsStr P t then ⟨0 ≤ i ∧ i < s.length, True, .one (.int .u8 (s.getD i.toNat 0).toNat), H⟩ else .bad
  | .agg cs, .one (.int _ i) => match tAr P t with
    | some (n, e, s) => match tAg P e with
      | some (g, m) => ⟨0 ≤ i ∧ i < n ∧ i.toNat * s + wd g m ≤ cs.length, True, ldV g m cs (i.toNat * s), H⟩
      | none => .bad
    | none => .bad
  | _, _ => .bad

def fieldAddrF (P : Program) (t : TypeId) (x : V) (f : Nat) (H : List O) : R :=
  match tFd P t f, x with
  | some (o, _, n), .one (.ref id ver r off) => match H[id]? with
    | some (.cells cur _ _) => ⟨ver = cur ∧ n ≠ 0, True, .one (.ref id ver r (off + o)), H⟩
    | _ => .bad
  | some (o, _, n), .one (.iptr row off) => ⟨n ≠ 0, True, .one (.iptr row (off + o)), H⟩
  | _, _ => .bad

def fieldF (P : Program) (t : TypeId) (x : V) (f : Nat) (H : List O) : R :=
  match tFd P t f, x with
  | some (o, g, n), .agg cs => ⟨o + wd g n ≤ cs.length, True, ldV g n cs o, H⟩
  | _, _ => .bad

def rowsOf (H : List O) : C → Option (List (List C) × Prop)
  | .sl rows => some (rows, True)
  | .slf rows => some (rows, True)
  | .str s => some (s.map fun b => [.int .u8 b.toNat], True)
  | .msl id ver lo hi => match H[id]? with
    | some (.cells cur _ rows) => some ((rows.take hi).drop lo, ver = cur)
    | _ => none
  | _ => none

def makeSliceF (P : Program) (t : TypeId) (l c : V) (H : List O) : R :=
  match l, c, tSl P t with
  | .one (.int _ l), .one (.int _ c), some (e, s, b) => match tZ P e with
    | some z => match z.cs with
      | some zs => ⟨0 ≤ l ∧ l ≤ c ∧ b * c ≤ 281474976710656 ∧ c ≤ lim ∧ zs.length = s, True, .one (.msl H.length 0 0 l.toNat), H ++ [.cells 0 s (List.replicate l.toNat zs)]⟩
      | none => .bad
    | none => .bad
  | _, _, _ => .bad

def bnd (d : Nat) : Option V → Option Int
  | none => some d
  | some (.one (.int _ n)) => some n
  | _ => none

def sliceRows (P : Program) (t : TypeId) (rows : List (List C)) (lo hi mx : Option V) (H : List O) : R :=
  match tSl P t, mx, bnd 0 lo, bnd rows.length hi with
  | some (_, s, _), none, some l, some h => ⟨0 ≤ l ∧ l ≤ h ∧ h ≤ rows.length ∧ (∀ r ∈ rows, r.length = s), True, .one (.sl ((rows.take h.toNat).drop l.toNat)), H⟩
  | some (_, s, _), some m, some l, some h => match bnd 0 (some m) with
    | some m => ⟨0 ≤ l ∧ l ≤ h ∧ h = m ∧ m ≤ rows.length ∧ (∀ r ∈ rows, r.length = s), True, .one (.slf ((rows.take h.toNat).drop l.toNat)), H⟩
    | none => .bad
  | _, _, _, _ => .bad

/-- An array of parts of one cell. -/
def tPa (P : Program) (t : TypeId) : Option Nat :=
  match tAr P t with
  | some (n, _, s) => if s = 1 then some n else none
  | none => none
def sliceF (P : Program) (t : TypeId) (x : V) (lo hi mx : Option V) (H : List O) : R :=
  match x with
  | .one (.str s) => if tIsStr P t then (match mx, bnd 0 lo, bnd s.length hi with
      | none, some l, some h => ⟨0 ≤ l ∧ l ≤ h ∧ h ≤ s.length, True, .one (.str ((s.take h.toNat).drop l.toNat)), H⟩
      | _, _, _ => .bad)
    else .bad
  | .one (.sl rows) => sliceRows P t rows lo hi mx H
  | .one (.slf rows) => sliceRows P t rows lo hi mx H
  | .one (.iptr row off) => match tPa P t, mx, bnd 0 lo with
    | some n, none, some l => match bnd n hi with
      | some h => ⟨0 ≤ l ∧ l ≤ h ∧ h ≤ n ∧ off + n ≤ row.length ∧ n ≤ lim, True, .one (.sl (((((row.drop off).take n).map fun c => [c]).take h.toNat).drop l.toNat)), H⟩
      | none => .bad
    | _, _, _ => .bad
  | .one (.ref id ver 0 off) => match tPa P t, mx, bnd 0 lo, H[id]? with
    | some n, none, some l, some (.cells cur sz [row]) => match bnd n hi with
      | some h => ⟨ver = cur ∧ 0 ≤ l ∧ l ≤ h ∧ h ≤ n ∧ off + n ≤ row.length ∧ n ≤ lim, True, .one (.sl (((((row.drop off).take n).map fun c => [c]).take h.toNat).drop l.toNat)), H.set id .dead⟩
      | none => .bad
    | _, _, _, _ => .bad
  | .one (.msl id ver l0 h0) => match tSl P t, mx, bnd 0 lo, bnd (h0 - l0) hi, H[id]? with
    | some (_, s, _), none, some l, some h, some (.cells cur sz _) => ⟨ver = cur ∧ sz = s ∧ 0 ≤ l ∧ l ≤ h ∧ h ≤ ((h0 - l0 : Nat) : Int), True, .one (.msl id ver (l0 + l.toNat) (l0 + h.toNat)), H⟩
    | _, _, _, _, _ => .bad
  | _ => .bad

def lenF (P : Program) (t : TypeId) (x : V) (H : List O) : R :=
  match x with
  | .one (.str s) => if tIsStr P t then ⟨True, s.length ≤ lim, .one (.int .i64 s.length), H⟩ else .bad
  | .one (.sl rows) => match tSl P t with | some _ => ⟨True, rows.length ≤ lim, .one (.int .i64 rows.length), H⟩ | none => .bad
  | .one (.slf rows) => match tSl P t with | some _ => ⟨True, rows.length ≤ lim, .one (.int .i64 rows.length), H⟩ | none => .bad
  | .one (.msl id ver lo hi) => match tSl P t, H[id]? with
    | some _, some (.cells cur _ rows) => ⟨ver = cur, hi ≤ lim ∧ hi ≤ rows.length ∧ lo ≤ hi, .one (.int .i64 ((hi - lo : Nat) : Int)), H⟩
    | _, _ => .bad
  | _ => match tAr P t with
    | some (n, _, _) => ⟨n ≤ lim, True, .one (.int .i64 n), H⟩
    | none => .bad

/-- 's' with 'new' behind it. -/
def appendF (P : Program) (ts : Array TypeId) (s x : V) (H : List O) : R :=
  match ts[0]?, ts[1]? with
  | some t, some tx => match tSl P t, (tSl P tx).isSome || tIsStr P tx, x with
    | some (e, sz, b), true, .one xc => match tZ P e, rowsOf H xc with
      | some z, some (new, p) => match z.cs with
        | some zs => match s with
          | .one (.slf old) => match new.isEmpty with
            | true => ⟨p ∧ zs.length = sz ∧ 0 < sz, True, .one (.slf old), H⟩
            | false => ⟨p ∧ (old.length + new.length) * b ≤ 140737488355328 ∧ old.length + new.length ≤ lim ∧ zs.length = sz ∧ 0 < sz ∧ (∀ r ∈ new, r.length = sz) ∧ (∀ r ∈ old, r.length = sz), True,
              .one (.msl H.length 0 0 (old.length + new.length)), H ++ [.cells 0 sz (old ++ new)]⟩
          | .one (.msl id ver lo hi) => match H[id]? with
            | some (.cells cur sz' rows) => ⟨p ∧ ver = cur ∧ hi = rows.length ∧ sz' = sz ∧ (hi - lo + new.length) * b ≤ 140737488355328 ∧ hi - lo + new.length ≤ lim ∧ zs.length = sz ∧ 0 < sz ∧ (∀ r ∈ new, r.length = sz), lo ≤ hi,
                .one (.msl id (cur + 1) 0 (hi - lo + new.length)), H.set id (.cells (cur + 1) sz (rows.drop lo ++ new))⟩
            | _ => .bad
          | _ => .bad
        | none => .bad
      | _, _ => .bad
    | _, _, _ => .bad
  | _, _ => .bad

def copyF (P : Program) (ts : Array TypeId) (d x : V) (H : List O) : R :=
  match ts[0]?, d, x with
  | some t, .one (.msl id ver lo hi), .one xc => match tSl P t, H[id]?, rowsOf H xc with
    | some (_, s, _), some (.cells cur sz rows), some (src, p) =>
      ⟨p ∧ ver = cur ∧ sz = s ∧ 0 < s ∧ (∀ r ∈ src, r.length = s), True, .one (.int .i64 (min src.length (hi - lo) : Nat)), H.set id (.cells cur sz (splice rows lo (src.take (hi - lo))))⟩
    | _, _, _ => .bad
  | _, _, _ => .bad

/-- A slice's places with zeros. -/
def clearF (P : Program) (ts : Array TypeId) (x : V) (H : List O) : R :=
  match ts[0]?, x with
  | some t, .one (.msl id ver lo hi) => match tSl P t, H[id]? with
    | some (e, s, _), some (.cells cur sz rows) => match tZ P e with
      | some z => match z.cs with
        | some zs => ⟨ver = cur ∧ sz = s ∧ 0 < s ∧ zs.length = s, True, .tup [], H.set id (.cells cur sz (splice rows lo (List.replicate (hi - lo) zs)))⟩
        | none => .bad
      | none => .bad
    | _, _ => .bad
  | _, _ => .bad

def biF (P : Program) (b : Builtin) (ts : Array TypeId) (args : List V) (H : List O) : R :=
  match b, args with
  | .len, [x] => match ts[0]? with | some t => lenF P t x H | none => .bad
  | .append, [s, x] => appendF P ts s x H
  | .copy, [d, x] => copyF P ts d x H
  | .clear, [x] => clearF P ts x H
  | .max, [.one (.int k a), .one (.int k' b)] => if k = k' then .ok (.one (.int k (if b > a then b else a))) H else .bad
  | .min, [.one (.int k a), .one (.int k' b)] => if k = k' then .ok (.one (.int k (if b < a then b else a))) H else .bad
  | _, _ => .bad

/-! Own slices given up where a row that bears them is appended. -/
def maskF (keep : Bool) (ids : List Nat) : Nat → List O → List O
  | _, [] => []
  | i, o :: r => (if ids.contains i = keep then o else .dead) :: maskF keep ids (i + 1) r
/-- Appends (by their place in the text) of a row that bears own slices. -/
def fzPos (pos : String) : Bool := ["image.go:214", "ref.go:229"].contains pos
def mslIds : List C → List Nat
  | [] => []
  | c :: r => match c with
    | .msl id _ _ _ => id :: mslIds r
    | _ => mslIds r
def fzC (H : List O) (c : C) : C := match c with
  | .msl id ver lo hi => match H[id]? with
    | some (.cells _ _ rows) => .sl ((rows.take hi).drop lo)
    | _ => .msl id ver lo hi
  | .slf rows => .sl rows
  | c => c
def fzPc (H : List O) (c : C) : Prop := match c with
  | .msl id ver _ _ => match H[id]? with
    | some (.cells cur _ _) => ver = cur
    | _ => False
  | _ => True
def fzP (H : List O) : List C → Prop
  | [] => True
  | c :: r => fzPc H c ∧ fzP H r
def andR (p : Prop) (r : R) : R := match r with | ⟨q, f, v, h⟩ => ⟨p ∧ q, f, v, h⟩
def appendZ (P : Program) (ts : Array TypeId) (s x : V) (H : List O) : R := match x with
  | .one (.msl id _ _ _) => match H[id]? with
    | some (.cells cur sz [row]) => andR ((mslIds row).contains id = false ∧ fzP H row) (appendF P ts s x ((maskF false (mslIds row) 0 H).set id (.cells cur sz [row.map (fzC H)])))
    | _ => .bad
  | _ => .bad
def biZ (P : Program) (z : Bool) (b : Builtin) (ts : Array TypeId) (args : List V) (H : List O) : R := match z with
  | false => biF P b ts args H
  | true => match b, args with
    | .append, [s, x] => appendZ P ts s x H
    | _, _ => .bad

def fillC (place : Nat → Option (Nat × Nat)) (cells : List C) : List (Nat × V) → Option (List C)
  | [] => some cells
  | (i, x) :: rest =>
    match place i, x.cs with
    | some (off, size), some cs => if cs.length ≠ size ∨ off + cs.length > cells.length then none else fillC place (splice cells off cs) rest
    | _, _ => none

def tPl (P : Program) (t : TypeId) : Option (Nat → Option (Nat × Nat)) :=
  match P.underlying t with
  | some (.array _ e) => match P.info? e with | some i => some fun k => some (k * i.size, i.size) | none => none
  | some (.struct fs) => match fs.toList.mapM (fun f => (P.info? f.type).map fun i => (f.offset, i.size)) with
    | some places => some fun k => places[k]?
    | none => none
  | _ => none

def buildF (P : Program) (t : TypeId) (parts : List (Nat × V)) (H : List O) : R :=
  match tPl P t, tZ P t with
  | some pl, some z => match z.cs with
    | some zs => match fillC pl zs parts with
      | some cs => .ok (.agg cs) H
      | none => .bad
    | none => .bad
  | _, _ => .bad

/-- A part at a place of a slice's rows: whole rows alone. -/
def fillR (sz : Nat) (rows : List (List C)) : List (Nat × V) → Option (List (List C))
  | [] => some rows
  | (i, x) :: rest =>
    match x.cs with
    | some cs => if cs.length ≠ sz ∨ rows.length ≤ i then none else fillR sz (rows.set i cs) rest
    | none => none

/-- A slice without spare room, as any slice. -/
def C.unf : C → C
  | .slf rows => .sl rows
  | c => c
/-- A cell that holds no place of an own object. -/
def C.plain : C → Bool
  | .int .. => true
  | .bool _ => true
  | .str _ => true
  | .sl _ => true
  | .slf _ => true
  | .nilfn => true
  | .nilif => true
  | .nilp => true
  | .nilm => true
  | _ => false
def unfRows (rows : List (List C)) : List (List C) := rows.map fun r => r.map C.unf
def plainRows (rows : List (List C)) : Bool := rows.all fun r => r.all C.plain
/-- The literals (by their place in the text) that are written to afterwards. -/
def ownLit (pos : String) : Bool := ["lattice.go:13", "image.go:119", "ref.go:123", "ref.go:57"].contains pos
def buildSliceF (P : Program) (own : Bool) (t : TypeId) (n : Nat) (parts : List (Nat × V)) (H : List O) : R :=
  match tSl P t with
  | some (e, s, _) => match tZ P e with
    | some z => match z.cs with
      | some zs => match fillR s (List.replicate n zs) parts with
        | some rows => match plainRows rows && !own with
          | true => ⟨n * s ≤ 16777216 ∧ 0 < n * s ∧ zs.length = s ∧ n ≤ lim, True, .one (.slf (unfRows rows)), H⟩
          | false => ⟨n * s ≤ 16777216 ∧ 0 < n * s ∧ zs.length = s ∧ n ≤ lim, True, .one (.msl H.length 0 0 n), H ++ [.cells 0 s rows]⟩
        | none => .bad
      | none => .bad
    | none => .bad
  | none => .bad

def keyEq : C → C → Option Bool
  | .int k a, .int k' b => if k = k' then some (decide (a = b)) else none
  | .str a, .str b => some (decide (a = b))
  | _, _ => none

def xnot (k : IntKind) (n : Int) : Int := k.wrap (BitVec.ofInt k.bits (if k.signed then -1 else k.max) ^^^ BitVec.ofInt k.bits n).toNat

def unF (op : UnOp) (x : V) (H : List O) : R :=
  match op, x with
  | .not, .one (.bool b) => .ok (.one (.bool (!b))) H
  | .neg, .one (.int k n) => .ok (.one (.int k (k.wrap (0 - n)))) H
  | .xor, .one (.int k n) => .ok (.one (.int k (xnot k n))) H
  | _, _ => .bad

def sBytes (b : List UInt8) : List Int := b.map fun x => (x.toNat : Int)
def strRows (b : List UInt8) : List (List C) := (sBytes b).map fun n => [.int .u8 n]
/-- A string into bytes of one's own, or into another string. -/
def strConvF (P : Program) (s d : TypeId) (b : List UInt8) (H : List O) : R := match P.underlying s, P.underlying d with
  | some _, some (.slice e) => match P.underlying e with
    | some (.int .u8) => .ok (.one (.msl H.length 0 0 (sBytes b).length)) (H ++ [.cells 0 1 (strRows b)])
    | _ => .bad
  | some _, some .string => .ok (.one (.str b)) H
  | _, _ => .bad

def byteRow : List C → Bool
  | [.int .u8 _] => true
  | _ => false
def rowByte : List C → UInt8
  | [.int .u8 n] => UInt8.ofNat n.toNat
  | _ => 0
/-- Bytes into a string. -/
def bytesConvF (P : Program) (s d : TypeId) (c : C) (H : List O) : R := match P.underlying s, P.underlying d, rowsOf H c with
  | some (.slice e), some .string, some (rows, p) => match P.underlying e with
    | some (.int .u8) => ⟨p ∧ rows.all byteRow = true, True, .one (.str (rows.map rowByte)), H⟩
    | _ => .bad
  | _, _, _ => .bad

/-- Bytes of one's own as the same type: a constant's. -/
def mslConvF (P : Program) (s d : TypeId) (id ver lo hi : Nat) (H : List O) : R := match P.underlying d with
  | some .string => bytesConvF P s d (.msl id ver lo hi) H
  | some (.slice e) => match P.underlying e, H[id]?, decide (s = d) with
    | some (.int .u8), some (.cells cur sz rows), true => ⟨ver = cur ∧ lo = 0 ∧ 0 < rows.length, True, .one (.msl id ver lo hi), H⟩
    | _, _, _ => .bad
  | _ => .bad
def convF (P : Program) (s d : TypeId) (x : V) (H : List O) : R :=
  match x with
  | .one (.int _ n) => match tK P d with
    | some k => if (P.underlying s).isSome then .ok (.one (.int k (k.wrap n))) H else .bad
    | none => .bad
  | .one (.str b) => strConvF P s d b H
  | .one (.sl rows) => bytesConvF P s d (.sl rows) H
  | .one (.slf rows) => bytesConvF P s d (.slf rows) H
  | .one (.msl id ver lo hi) => mslConvF P s d id ver lo hi H
  | _ => .bad

/-- Conversions (by their place in the text) of a string into bytes that nobody writes. -/
def cvPos (pos : String) : Bool := ["ref.go:152"].contains pos
def convZ (P : Program) (z : Bool) (s d : TypeId) (x : V) (H : List O) : R := match z with
  | false => convF P s d x H
  | true => match x with
    | .one (.str b) => (match P.underlying s, P.underlying d with
      | some _, some (.slice e) => (match P.underlying e with | some (.int .u8) => .ok (.one (.sl (strRows b))) H | _ => .bad)
      | _, _ => .bad)
    | _ => .bad

def pickF (c a b : V) (H : List O) : R :=
  match c, a, b with
  | .one (.bool c), .one (.bool x), .one (.bool y) => .ok (.one (.bool (if c then x else y))) H
  | .one (.bool true), x, _ => .ok x H
  | .one (.bool false), _, y => .ok y H
  | _, _, _ => .bad

def onesOf : List V → Option (List C)
  | [] => some []
  | .one c :: r => match onesOf r with | some cs => some (c :: cs) | none => none
  | _ :: _ => none

/-- Of a map's type: the keys' kind, the values' type. Texts and numbers alone are keys. -/
def tMp (P : Program) (t : TypeId) : Option (TypeId × Option IntKind × TypeId) :=
  match P.underlying t with
  | some (.map k e) => match P.underlying k with
    | some .string => some (k, none, e)
    | some (.int kd) => some (k, some kd, e)
    | _ => none
  | _ => none
def keyB (kd : Option IntKind) : C → Bool
  | .str _ => match kd with | none => true | _ => false
  | .int k _ => match kd with | some k' => decide (k = k') | none => false
  | _ => false
def mfind (k : C) : List (C × C) → Option (Option C)
  | [] => some none
  | (k', v) :: r => match keyEq k k' with
    | some true => some (some v)
    | some false => mfind k r
    | none => none
def mput (k v : C) : List (C × C) → Option (List (C × C))
  | [] => some [(k, v)]
  | (k', v') :: r => match keyEq k k' with
    | some true => some ((k, v) :: r)
    | some false => match mput k v r with | some l => some ((k', v') :: l) | none => none
    | none => none
def lookR (z : C) (ok : Bool) (H : List O) : Option (Option C) → R
  | some (some v) => match ok with | true => .ok (.tup [.one v, .one (.bool true)]) H | false => .ok (.one v) H
  | some none => match ok with | true => .ok (.tup [.one z, .one (.bool false)]) H | false => .ok (.one z) H
  | none => .bad
def lookupF (P : Program) (t : TypeId) (m k : V) (ok : Bool) (H : List O) : R :=
  match tMp P t, m, k with
  | some (_, kd, e), .one (.mp id), .one kc => match H[id]?, tZ P e, keyB kd kc with
    | some (.map es), some (.one z), true => lookR z ok H (mfind kc es)
    | _, _, _ => .bad
  | _, _, _ => .bad
def mapPutF (P : Program) (t : TypeId) (m k v : V) (H : List O) : R :=
  match tMp P t, m, k, v with
  | some (_, kd, _), .one (.mp id), .one kc, .one vc => match H[id]?, keyB kd kc with
    | some (.map es), true => match mput kc vc es with
      | some es' => ⟨True, True, .un, H.set id (.map es')⟩
      | none => .bad
    | _, _ => .bad
  | _, _, _, _ => .bad

/-- A struct or an array into an interface, and out of it. -/
def makeIfF (P : Program) (t : TypeId) (x : V) (H : List O) : R := match tAg P t, x with
  | some (true, _), .agg cs => .ok (.one (.ifc t cs)) H
  | _, _ => .bad
def noIfF (P : Program) (a : TypeId) (ok : Bool) (H : List O) : R := match ok, tZ P a with
  | true, some z => .ok (.tup [z, .one (.bool false)]) H
  | _, _ => .bad
def isIfF (ok : Bool) (cs : List C) (H : List O) : R := .ok (if ok then .tup [.agg cs, .one (.bool true)] else .agg cs) H
def typeAssertF (P : Program) (x : V) (a : TypeId) (ok : Bool) (H : List O) : R := match tAg P a, x with
  | some (true, _), .one (.ifc t cs) => if t = a then isIfF ok cs H else noIfF P a ok H
  | some (true, _), .one .nilif => noIfF P a ok H
  | _, _ => .bad

def stepF (P : Program) (pos : String) (op : Op) (ρ : Operand → V) (H : List O) : R :=
  match op with
  | .move x | .assign x => .ok (ρ x) H
  | .pick c a b => pickF (ρ c) (ρ a) (ρ b) H
  | .alloc t => match tZ P t with | some z => (match z.cs with | some zs => newF zs H | none => .bad) | none => .bad
  | .box _ x => match (ρ x).cs with | some cs => newF cs H | none => .bad
  | .load t a => loadF P t (ρ a) H
  | .store t a x => storeF P t (ρ a) (ρ x) H
  | .nilCheck x => match ρ x with
    | .one (.ref a b c d) => (match H[a]? with | some (.cells cur _ _) => ⟨b = cur, True, .one (.ref a b c d), H⟩ | _ => .bad)
    | .one (.iptr r o) => .ok (.one (.iptr r o)) H
    | _ => .bad
  | .binOp op t x y _ => binF P op t (ρ x) (ρ y) H
  | .unOp op _ x => unF op (ρ x) H
  | .convert s d x => convZ P (cvPos pos) s d (ρ x) H
  | .makeFunc (.func f) first cap => if first.size = 0 then (match onesOf (cap.toList.map ρ) with | some cs => .ok (.one (.fn f cs)) H | none => .bad) else .bad
  | .makeMap _ none => .ok (.one (.mp H.length)) (H ++ [.map []])
  | .makeInterface t x => makeIfF P t (ρ x) H
  | .typeAssert x _ a ok => typeAssertF P (ρ x) a ok H
  | .lookup t x k ok => lookupF P t (ρ x) (ρ k) ok H
  | .mapUpdate t m k x => mapPutF P t (ρ m) (ρ k) (ρ x) H
  | .insert t m k x => mapPutF P t (ρ m) (ρ k) (ρ x) H
  | .makeSlice t l c => makeSliceF P t (ρ l) (ρ c) H
  | .slice t x lo hi mx => if mx.isSome && hi.isNone then .bad else sliceF P t (ρ x) (lo.map ρ) (hi.map ρ) (mx.map ρ) H
  | .fieldAddr t x f => fieldAddrF P t (ρ x) f H
  | .field t x f => fieldF P t (ρ x) f H
  | .indexAddr t x i => indexAddrF P t (ρ x) (ρ i) H
  | .index t x i => indexF P t (ρ x) (ρ i) H
  | .extract x i => match ρ x with | .tup vs => (match vs[i]? with | some v => .ok v H | none => .bad) | _ => .bad
  | .build t parts => buildF P t (parts.toList.map fun p => (p.1, ρ p.2)) H
  | .buildSlice t n parts => buildSliceF P (ownLit pos) t n (parts.toList.map fun p => (p.1, ρ p.2)) H
  | .call { callee := .builtin b, args, argTypes } => biZ P (fzPos pos) b argTypes (args.toList.map ρ) H
  | _ => .bad

end Go.Lz
