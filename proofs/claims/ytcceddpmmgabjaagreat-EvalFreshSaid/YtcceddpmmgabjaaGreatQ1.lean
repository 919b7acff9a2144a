/- The parts of a proof: LzG, Lz1, Lz2, Lz3, Lz4, Lz5, Lz6, Lz7, Lz8, Lz9, Lz10 -/
import Derived.Laws.World
import Derived.Calls
import Derived.Laws.Sem
import Derived.Below
import Derived.Laws.AppendOwn
import Derived.Laws.Tables
import Derived.Great.BuildSlice
import Derived.Laws.MakeOwn
import Derived.Laws.IdiomCopy
import Derived.Lib.ConvBytes
import Derived.Laws.BytesString
import Derived.Laws.Small
import Derived.Laws.Strings
import Derived.Laws.StructEq
import Derived.DeepKeys
import Derived.Deep.AppendSrc
import Derived.Laws.BytesArg
import Derived.Laws.Slices
import Derived.MapKept
section
/- LzG: tables that lie ready when the program begins: none here. -/
namespace Go.Lz
set_option linter.unusedVariables false
set_option linter.unusedSimpArgs false
/-- A package-level variable's block, and what its cells hold. -/
def GT : List (Nat × List Value) := []
/-! Places in the text at which the reckoning goes another way: slices' literals that are written to; appends that give up rows; conversions that nobody writes to; calls that stand last; calls whose results are own; regions in which calls turn objects. -/
def ownLitL : List String := ["lattice.go:13"]
def fzPosL : List String := []
def cvPosL : List String := []
def tailPos : List String := []
def mkPosL : List String := ["eval.go:29", "ref.go:31"]
def ownFnL : List String := ["lazaretto/eval.Own"]
def floPos : List String := ["ref.go:79", "eval.go:34", "eval.go:38", "eval.go:103", "eval.go:140"]
end Go.Lz

end
section
/- Lz1: abstract values, how they stand for the model's values, and how that outlives steps of the world. -/
namespace Go.Lz
set_option linter.unusedVariables false
set_option linter.unusedSimpArgs false

/-- The longest slice or string that is spoken of. -/
def lim : Nat := 2 ^ 48

inductive C where
  | int (k : IntKind) (n : Int)
  | bool (b : Bool)
  | str (s : List UInt8)
  | sl (rows : List (List C))
  | slf (rows : List (List C))
  | iptr (row : List C) (off : Nat)
  | fn (f : FuncId) (cap : List C)
  | ifc (t : TypeId) (cs : List C)
  | nilfn | nilif | nilp | nilm
  | ref (id ver row off : Nat)
  | msl (id ver lo hi : Nat)
  | mp (id : Nat)
  deriving Inhabited

inductive O where
  | cells (ver sz : Nat) (rows : List (List C))
  | map (es : List (C × C))
  | dead
  deriving Inhabited

structure Bd where
  blk : Nat
  off : Nat
  cap : Nat

structure Env where
  w : World
  Fr : Nat → Prop
  bd : Nat → Bd
  H : List O

/-- Does an object hold memory? (A slice without any room holds none.) -/
def Env.live (E : Env) (id : Nat) : O → Prop
  | .cells .. => (E.bd id).cap ≠ 0
  | .map _ => True
  | .dead => False

def Env.own (E : Env) (b : Nat) : Prop := ∃ (id : Nat) (o : O), E.H[id]? = some o ∧ E.live id o ∧ (E.bd id).blk = b

/-- A block in which data that never turns may lie. -/
def Env.free (E : Env) (b : Nat) : Prop := b < E.w.heap.size ∧ ¬ E.Fr b ∧ ¬ E.own b

def at2 (rows : List (List C)) (i j : Nat) : Option C := (rows[i]?).bind (·[j]?)

inductive CRel (E : Env) : C → Value → Prop
  | int {k : IntKind} {n : Int} (h : k.min ≤ n ∧ n ≤ k.max) : CRel E (.int k n) (.int k n)
  | bool {b : Bool} : CRel E (.bool b) (.bool b)
  | str {s : List UInt8} {b : ByteArray} (h : b.data.toList = s) (hl : s.length ≤ lim) : CRel E (.str s) (.string b)
  | sl {rows : List (List C)} {a : Option Addr} {n cap : Nat} (vals : Nat → Nat → Value) (sz : Nat) (hn : n = rows.length) (hcap : rows.length ≤ cap) (hlim : rows.length ≤ lim)
      (hsz : ∀ r ∈ rows, r.length = sz)
      (hb : rows ≠ [] → ∃ b off, a = some ⟨b, off, none⟩ ∧ E.free b ∧ ∀ i j c, at2 rows i j = some c → E.w.cell? ⟨b, off + (i * sz + j), none⟩ = some (vals i j))
      (hv : ∀ i j c, at2 rows i j = some c → CRel E c (vals i j)) : CRel E (.sl rows) (.slice a n cap)
  | slf {rows : List (List C)} {v : Value} (h : CRel E (.sl rows) v) (hf : ∃ a, v = .slice a rows.length rows.length) : CRel E (.slf rows) v
  | iptr {row : List C} {off b o : Nat} {v : Value} (vals : Nat → Value) (he : v = .pointer (some ⟨b, o + off, none⟩)) (hb : E.free b) (hc : ∀ j c, row[j]? = some c → E.w.cell? ⟨b, o + j, none⟩ = some (vals j))
      (hv : ∀ j c, row[j]? = some c → CRel E c (vals j)) : CRel E (.iptr row off) v
  | fn {f : FuncId} {cap : List C} {vs : Array Value} (hn : vs.size = cap.length) (hv : ∀ j c, cap[j]? = some c → CRel E c (vs.getD j undef)) : CRel E (.fn f cap) (.func (.func f) #[] vs)
  | ifc {t : TypeId} {cs : List C} {vs : Array Value} (hn : vs.size = cs.length) (hv : ∀ j c, cs[j]? = some c → CRel E c (vs.getD j undef)) : CRel E (.ifc t cs) (.iface t (.agg vs))
  | nilfn : CRel E .nilfn .nilFunc
  | nilif : CRel E .nilif .nilIface
  | nilp : CRel E .nilp (.pointer none)
  | nilm : CRel E .nilm (.map none)
  | ref {id ver row off : Nat} {v : Value} (hid : id < E.H.length) (hc : v.oneCell' = true)
      (h : ∀ cur sz rows, E.H[id]? = some (.cells cur sz rows) → ver ≤ cur ∧ (ver = cur → v = .pointer (some ⟨(E.bd id).blk, (E.bd id).off + (row * sz + off), none⟩))) : CRel E (.ref id ver row off) v
  | msl {id ver lo hi : Nat} {v : Value} (hid : id < E.H.length) (hc : v.oneCell' = true)
      (h : ∀ cur sz rows, E.H[id]? = some (.cells cur sz rows) → ver ≤ cur ∧ (ver = cur → lo ≤ hi ∧ hi ≤ rows.length ∧ ∃ (a : Option Addr) (cap : Nat), v = .slice a (hi - lo) cap ∧ lo + cap = (E.bd id).cap ∧
        (0 < cap → a = some ⟨(E.bd id).blk, (E.bd id).off + lo * sz, none⟩))) : CRel E (.msl id ver lo hi) v
  | mp {id : Nat} {v : Value} (hid : id < E.H.length) (hc : v.oneCell' = true)
      (h : ∀ es, E.H[id]? = some (.map es) → v = .map (some (E.bd id).blk)) : CRel E (.mp id) v

theorem CRel.cell {E : Env} {c : C} {v : Value} (h : CRel E c v) : v.oneCell' = true := by
  induction h with
  | slf h hf ih => exact ih
  | iptr vals he => subst he; rfl
  | ref _ hc => exact hc
  | msl _ hc => exact hc
  | mp _ hc => exact hc
  | _ => rfl

inductive V where
  | one (c : C)
  | agg (cs : List C)
  | tup (vs : List V)
  | un
  deriving Inhabited

inductive VRel (E : Env) : V → Value → Prop
  | one {c : C} {v : Value} (h : CRel E c v) : VRel E (.one c) v
  | agg {cs : List C} {vs : Array Value} (hn : vs.size = cs.length) (h : ∀ j c, cs[j]? = some c → CRel E c (vs.getD j undef)) : VRel E (.agg cs) (.agg vs)
  | tup {Vs : List V} {vs : Array Value} (hn : vs.size = Vs.length) (h : ∀ j x, Vs[j]? = some x → VRel E x (vs.getD j undef)) : VRel E (.tup Vs) (.tuple vs)
  | un {v : Value} : VRel E .un v

/-- A row of memory whose mark, if it bears one, lies behind its cells. -/
def RowAt (w : World) (b : Nat) (arr : Array Value) (ty : TypeId) : Prop := ∃ fz : Nat × Nat, w.heap[b]? = some (.cells arr ty fz) ∧ (fz = (0, 0) ∨ arr.size ≤ fz.1)
theorem RowAt.lt {w : World} {b : Nat} {arr : Array Value} {ty : TypeId} (h : RowAt w b arr ty) : b < w.heap.size := by
  obtain ⟨fz, h, _⟩ := h
  exact (Array.getElem?_eq_some_iff.1 h).1
theorem RowAt.cell? {w : World} {b : Nat} {arr : Array Value} {ty : TypeId} (h : RowAt w b arr ty) (i : Nat) : w.cell? ⟨b, i, none⟩ = arr[i]? := by
  obtain ⟨fz, h, _⟩ := h
  simp [World.cell?, h]
theorem RowAt.congr {w w' : World} {b : Nat} {arr : Array Value} {ty : TypeId} (h : RowAt w b arr ty) (e : w'.heap[b]? = w.heap[b]?) : RowAt w' b arr ty := by
  obtain ⟨fz, h, h2⟩ := h
  exact ⟨fz, by rw [e]; exact h, h2⟩
theorem RowAt.mk0 {w : World} {b : Nat} {arr : Array Value} {ty : TypeId} (h : w.heap[b]? = some (.cells arr ty (0, 0))) : RowAt w b arr ty := ⟨(0, 0), h, .inl rfl⟩
/-- What an own object is in memory. -/
def ORel (E : Env) (id : Nat) : O → Prop
  | .cells _ sz rows => rows.length ≤ (E.bd id).cap ∧ rows.length ≤ lim ∧ (∀ r ∈ rows, r.length = sz) ∧
      ((E.bd id).cap ≠ 0 → ∃ arr ty, RowAt E.w (E.bd id).blk arr ty ∧ (E.bd id).off + (E.bd id).cap * sz ≤ arr.size ∧
      (∀ i j c, at2 rows i j = some c → ∃ v, arr[(E.bd id).off + (i * sz + j)]? = some v ∧ CRel E c v))
  | .map es => ∃ ents clock, E.w.heap[(E.bd id).blk]? = some (.map ents clock) ∧ ents.size = es.length ∧
      (∀ (i : Nat) (k x : C), es[i]? = some (k, x) → ∃ e : MapEntry, ents[i]? = some e ∧ CRel E k e.key ∧ CRel E x e.val)
  | .dead => True

/-- The tables that lie ready are as they were laid, and nobody's own. -/
def Env.gl (E : Env) : Prop := ∀ p ∈ GT, E.free p.1 ∧ ∀ (j : Nat) (v : Value), p.2[j]? = some v → E.w.cell? ⟨p.1, j, none⟩ = some v
theorem Env.gl.of {E E' : Env} (h : E.gl) (hf : ∀ b, E.free b → E'.free b) (hw : ∀ b o, E.free b → E'.w.cell? ⟨b, o, none⟩ = E.w.cell? ⟨b, o, none⟩) : E'.gl :=
  fun p hp => ⟨hf _ (h p hp).1, fun j v hj => by rw [hw _ _ (h p hp).1]; exact (h p hp).2 j v hj⟩

structure HRel (E : Env) : Prop where
  obj : ∀ (id : Nat) (o : O), E.H[id]? = some o → ORel E id o
  dist : ∀ (i j : Nat) (x y : O), E.H[i]? = some x → E.H[j]? = some y → E.live i x → E.live j y → i ≠ j → (E.bd i).blk ≠ (E.bd j).blk
  nofr : ∀ (i : Nat) (x : O), E.H[i]? = some x → E.live i x → ¬ E.Fr (E.bd i).blk
  frlt : ∀ b, E.Fr b → b < E.w.heap.size
  glob : E.gl

theorem HRel.own_lt {E : Env} (h : HRel E) {b : Nat} (hb : E.own b) : b < E.w.heap.size := by
  obtain ⟨id, o, ho, hl, rfl⟩ := hb
  have := h.obj id o ho
  cases o with
  | cells ver sz rows =>
    obtain ⟨_, _, _, hh⟩ := this
    obtain ⟨arr, ty, hh, _⟩ := hh hl
    exact hh.lt
  | map es =>
    obtain ⟨ents, clock, hh, _⟩ := this
    rcases Nat.lt_or_ge (E.bd id).blk E.w.heap.size with h' | h'
    · exact h'
    · simp [Array.getElem?_eq_none h'] at hh
  | dead => exact hl.elim

structure Trans (E E' : Env) : Prop where
  fr : E'.Fr = E.Fr
  size : E.w.heap.size ≤ E'.w.heap.size
  os : E'.w.os = E.w.os
  tape : E'.w.tape = E.w.tape
  output : E'.w.output = E.w.output
  keep : ∀ b, b < E.w.heap.size → ¬ E.own b → E'.w.heap[b]? = E.w.heap[b]?
  own : ∀ b, b < E.w.heap.size → E'.own b → E.own b
  len : E.H.length ≤ E'.H.length
  objC : ∀ id ver' sz' rows', id < E.H.length → E'.H[id]? = some (.cells ver' sz' rows') → ∃ ver sz rows, E.H[id]? = some (.cells ver sz rows) ∧ ver ≤ ver' ∧
    (ver = ver' → sz = sz' ∧ rows.length = rows'.length ∧ E'.bd id = E.bd id)
  objM : ∀ id es', id < E.H.length → E'.H[id]? = some (.map es') → ∃ es, E.H[id]? = some (.map es) ∧ (E'.bd id).blk = (E.bd id).blk

theorem Trans.refl (E : Env) : Trans E E :=
  ⟨rfl, Nat.le_refl _, rfl, rfl, rfl, fun _ _ _ => rfl, fun _ _ h => h, Nat.le_refl _, fun _ ver sz rows _ h => ⟨ver, sz, rows, h, Nat.le_refl _, fun _ => ⟨rfl, rfl, rfl⟩⟩, fun _ es _ h => ⟨es, h, rfl⟩⟩

theorem Trans.trans {a b c : Env} (h : Trans a b) (k : Trans b c) : Trans a c where
  fr := k.fr.trans h.fr
  size := Nat.le_trans h.size k.size
  os := k.os.trans h.os
  tape := k.tape.trans h.tape
  output := k.output.trans h.output
  keep := fun n hn ho => (k.keep n (Nat.lt_of_lt_of_le hn h.size) (fun hb => ho (h.own n hn hb))).trans (h.keep n hn ho)
  own := fun n hn ho => h.own n hn (k.own n (Nat.lt_of_lt_of_le hn h.size) ho)
  len := Nat.le_trans h.len k.len
  objC := fun id ver' sz' rows' hid ho => by
    obtain ⟨ver1, sz1, rows1, h1, l1, e1⟩ := k.objC id ver' sz' rows' (Nat.lt_of_lt_of_le hid h.len) ho
    obtain ⟨ver, sz, rows, h0, l0, e0⟩ := h.objC id ver1 sz1 rows1 hid h1
    refine ⟨ver, sz, rows, h0, Nat.le_trans l0 l1, fun e => ?_⟩
    obtain ⟨a1, a2, a3⟩ := e1 (by omega)
    obtain ⟨b1, b2, b3⟩ := e0 (by omega)
    exact ⟨b1.trans a1, b2.trans a2, a3.trans b3⟩
  objM := fun id es' hid ho => by
    obtain ⟨es1, h1, e1⟩ := k.objM id es' (Nat.lt_of_lt_of_le hid h.len) ho
    obtain ⟨es, h0, e0⟩ := h.objM id es1 hid h1
    exact ⟨es, h0, e1.trans e0⟩

theorem Trans.free {E E' : Env} (t : Trans E E') {b : Nat} (h : E.free b) : E'.free b :=
  ⟨Nat.lt_of_lt_of_le h.1 t.size, by rw [t.fr]; exact h.2.1, fun ho => h.2.2 (t.own b h.1 ho)⟩

theorem Trans.cell? {E E' : Env} (t : Trans E E') {b : Nat} (h : E.free b) (o : Nat) : E'.w.cell? ⟨b, o, none⟩ = E.w.cell? ⟨b, o, none⟩ := by
  simp only [World.cell?, t.keep b h.1 h.2.2]

theorem HRel.gl {E E' : Env} (h : HRel E) (t : Trans E E') : E'.gl := h.glob.of (fun _ hb => t.free hb) (fun _ o hb => t.cell? hb o)

theorem CRel.trans {E E' : Env} (t : Trans E E') {c : C} {v : Value} (h : CRel E c v) : CRel E' c v := by
  induction h with
  | int h => exact .int h
  | bool => exact .bool
  | str h hl => exact .str h hl
  | @sl rows a n cap vals sz hn hcap hlim hsz hb hv ih =>
    refine .sl vals sz hn hcap hlim hsz (fun hne => ?_) ih
    obtain ⟨b, off, ha, hf, hc⟩ := hb hne
    exact ⟨b, off, ha, t.free hf, fun i j c hij => by rw [t.cell? hf]; exact hc i j c hij⟩
  | slf h hf ih => exact .slf ih hf
  | iptr vals he hb hc hv ih => exact .iptr vals he (t.free hb) (fun j c hj => by rw [t.cell? hb]; exact hc j c hj) ih
  | fn hn hv ih => exact .fn hn ih
  | ifc hn hv ih => exact .ifc hn ih
  | nilfn => exact .nilfn
  | nilif => exact .nilif
  | nilp => exact .nilp
  | nilm => exact .nilm
  | @ref id ver row off v hid hc h =>
    refine .ref (Nat.lt_of_lt_of_le hid t.len) hc fun cur' sz' rows' ho => ?_
    obtain ⟨cur, sz, rows, h0, hle, he⟩ := t.objC id cur' sz' rows' hid ho
    obtain ⟨h1, h2⟩ := h cur sz rows h0
    refine ⟨Nat.le_trans h1 hle, fun e => ?_⟩
    obtain ⟨e1, _, e2⟩ := he (by omega)
    rw [e2, ← e1]; exact h2 (by omega)
  | @msl id ver lo hi v hid hc h =>
    refine .msl (Nat.lt_of_lt_of_le hid t.len) hc fun cur' sz' rows' ho => ?_
    obtain ⟨cur, sz, rows, h0, hle, he⟩ := t.objC id cur' sz' rows' hid ho
    obtain ⟨h1, h2⟩ := h cur sz rows h0
    refine ⟨Nat.le_trans h1 hle, fun e => ?_⟩
    obtain ⟨e1, e3, e2⟩ := he (by omega)
    rw [e2, ← e1, ← e3]; exact h2 (by omega)
  | @mp id v hid hc h =>
    refine .mp (Nat.lt_of_lt_of_le hid t.len) hc fun es' ho => ?_
    obtain ⟨es, h0, he⟩ := t.objM id es' hid ho
    rw [he]; exact h es h0

theorem VRel.trans {E E' : Env} (t : Trans E E') {x : V} {v : Value} (h : VRel E x v) : VRel E' x v := by
  induction h with
  | one h => exact .one (h.trans t)
  | agg hn h => exact .agg hn fun j c hj => (h j c hj).trans t
  | tup hn h ih => exact .tup hn ih
  | un => exact .un

/-- The cells of a value, as the model has them. -/
def V.cs : V → Option (List C)
  | .one c => some [c]
  | .agg cs => some cs
  | _ => none

theorem VRel.cells {E : Env} {x : V} {v : Value} {cs : List C} (h : VRel E x v) (hx : x.cs = some cs) :
    v.cells.size = cs.length ∧ ∀ (j : Nat) (c : C), cs[j]? = some c → ∃ y, v.cells[j]? = some y ∧ CRel E c y := by
  cases h with
  | one h =>
    simp only [V.cs, Option.some.injEq] at hx
    subst hx
    have hv : v.cells = #[v] := by
      have := h.cell
      cases v <;> simp [Value.oneCell'] at this <;> rfl
    rw [hv]
    refine ⟨rfl, fun j c hj => ?_⟩
    cases j with
    | zero => simp at hj; subst hj; exact ⟨v, rfl, h⟩
    | succ j => simp at hj
  | agg hn h =>
    simp only [V.cs, Option.some.injEq] at hx
    subst hx
    refine ⟨hn, fun j c hj => ?_⟩
    have hlt : j < _ := (List.getElem?_eq_some_iff.1 hj).1
    rename_i vs
    have hlt' : j < vs.size := by omega
    refine ⟨vs[j], by simp [Value.cells, hlt'], ?_⟩
    have := h j c hj
    simpa [Array.getD, hlt'] using this
  | tup hn h => simp [V.cs] at hx
  | un => simp [V.cs] at hx

end Go.Lz

end
section
/- Lz2: how the heap of abstract objects turns as the world turns. -/
namespace Go.Lz
set_option linter.unusedVariables false
set_option linter.unusedSimpArgs false

theorem ORel.keep {E E' : Env} (t : Trans E E') {id : Nat} {o : O} (h : ORel E id o) (hbd : E'.bd id = E.bd id) (hb : E.live id o → E'.w.heap[(E.bd id).blk]? = E.w.heap[(E.bd id).blk]?) : ORel E' id o := by
  cases o with
  | cells ver sz rows =>
    obtain ⟨h3, h4, h5, h6⟩ := h
    refine ⟨by rw [hbd]; exact h3, h4, h5, fun hc => ?_⟩
    rw [hbd] at hc
    obtain ⟨arr, ty, h1, h2, h6⟩ := h6 hc
    refine ⟨arr, ty, ?_, ?_, ?_⟩
    · rw [hbd]; exact h1.congr (hb hc)
    · rw [hbd]; exact h2
    · intro i j c hij
      obtain ⟨v, hv, hr⟩ := h6 i j c hij
      exact ⟨v, by rw [hbd]; exact hv, hr.trans t⟩
  | map es =>
    obtain ⟨ents, clock, h1, h2, h3⟩ := h
    refine ⟨ents, clock, by rw [hbd, hb trivial]; exact h1, h2, fun i k x hi => ?_⟩
    obtain ⟨e, he, hk, hx⟩ := h3 i k x hi
    exact ⟨e, he, hk.trans t, hx.trans t⟩
  | dead => trivial

theorem HRel.lt {E : Env} (h : HRel E) {id : Nat} {o : O} (ho : E.H[id]? = some o) (hl : E.live id o) : (E.bd id).blk < E.w.heap.size :=
  h.own_lt ⟨id, o, ho, hl, rfl⟩

theorem HRel.own_of {E : Env} {id : Nat} {o : O} (ho : E.H[id]? = some o) (hl : E.live id o) : E.own (E.bd id).blk := ⟨id, o, ho, hl, rfl⟩

theorem live_bd {E E' : Env} {id : Nat} {o : O} (h : E'.bd id = E.bd id) : E'.live id o ↔ E.live id o := by
  cases o <;> simp [Env.live, h]

/-- The world moves on and no block that was there turns. -/
theorem grow_world {E : Env} (h : HRel E) (w' : World) (hs : E.w.heap.size ≤ w'.heap.size) (ho : w'.os = E.w.os) (ht : w'.tape = E.w.tape) (hu : w'.output = E.w.output)
    (hk : ∀ b, b < E.w.heap.size → w'.heap[b]? = E.w.heap[b]?) : Trans E { E with w := w' } ∧ HRel { E with w := w' } := by
  have own : ∀ b, ({ E with w := w' } : Env).own b → E.own b := by
    rintro b ⟨id, o, h1, h2, h3⟩
    exact ⟨id, o, h1, (live_bd (E := E) (E' := { E with w := w' }) rfl).1 h2, h3⟩
  have t : Trans E { E with w := w' } := ⟨rfl, hs, ho, ht, hu, fun b hb _ => hk b hb, fun b _ h => own b h, Nat.le_refl _, fun _ ver sz rows _ h => ⟨ver, sz, rows, h, Nat.le_refl _, fun _ => ⟨rfl, rfl, rfl⟩⟩, fun _ es _ h => ⟨es, h, rfl⟩⟩
  have lv : ∀ {id : Nat} {o : O}, ({ E with w := w' } : Env).live id o → E.live id o := fun {id o} h => (live_bd (E := E) (E' := { E with w := w' }) rfl).1 h
  exact ⟨t, fun id o ho => (h.obj id o ho).keep t rfl (fun hl => hk _ (h.lt ho hl)), fun i j x y hx hy lx ly => h.dist i j x y hx hy (lv lx) (lv ly), fun i x hx lx => h.nofr i x hx (lv lx), fun b hb => Nat.lt_of_lt_of_le (h.frlt b hb) hs, h.gl t⟩

theorem old_get {H : List O} {o : O} {i : Nat} {x : O} (hx : (H ++ [o])[i]? = some x) (hi : i ≠ H.length) : i < H.length ∧ H[i]? = some x := by
  have hlt : i < (H ++ [o]).length := (List.getElem?_eq_some_iff.1 hx).1
  simp at hlt
  refine ⟨by omega, ?_⟩
  simpa [List.getElem?_append_left (show i < H.length by omega)] using hx

/-- A new object, in a new block or without memory. -/
theorem new_obj {E : Env} (h : HRel E) (w' : World) (B : Bd) (o : O) (hs : E.w.heap.size ≤ w'.heap.size) (ho : w'.os = E.w.os) (ht : w'.tape = E.w.tape) (hu : w'.output = E.w.output)
    (hk : ∀ b, b < E.w.heap.size → w'.heap[b]? = E.w.heap[b]?)
    (E' : Env) (hE : E' = ⟨w', E.Fr, fun i => if i = E.H.length then B else E.bd i, E.H ++ [o]⟩) (hB : E'.live E.H.length o → E.w.heap.size ≤ B.blk) :
    Trans E E' ∧ (ORel E' E.H.length o → HRel E') := by
  subst hE
  have bd_old : ∀ {i : Nat}, i ≠ E.H.length → (⟨w', E.Fr, fun i => if i = E.H.length then B else E.bd i, E.H ++ [o]⟩ : Env).bd i = E.bd i := fun {i} hi => by simp [hi]
  have t : Trans E ⟨w', E.Fr, fun i => if i = E.H.length then B else E.bd i, E.H ++ [o]⟩ := by
    refine ⟨rfl, hs, ho, ht, hu, fun b hb _ => hk b hb, ?_, by simp, ?_, ?_⟩
    · rintro b hb ⟨id, x, hx, hlx, hbx⟩
      by_cases hid : id = E.H.length
      · subst hid
        simp at hx
        subst hx
        have := hB hlx
        simp at hbx; omega
      · obtain ⟨_, hx'⟩ := old_get hx hid
        rw [bd_old hid] at hbx
        exact ⟨id, x, hx', (live_bd (bd_old hid)).1 hlx, hbx⟩
    · intro id ver' sz' rows' hid hx
      simp only [List.getElem?_append_left hid] at hx
      exact ⟨ver', sz', rows', hx, Nat.le_refl _, fun _ => ⟨rfl, rfl, by simp [Nat.ne_of_lt hid]⟩⟩
    · intro id es' hid hx
      simp only [List.getElem?_append_left hid] at hx
      exact ⟨es', hx, by simp [Nat.ne_of_lt hid]⟩
  refine ⟨t, fun hn => ⟨?_, ?_, ?_, fun b hb => Nat.lt_of_lt_of_le (h.frlt b hb) hs, h.gl t⟩⟩
  · intro id x hx
    by_cases hid : id = E.H.length
    · subst hid
      simp at hx
      subst hx; exact hn
    · obtain ⟨_, hx'⟩ := old_get hx hid
      exact (h.obj id x hx').keep t (bd_old hid) (fun hl => hk _ (h.lt hx' hl))
  · intro i j x y hx hy lx ly hij
    by_cases hi : i = E.H.length <;> by_cases hj : j = E.H.length
    · omega
    · obtain ⟨_, hy'⟩ := old_get hy hj
      have h1 := h.lt hy' ((live_bd (bd_old hj)).1 ly)
      subst hi
      simp at hx
      subst hx
      have h2 := hB lx
      simp only [if_true, hj, if_false]; omega
    · obtain ⟨_, hx'⟩ := old_get hx hi
      have h1 := h.lt hx' ((live_bd (bd_old hi)).1 lx)
      subst hj
      simp at hy
      subst hy
      have h2 := hB ly
      simp only [if_true, hi, if_false]; omega
    · obtain ⟨_, hx'⟩ := old_get hx hi
      obtain ⟨_, hy'⟩ := old_get hy hj
      rw [bd_old hi, bd_old hj]
      exact h.dist i j x y hx' hy' ((live_bd (bd_old hi)).1 lx) ((live_bd (bd_old hj)).1 ly) hij
  · intro i x hx lx hf
    by_cases hi : i = E.H.length
    · subst hi
      simp at hx
      subst hx
      have h2 := hB lx
      simp at hf
      have := h.frlt _ hf; omega
    · obtain ⟨_, hx'⟩ := old_get hx hi
      rw [bd_old hi] at hf
      exact h.nofr i x hx' ((live_bd (bd_old hi)).1 lx) hf

/-- An own object turns, in its block or in a new one. -/
theorem upd_obj {E : Env} (h : HRel E) (id : Nat) (o o' : O) (w' : World) (B : Bd) (hid : E.H[id]? = some o)
    (hs : E.w.heap.size ≤ w'.heap.size) (ho : w'.os = E.w.os) (ht : w'.tape = E.w.tape) (hu : w'.output = E.w.output)
    (hk : ∀ b, b < E.w.heap.size → (E.live id o → b ≠ (E.bd id).blk) → w'.heap[b]? = E.w.heap[b]?)
    (hC : ∀ ver' sz' rows', o' = .cells ver' sz' rows' → ∃ ver sz rows, o = .cells ver sz rows ∧ ver ≤ ver' ∧ (ver = ver' → sz = sz' ∧ rows.length = rows'.length ∧ B = E.bd id))
    (hM : ∀ es', o' = .map es' → ∃ es, o = .map es ∧ B.blk = (E.bd id).blk)
    (E' : Env) (hE : E' = ⟨w', E.Fr, fun i => if i = id then B else E.bd i, E.H.set id o'⟩) (hB : E'.live id o' → E.live id o ∧ B.blk = (E.bd id).blk ∨ E.w.heap.size ≤ B.blk) :
    Trans E E' ∧ (ORel E' id o' → HRel E') := by
  subst hE
  have hlen : id < E.H.length := (List.getElem?_eq_some_iff.1 hid).1
  have bd_old : ∀ {i : Nat}, i ≠ id → (⟨w', E.Fr, fun i => if i = id then B else E.bd i, E.H.set id o'⟩ : Env).bd i = E.bd i := fun {i} hi => by simp [hi]
  have get : ∀ {i : Nat} {x : O}, (E.H.set id o')[i]? = some x → i ≠ id → E.H[i]? = some x := fun {i x} hx hi => by rwa [List.getElem?_set_ne (Ne.symm hi)] at hx
  have self : ∀ {x : O}, (E.H.set id o')[id]? = some x → x = o' := fun {x} hx => by rw [List.getElem?_set_self hlen] at hx; exact (Option.some.inj hx).symm
  have t : Trans E ⟨w', E.Fr, fun i => if i = id then B else E.bd i, E.H.set id o'⟩ := by
    refine ⟨rfl, hs, ho, ht, hu, fun b hb hno => hk b hb (fun hl e => hno (e ▸ HRel.own_of hid hl)), ?_, by simp, ?_, ?_⟩
    · rintro b hb ⟨j, x, hx, hlx, hbx⟩
      by_cases hj : j = id
      · subst hj
        have := self hx; subst this
        simp at hbx
        rcases hB hlx with ⟨l, e⟩ | e
        · rw [← hbx, e]; exact HRel.own_of hid l
        · omega
      · rw [bd_old hj] at hbx
        exact ⟨j, x, get hx hj, (live_bd (bd_old hj)).1 hlx, hbx⟩
    · intro j ver' sz' rows' hj hx
      by_cases e : j = id
      · subst e
        have := self hx
        obtain ⟨ver, sz, rows, h1, h2, h3⟩ := hC ver' sz' rows' this.symm
        exact ⟨ver, sz, rows, by rw [hid, h1], h2, fun e => by obtain ⟨a, b, c⟩ := h3 e; exact ⟨a, b, by simp [c]⟩⟩
      · exact ⟨ver', sz', rows', get hx e, Nat.le_refl _, fun _ => ⟨rfl, rfl, by simp [e]⟩⟩
    · intro j es' hj hx
      by_cases e : j = id
      · subst e
        have := self hx
        obtain ⟨es, h1, h2⟩ := hM es' this.symm
        exact ⟨es, by rw [hid, h1], by simp [h2]⟩
      · exact ⟨es', get hx e, by simp [e]⟩
  refine ⟨t, fun hn => ⟨?_, ?_, ?_, fun b hb => Nat.lt_of_lt_of_le (h.frlt b hb) hs, h.gl t⟩⟩
  · intro j x hx
    by_cases e : j = id
    · subst e
      have := self hx; subst this
      exact hn
    · have hx' := get hx e
      exact (h.obj j x hx').keep t (bd_old e) (fun hl2 => hk _ (h.lt hx' hl2) (fun hl => h.dist j id x o hx' hid hl2 hl e))
  · intro i j x y hx hy lx ly hij
    by_cases hi : i = id <;> by_cases hj : j = id
    · omega
    · have hy' := get hy hj
      have ly' := (live_bd (bd_old hj)).1 ly
      have h1 := h.lt hy' ly'
      subst hi
      have := self hx; subst this
      rw [bd_old hj]
      simp only [if_true]
      rcases hB lx with ⟨l, e⟩ | e
      · rw [e]; exact h.dist i j o y hid hy' l ly' hij
      · omega
    · have hx' := get hx hi
      have lx' := (live_bd (bd_old hi)).1 lx
      have h1 := h.lt hx' lx'
      subst hj
      have := self hy; subst this
      rw [bd_old hi]
      simp only [if_true]
      rcases hB ly with ⟨l, e⟩ | e
      · rw [e]; exact h.dist i j x o hx' hid lx' l hij
      · omega
    · rw [bd_old hi, bd_old hj]
      exact h.dist i j x y (get hx hi) (get hy hj) ((live_bd (bd_old hi)).1 lx) ((live_bd (bd_old hj)).1 ly) hij
  · intro i x hx lx hf
    by_cases hi : i = id
    · subst hi
      have := self hx; subst this
      simp only [if_true] at hf
      rcases hB lx with ⟨l, e⟩ | e
      · rw [e] at hf; exact h.nofr i o hid l hf
      · have := h.frlt _ hf; omega
    · rw [bd_old hi] at hf
      exact h.nofr i x (get hx hi) ((live_bd (bd_old hi)).1 lx) hf

/-- An own object is given up. -/
theorem kill_obj {E : Env} (h : HRel E) (id : Nat) (E' : Env) (hE : E' = { E with H := E.H.set id .dead }) : Trans E E' ∧ HRel E' := by
  subst hE
  have lv : ∀ {j : Nat} {x : O}, ({ E with H := E.H.set id .dead } : Env).live j x → E.live j x := fun {j x} h => (live_bd (E := E) (E' := { E with H := E.H.set id .dead }) rfl).1 h
  have get : ∀ (j : Nat) (x : O), (E.H.set id .dead)[j]? = some x → E.live j x → E.H[j]? = some x := by
    intro j x hx hl
    rw [List.getElem?_set] at hx
    split at hx
    · split at hx
      · simp at hx; subst hx; exact hl.elim
      · simp at hx
    · exact hx
  have get2 : ∀ (j : Nat) (x : O), (E.H.set id .dead)[j]? = some x → x = .dead ∨ E.H[j]? = some x := by
    intro j x hx
    rw [List.getElem?_set] at hx
    split at hx
    · split at hx
      · simp at hx; exact .inl hx.symm
      · simp at hx
    · exact .inr hx
  have t : Trans E { E with H := E.H.set id .dead } := by
    refine ⟨rfl, Nat.le_refl _, rfl, rfl, rfl, fun _ _ _ => rfl, ?_, by simp, ?_, ?_⟩
    · rintro b hb ⟨j, x, hx, hl, hbx⟩
      exact ⟨j, x, get j x hx (lv hl), lv hl, hbx⟩
    · intro j ver sz rows hj hx
      rcases get2 j _ hx with e | e
      · cases e
      · exact ⟨ver, sz, rows, e, Nat.le_refl _, fun _ => ⟨rfl, rfl, rfl⟩⟩
    · intro j es hj hx
      rcases get2 j _ hx with e | e
      · cases e
      · exact ⟨es, e, rfl⟩
  refine ⟨t, ?_, ?_, ?_, h.frlt, h.gl t⟩
  · intro j x hx
    rcases get2 j x hx with e | e
    · subst e; trivial
    · exact (h.obj j _ e).keep t rfl (fun _ => rfl)
  · intro i j x y hx hy lx ly hij
    exact h.dist i j x y (get i x hx (lv lx)) (get j y hy (lv ly)) (lv lx) (lv ly) hij
  · intro i x hx lx
    exact h.nofr i x (get i x hx (lv lx)) (lv lx)

/-- An empty slice that holds no memory, as an object. -/
theorem seed_obj {E : Env} (h : HRel E) (sz : Nat) (E' : Env) (hE : E' = ⟨E.w, E.Fr, fun i => if i = E.H.length then ⟨0, 0, 0⟩ else E.bd i, E.H ++ [.cells 0 sz []]⟩) :
    Trans E E' ∧ HRel E' ∧ ∀ a, CRel E' (.msl E.H.length 0 0 0) (.slice a 0 0) := by
  obtain ⟨t, hh⟩ := new_obj h E.w ⟨0, 0, 0⟩ (.cells 0 sz []) (Nat.le_refl _) rfl rfl rfl (fun _ _ => rfl) E' hE (by subst hE; simp [Env.live])
  refine ⟨t, hh (by subst hE; exact ⟨Nat.zero_le _, Nat.zero_le _, by simp, fun hc => (hc (by simp)).elim⟩), ?_⟩
  subst hE
  intro a
  refine .msl (by simp) rfl fun cur sz' rows ho => ?_
  simp at ho
  obtain ⟨rfl, rfl, rfl⟩ := ho
  exact ⟨Nat.le_refl _, fun _ => ⟨Nat.le_refl _, Nat.zero_le _, a, 0, rfl, by simp, fun hc => by omega⟩⟩

end Go.Lz

end
section
/- Lz3: what each operation does to abstract values and objects (a reckoning), and the weakest precondition of code over them. -/
namespace Go.Lz
set_option linter.unusedVariables false
set_option linter.unusedSimpArgs false

def loK : IntKind → Int
  | .i8 => -128 | .i16 => -32768 | .i32 => -2147483648 | .i64 => -9223372036854775808 | _ => 0
def hiK : IntKind → Int
  | .i8 => 127 | .i16 => 32767 | .i32 => 2147483647 | .i64 => 9223372036854775807
  | .u8 => 255 | .u16 => 65535 | .u32 => 4294967295 | .u64 => 18446744073709551615

def C.ofV : Value → Option C
  | .int k n => if loK k ≤ n ∧ n ≤ hiK k then some (.int k n) else none
  | .bool b => some (.bool b)
  | .string s => if s.data.toList.length ≤ lim then some (.str s.data.toList) else none
  | .slice none 0 0 => some (.slf [])
  | .pointer none => some .nilp
  | .map none => some .nilm
  | .nilFunc => some .nilfn
  | .nilIface => some .nilif
  | _ => none

def V.ofV : Value → V
  | .agg cs => match cs.toList.mapM C.ofV with | some l => .agg l | none => .un
  | v => match C.ofV v with | some c => .one c | none => .un

/-- What an operation comes to: what it asks, what is learnt, its value, the objects behind it. -/
structure R where
  pre : Prop
  fact : Prop
  v : V
  h : List O

def R.ok (v : V) (h : List O) : R := ⟨True, True, v, h⟩
def R.bad : R := ⟨False, True, .un, []⟩

/-! The table of types. -/
def tAg (P : Program) (t : TypeId) : Option (Bool × Nat) :=
  match P.underlying t, P.info? t with
  | some (.struct _), some i | some (.array ..), some i => some (true, i.size)
  | some _, some i => some (false, i.size)
  | _, _ => none
def tSl (P : Program) (t : TypeId) : Option (Nat × Nat × Nat) :=
  match P.underlying t with
  | some (.slice e) => match P.info? e with | some i => some (e, i.size, i.bytes) | none => none
  | _ => none
def tAr (P : Program) (t : TypeId) : Option (Nat × Nat × Nat) :=
  match P.underlying t with
  | some (.array n e) => match P.info? e with | some i => some (n, e, i.size) | none => none
  | _ => none
def tFd (P : Program) (t : TypeId) (f : Nat) : Option (Nat × Bool × Nat) :=
  match P.underlying t with
  | some (.struct fs) => match fs[f]? with
    | some f => match tAg P f.type with | some (g, n) => some (f.offset, g, n) | none => none
    | none => none
  | _ => none
def tZ (P : Program) (t : TypeId) : Option V :=
  match P.info? t with
  | some i => match i.zero with | some z => some (V.ofV z) | none => none
  | none => none
def tK (P : Program) (t : TypeId) : Option IntKind :=
  match P.underlying t with | some (.int k) => some k | _ => none
def tIsStr (P : Program) (t : TypeId) : Bool :=
  match P.underlying t with | some .string => true | _ => false
def tIsBool (P : Program) (t : TypeId) : Bool :=
  match P.underlying t with | some .bool => true | _ => false

def nth (rows : List (List C)) (i : Int) : List C := rows.getD i.toNat []
def splice {α : Type} (row : List α) (off : Nat) (cs : List α) : List α := row.take off ++ cs ++ row.drop (off + cs.length)
def ldV (g : Bool) (n : Nat) (row : List C) (off : Nat) : V := if g then .agg ((row.drop off).take n) else .one (row.getD off .nilp)
def wd (g : Bool) (n : Nat) : Nat := if g then n else 1

def andI (k : IntKind) (a b : Int) : Int := (BitVec.ofInt k.bits a &&& BitVec.ofInt k.bits b).toNat
def orI (k : IntKind) (a b : Int) : Int := (BitVec.ofInt k.bits a ||| BitVec.ofInt k.bits b).toNat
def xorI (k : IntKind) (a b : Int) : Int := (BitVec.ofInt k.bits a ^^^ BitVec.ofInt k.bits b).toNat
def andNotI (k : IntKind) (a b : Int) : Int := (BitVec.ofInt k.bits a &&& ~~~(BitVec.ofInt k.bits b)).toNat
def intF (op : BinOp) (k : IntKind) (a b : Int) (H : List O) : R :=
  match op with
  | .add => .ok (.one (.int k (k.wrap (a + b)))) H
  | .sub => .ok (.one (.int k (k.wrap (a - b)))) H
  | .mul => .ok (.one (.int k (k.wrap (a * b)))) H
  | .quo => ⟨b ≠ 0, True, .one (.int k (k.wrap (a.tdiv b))), H⟩
  | .rem => ⟨b ≠ 0, True, .one (.int k (a.tmod b)), H⟩
  | .eql => .ok (.one (.bool (decide (a = b)))) H
  | .neq => .ok (.one (.bool (!decide (a = b)))) H
  | .lss => .ok (.one (.bool (decide (a < b)))) H
  | .leq => .ok (.one (.bool (decide (a ≤ b)))) H
  | .gtr => .ok (.one (.bool (decide (b < a)))) H
  | .geq => .ok (.one (.bool (decide (b ≤ a)))) H
  | .and => .ok (.one (.int k (k.wrap (andI k a b)))) H
  | .or => .ok (.one (.int k (k.wrap (orI k a b)))) H
  | .xor => .ok (.one (.int k (k.wrap (xorI k a b)))) H
  | .andNot => .ok (.one (.int k (k.wrap (andNotI k a b)))) H
  | _ => .bad

def shF (op : BinOp) (k : IntKind) (a b : Int) (H : List O) : R :=
  match op with
  | .shl => ⟨0 ≤ b, True, .one (.int k (k.wrap (a * 2 ^ (min b.toNat k.bits)))), H⟩
  | .shr => ⟨0 ≤ b, True, .one (.int k (a.fdiv (2 ^ (min b.toNat k.bits)))), H⟩
  | _ => .bad
def isSh : BinOp → Bool
  | .shl => true
  | .shr => true
  | .add => false
  | .sub => false
  | .mul => false
  | .quo => false
  | .rem => false
  | .and => false
  | .or => false
  | .xor => false
  | .andNot => false
  | .eql => false
  | .neq => false
  | .lss => false
  | .leq => false
  | .gtr => false
  | .geq => false

def strF (op : BinOp) (a b : List UInt8) (H : List O) : R :=
  match op with
  | .add => ⟨a.length + b.length ≤ lim, True, .one (.str (a ++ b)), H⟩
  | .eql => .ok (.one (.bool (decide (a = b)))) H
  | .neq => .ok (.one (.bool (!decide (a = b)))) H
  | .lss => .ok (.one (.bool (Op.bytesLess a b))) H
  | _ => .bad

/-- Data leaf by leaf. -/
inductive Lf where
  | i (k : IntKind) (n : Int)
  | b (b : Bool)
  | s (s : List UInt8)
  deriving DecidableEq
/-- The leaves of a value of a type, if they are of the right kinds. -/
def litC (P : Program) : Nat → TypeId → List C → Option (List Lf)
  | 0, _, _ => none
  | d + 1, t, cs =>
    match P.underlying t, cs with
    | some .bool, [.bool b] => some [.b b]
    | some (.int q), [.int q' n] => if q' = q then some [.i q n] else none
    | some .string, [.str s] => some [.s s]
    | some (.array n e), cs => if cs.length = P.cellsOf t then ((List.range n).mapM fun i => litC P d e ((cs.drop (i * P.cellsOf e)).take (P.cellsOf e))).map List.flatten else none
    | some (.struct fs), cs => if cs.length = P.cellsOf t ∧ fs.all (·.name != "_") = true then (fs.toList.mapM fun f => litC P d f.type ((cs.drop f.offset).take (P.cellsOf f.type))).map List.flatten else none
    | _, _ => none
def aggT (P : Program) (t : TypeId) : Bool := match P.underlying t with | some (.struct _) => true | some (.array _ _) => true | _ => false
def eqT (P : Program) (t : TypeId) : Bool := P.keyTypeAt 20 t && !P.eqGuardType P.depth t && aggT P t
def eqF (P : Program) (op : BinOp) (t : TypeId) (xs ys : List C) (H : List O) : R :=
  match litC P 20 t xs, litC P 20 t ys with
  | some a, some b => match op with
    | .eql => ⟨eqT P t = true, True, .one (.bool (decide (a = b))), H⟩
    | .neq => ⟨eqT P t = true, True, .one (.bool (!decide (a = b))), H⟩
    | _ => .bad
  | _, _ => .bad
def tIsFn (P : Program) (t : TypeId) : Bool := match P.underlying t with | some (.func _ _ _) => true | _ => false
def nilF (P : Program) (op : BinOp) (t : TypeId) (b : Bool) (H : List O) : R :=
  match op with
  | .eql => ⟨tIsFn P t = true, True, .one (.bool b), H⟩
  | .neq => ⟨tIsFn P t = true, True, .one (.bool (!b)), H⟩
  | _ => .bad

def binF (P : Program) (op : BinOp) (t : TypeId) (x y : V) (H : List O) : R :=
  match x, y with
  | .agg xs, .agg ys => eqF P op t xs ys H
  | .one (.fn _ _), .one .nilfn => nilF P op t false H
  | .one .nilfn, .one .nilfn => nilF P op t true H
  | .one (.int k a), .one (.int k' b) => match isSh op with
    | true => shF op k a b H
    | false => if k = k' then intF op k a b H else .bad
  | .one (.str a), .one (.str b) => strF op a b H
  | .one (.bool a), .one (.bool b) => match tIsBool P t, op with
    | true, .eql => .ok (.one (.bool (a == b))) H
    | true, .neq => .ok (.one (.bool (!(a == b)))) H
    | _, _ => .bad
  | _, _ => .bad

def rowOf (H : List O) : C → Option (List C × Nat × Prop)
  | .iptr row off => some (row, off, True)
  | .ref id ver r off => match H[id]? with
    | some (.cells cur _ rows) => some (rows.getD r [], off, ver = cur ∧ r < rows.length)
    | _ => none
  | _ => none

def loadF (P : Program) (t : TypeId) (a : V) (H : List O) : R :=
  match a with
  | .one c => match tAg P t, rowOf H c with
    | some (g, n), some (row, off, p) => ⟨p ∧ off + wd g n ≤ row.length, True, ldV g n row off, H⟩
    | _, _ => .bad
  | _ => .bad

def storeF (P : Program) (t : TypeId) (a x : V) (H : List O) : R :=
  match a, x.cs, tAg P t with
  | .one (.ref id ver r off), some cs, some (_, n) => match H[id]? with
    | some (.cells cur sz rows) => ⟨ver = cur ∧ r < rows.length ∧ off + cs.length ≤ (rows.getD r []).length ∧ cs.length = n, True, .un,
        H.set id (.cells cur sz (rows.set r (splice (rows.getD r []) off cs)))⟩
    | _ => .bad
  | _, _, _ => .bad

def newF (cs : List C) (H : List O) : R := .ok (.one (.ref H.length 0 0 0)) (H ++ [.cells 0 cs.length [cs]])

def indexAddrF (P : Program) (t : TypeId) (x i : V) (H : List O) : R :=
  match i with
  | .one (.int _ i) => match tAr P t with
    | some (n, _, s) => match x with
      | .one (.ref id ver r off) => match H[id]? with
        | some (.cells cur _ _) => ⟨ver = cur ∧ 0 ≤ i ∧ i < n, True, .one (.ref id ver r (off + i.toNat * s)), H⟩
        | _ => .bad
      | .one (.iptr row off) => ⟨0 ≤ i ∧ i < n, True, .one (.iptr row (off + i.toNat * s)), H⟩
      | _ => .bad
    | none => match tSl P t with
      | some (_, s, _) => match x with
        | .one (.sl rows) => ⟨0 ≤ i ∧ i < rows.length ∧ (nth rows i).length = s, True, .one (.iptr (nth rows i) 0), H⟩
        | .one (.slf rows) => ⟨0 ≤ i ∧ i < rows.length ∧ (nth rows i).length = s, True, .one (.iptr (nth rows i) 0), H⟩
        | .one (.msl id ver lo hi) => match H[id]? with
          | some (.cells cur sz rows) => ⟨ver = cur ∧ sz = s ∧ 0 ≤ i ∧ i < ((hi - lo : Nat) : Int), True, .one (.ref id ver (lo + i.toNat) 0), H⟩
          | _ => .bad
        | _ => .bad
      | none => .bad
  | _ => .bad

def indexF (P : Program) (t : TypeId) (x i : V) (H : List O) : R :=
  match x, i with
  | .one (.str s), .one (.int _ i) => if tIsStr P t then ⟨0 ≤ i ∧ i < s.length, True, .one (.int .u8 (s.getD i.toNat 0).toNat), H⟩ else .bad
  | .agg cs, .one (.int _ i) => match tAr P t with
    | some (n, e, s) => match tAg P e with
      | some (g, m) => ⟨0 ≤ i ∧ i < n ∧ i.toNat * s + wd g m ≤ cs.length, True, ldV g m cs (i.toNat * s), H⟩
      | none => .bad
    | none => .bad
  | _, _ => .bad

def fieldAddrF (P : Program) (t : TypeId) (x : V) (f : Nat) (H : List O) : R :=
  match tFd P t f, x with
  | some (o, _, n), .one (.ref id ver r off) => match H[id]? with
    | some (.cells cur _ _) => ⟨ver = cur ∧ n ≠ 0, True, .one (.ref id ver r (off + o)), H⟩
    | _ => .bad
  | some (o, _, n), .one (.iptr row off) => ⟨n ≠ 0, True, .one (.iptr row (off + o)), H⟩
  | _, _ => .bad

def fieldF (P : Program) (t : TypeId) (x : V) (f : Nat) (H : List O) : R :=
  match tFd P t f, x with
  | some (o, g, n), .agg cs => ⟨o + wd g n ≤ cs.length, True, ldV g n cs o, H⟩
  | _, _ => .bad

def rowsOf (H : List O) : C → Option (List (List C) × Prop)
  | .sl rows => some (rows, True)
  | .slf rows => some (rows, True)
  | .str s => some (s.map fun b => [.int .u8 b.toNat], True)
  | .msl id ver lo hi => match H[id]? with
    | some (.cells cur _ rows) => some ((rows.take hi).drop lo, ver = cur)
    | _ => none
  | _ => none

/-- Slices that are made (by their place in the text) and never written to. -/
def mkPos (pos : String) : Bool := mkPosL.contains pos
def makeSliceF (P : Program) (pl : Bool) (t : TypeId) (l c : V) (H : List O) : R :=
  match l, c, tSl P t with
  | .one (.int _ l), .one (.int _ c), some (e, s, b) => match tZ P e with
    | some z => match z.cs with
      | some zs => match pl with
       | true => ⟨0 ≤ l ∧ l ≤ c ∧ b * c ≤ 281474976710656 ∧ c ≤ lim ∧ zs.length = s, True, .one (.sl (List.replicate l.toNat zs)), H⟩
       | false => ⟨0 ≤ l ∧ l ≤ c ∧ b * c ≤ 281474976710656 ∧ c ≤ lim ∧ zs.length = s, True, .one (.msl H.length 0 0 l.toNat), H ++ [.cells 0 s (List.replicate l.toNat zs)]⟩
      | none => .bad
    | none => .bad
  | _, _, _ => .bad

def bnd (d : Nat) : Option V → Option Int
  | none => some d
  | some (.one (.int _ n)) => some n
  | _ => none

def sliceRows (P : Program) (t : TypeId) (rows : List (List C)) (lo hi mx : Option V) (H : List O) : R :=
  match tSl P t, mx, bnd 0 lo, bnd rows.length hi with
  | some (_, s, _), none, some l, some h => ⟨0 ≤ l ∧ l ≤ h ∧ h ≤ rows.length ∧ (∀ r ∈ rows, r.length = s), True, .one (.sl ((rows.take h.toNat).drop l.toNat)), H⟩
  | some (_, s, _), some m, some l, some h => match bnd 0 (some m) with
    | some m => ⟨0 ≤ l ∧ l ≤ h ∧ h = m ∧ m ≤ rows.length ∧ (∀ r ∈ rows, r.length = s), True, .one (.slf ((rows.take h.toNat).drop l.toNat)), H⟩
    | none => .bad
  | _, _, _, _ => .bad

/-- An array of parts of one cell. -/
def tPa (P : Program) (t : TypeId) : Option Nat :=
  match tAr P t with
  | some (n, _, s) => if s = 1 then some n else none
  | none => none
def sliceF (P : Program) (t : TypeId) (x : V) (lo hi mx : Option V) (H : List O) : R :=
  match x with
  | .one (.str s) => if tIsStr P t then (match mx, bnd 0 lo, bnd s.length hi with
      | none, some l, some h => ⟨0 ≤ l ∧ l ≤ h ∧ h ≤ s.length, True, .one (.str ((s.take h.toNat).drop l.toNat)), H⟩
      | _, _, _ => .bad)
    else .bad
  | .one (.sl rows) => sliceRows P t rows lo hi mx H
  | .one (.slf rows) => sliceRows P t rows lo hi mx H
  | .one (.iptr row off) => match tPa P t, mx, bnd 0 lo with
    | some n, none, some l => match bnd n hi with
      | some h => ⟨0 ≤ l ∧ l ≤ h ∧ h ≤ n ∧ off + n ≤ row.length ∧ n ≤ lim, True, .one (.sl (((((row.drop off).take n).map fun c => [c]).take h.toNat).drop l.toNat)), H⟩
      | none => .bad
    | _, _, _ => .bad
  | .one (.ref id ver 0 off) => match tPa P t, mx, bnd 0 lo, H[id]? with
    | some n, none, some l, some (.cells cur sz [row]) => match bnd n hi with
      | some h => ⟨ver = cur ∧ 0 ≤ l ∧ l ≤ h ∧ h ≤ n ∧ off + n ≤ row.length ∧ n ≤ lim, True, .one (.sl (((((row.drop off).take n).map fun c => [c]).take h.toNat).drop l.toNat)), H.set id .dead⟩
      | none => .bad
    | _, _, _, _ => .bad
  | .one (.msl id ver l0 h0) => match tSl P t, mx, bnd 0 lo, bnd (h0 - l0) hi, H[id]? with
    | some (_, s, _), none, some l, some h, some (.cells cur sz _) => ⟨ver = cur ∧ sz = s ∧ 0 ≤ l ∧ l ≤ h ∧ h ≤ ((h0 - l0 : Nat) : Int), True, .one (.msl id ver (l0 + l.toNat) (l0 + h.toNat)), H⟩
    | _, _, _, _, _ => .bad
  | _ => .bad

def lenF (P : Program) (t : TypeId) (x : V) (H : List O) : R :=
  match x with
  | .one (.str s) => if tIsStr P t then ⟨True, s.length ≤ lim, .one (.int .i64 s.length), H⟩ else .bad
  | .one (.sl rows) => match tSl P t with | some _ => ⟨True, rows.length ≤ lim, .one (.int .i64 rows.length), H⟩ | none => .bad
  | .one (.slf rows) => match tSl P t with | some _ => ⟨True, rows.length ≤ lim, .one (.int .i64 rows.length), H⟩ | none => .bad
  | .one (.msl id ver lo hi) => match tSl P t, H[id]? with
    | some _, some (.cells cur _ rows) => ⟨ver = cur, hi ≤ lim ∧ hi ≤ rows.length ∧ lo ≤ hi, .one (.int .i64 ((hi - lo : Nat) : Int)), H⟩
    | _, _ => .bad
  | _ => match tAr P t with
    | some (n, _, _) => ⟨n ≤ lim, True, .one (.int .i64 n), H⟩
    | none => .bad

/-- 's' with 'new' behind it. -/
def appendF (P : Program) (ts : Array TypeId) (s x : V) (H : List O) : R :=
  match ts[0]?, ts[1]? with
  | some t, some tx => match tSl P t, (tSl P tx).isSome || tIsStr P tx, x with
    | some (e, sz, b), true, .one xc => match tZ P e, rowsOf H xc with
      | some z, some (new, p) => match z.cs with
        | some zs => match s with
          | .one (.slf old) => match new.isEmpty with
            | true => ⟨p ∧ zs.length = sz ∧ 0 < sz, True, .one (.slf old), H⟩
            | false => ⟨p ∧ (old.length + new.length) * b ≤ 140737488355328 ∧ old.length + new.length ≤ lim ∧ zs.length = sz ∧ 0 < sz ∧ (∀ r ∈ new, r.length = sz) ∧ (∀ r ∈ old, r.length = sz), True,
              .one (.msl H.length 0 0 (old.length + new.length)), H ++ [.cells 0 sz (old ++ new)]⟩
          | .one (.msl id ver lo hi) => match H[id]? with
            | some (.cells cur sz' rows) => ⟨p ∧ ver = cur ∧ hi = rows.length ∧ sz' = sz ∧ (hi - lo + new.length) * b ≤ 140737488355328 ∧ hi - lo + new.length ≤ lim ∧ zs.length = sz ∧ 0 < sz ∧ (∀ r ∈ new, r.length = sz), lo ≤ hi,
                .one (.msl id (cur + 1) 0 (hi - lo + new.length)), H.set id (.cells (cur + 1) sz (rows.drop lo ++ new))⟩
            | _ => .bad
          | _ => .bad
        | none => .bad
      | _, _ => .bad
    | _, _, _ => .bad
  | _, _ => .bad

def copyF (P : Program) (ts : Array TypeId) (d x : V) (H : List O) : R :=
  match ts[0]?, d, x with
  | some t, .one (.msl id ver lo hi), .one xc => match tSl P t, H[id]?, rowsOf H xc with
    | some (_, s, _), some (.cells cur sz rows), some (src, p) =>
      ⟨p ∧ ver = cur ∧ sz = s ∧ 0 < s ∧ (∀ r ∈ src, r.length = s), True, .one (.int .i64 (min src.length (hi - lo) : Nat)), H.set id (.cells cur sz (splice rows lo (src.take (hi - lo))))⟩
    | _, _, _ => .bad
  | _, _, _ => .bad

/-- A slice's places with zeros. -/
def clearF (P : Program) (ts : Array TypeId) (x : V) (H : List O) : R :=
  match ts[0]?, x with
  | some t, .one (.msl id ver lo hi) => match tSl P t, H[id]? with
    | some (e, s, _), some (.cells cur sz rows) => match tZ P e with
      | some z => match z.cs with
        | some zs => ⟨ver = cur ∧ sz = s ∧ 0 < s ∧ zs.length = s, True, .tup [], H.set id (.cells cur sz (splice rows lo (List.replicate (hi - lo) zs)))⟩
        | none => .bad
      | none => .bad
    | _, _ => .bad
  | _, _ => .bad

def biF (P : Program) (b : Builtin) (ts : Array TypeId) (args : List V) (H : List O) : R :=
  match b, args with
  | .len, [x] => match ts[0]? with | some t => lenF P t x H | none => .bad
  | .append, [s, x] => appendF P ts s x H
  | .copy, [d, x] => copyF P ts d x H
  | .clear, [x] => clearF P ts x H
  | .max, [.one (.int k a), .one (.int k' b)] => if k = k' then .ok (.one (.int k (if b > a then b else a))) H else .bad
  | .min, [.one (.int k a), .one (.int k' b)] => if k = k' then .ok (.one (.int k (if b < a then b else a))) H else .bad
  | _, _ => .bad

/-! Own slices given up where a row that bears them is appended. -/
def maskF (keep : Bool) (ids : List Nat) : Nat → List O → List O
  | _, [] => []
  | i, o :: r => (if ids.contains i = keep then o else .dead) :: maskF keep ids (i + 1) r
/-- Appends (by their place in the text) of a row that bears own slices. -/
def fzPos (pos : String) : Bool := fzPosL.contains pos
def mslIds : List C → List Nat
  | [] => []
  | c :: r => match c with
    | .msl id _ _ _ => id :: mslIds r
    | _ => mslIds r
def fzC (H : List O) (c : C) : C := match c with
  | .msl id ver lo hi => match H[id]? with
    | some (.cells _ _ rows) => .sl ((rows.take hi).drop lo)
    | _ => .msl id ver lo hi
  | .slf rows => .sl rows
  | c => c
def fzPc (H : List O) (c : C) : Prop := match c with
  | .msl id ver _ _ => match H[id]? with
    | some (.cells cur _ _) => ver = cur
    | _ => False
  | _ => True
def fzP (H : List O) : List C → Prop
  | [] => True
  | c :: r => fzPc H c ∧ fzP H r
def andR (p : Prop) (r : R) : R := match r with | ⟨q, f, v, h⟩ => ⟨p ∧ q, f, v, h⟩
def appendZ (P : Program) (ts : Array TypeId) (s x : V) (H : List O) : R := match x with
  | .one (.msl id _ _ _) => match H[id]? with
    | some (.cells cur sz [row]) => andR ((mslIds row).contains id = false ∧ fzP H row) (appendF P ts s x ((maskF false (mslIds row) 0 H).set id (.cells cur sz [row.map (fzC H)])))
    | _ => .bad
  | _ => .bad
def biZ (P : Program) (z : Bool) (b : Builtin) (ts : Array TypeId) (args : List V) (H : List O) : R := match z with
  | false => biF P b ts args H
  | true => match b, args with
    | .append, [s, x] => appendZ P ts s x H
    | _, _ => .bad

def fillC (place : Nat → Option (Nat × Nat)) (cells : List C) : List (Nat × V) → Option (List C)
  | [] => some cells
  | (i, x) :: rest =>
    match place i, x.cs with
    | some (off, size), some cs => if cs.length ≠ size ∨ off + cs.length > cells.length then none else fillC place (splice cells off cs) rest
    | _, _ => none

def tPl (P : Program) (t : TypeId) : Option (Nat → Option (Nat × Nat)) :=
  match P.underlying t with
  | some (.array _ e) => match P.info? e with | some i => some fun k => some (k * i.size, i.size) | none => none
  | some (.struct fs) => match fs.toList.mapM (fun f => (P.info? f.type).map fun i => (f.offset, i.size)) with
    | some places => some fun k => places[k]?
    | none => none
  | _ => none

def buildF (P : Program) (t : TypeId) (parts : List (Nat × V)) (H : List O) : R :=
  match tPl P t, tZ P t with
  | some pl, some z => match z.cs with
    | some zs => match fillC pl zs parts with
      | some cs => .ok (.agg cs) H
      | none => .bad
    | none => .bad
  | _, _ => .bad

/-- A part at a place of a slice's rows: whole rows alone. -/
def fillR (sz : Nat) (rows : List (List C)) : List (Nat × V) → Option (List (List C))
  | [] => some rows
  | (i, x) :: rest =>
    match x.cs with
    | some cs => if cs.length ≠ sz ∨ rows.length ≤ i then none else fillR sz (rows.set i cs) rest
    | none => none

/-- A slice without spare room, as any slice. -/
def C.unf : C → C
  | .slf rows => .sl rows
  | c => c
/-- A cell that holds no place of an own object. -/
def C.plain : C → Bool
  | .int .. => true
  | .bool _ => true
  | .str _ => true
  | .sl _ => true
  | .slf _ => true
  | .nilfn => true
  | .nilif => true
  | .nilp => true
  | .nilm => true
  | _ => false
def unfRows (rows : List (List C)) : List (List C) := rows.map fun r => r.map C.unf
def plainRows (rows : List (List C)) : Bool := rows.all fun r => r.all C.plain
/-- The literals (by their place in the text) that are written to afterwards. -/
def ownLit (pos : String) : Bool := ownLitL.contains pos
def buildSliceF (P : Program) (own : Bool) (t : TypeId) (n : Nat) (parts : List (Nat × V)) (H : List O) : R :=
  match tSl P t with
  | some (e, s, _) => match tZ P e with
    | some z => match z.cs with
      | some zs => match fillR s (List.replicate n zs) parts with
        | some rows => match plainRows rows && !own with
          | true => ⟨n * s ≤ 16777216 ∧ 0 < n * s ∧ zs.length = s ∧ n ≤ lim, True, .one (.slf (unfRows rows)), H⟩
          | false => ⟨n * s ≤ 16777216 ∧ 0 < n * s ∧ zs.length = s ∧ n ≤ lim, True, .one (.msl H.length 0 0 n), H ++ [.cells 0 s rows]⟩
        | none => .bad
      | none => .bad
    | none => .bad
  | none => .bad

def keyEq : C → C → Option Bool
  | .int k a, .int k' b => if k = k' then some (decide (a = b)) else none
  | .str a, .str b => some (decide (a = b))
  | _, _ => none

def xnot (k : IntKind) (n : Int) : Int := k.wrap (BitVec.ofInt k.bits (if k.signed then -1 else k.max) ^^^ BitVec.ofInt k.bits n).toNat

def unF (op : UnOp) (x : V) (H : List O) : R :=
  match op, x with
  | .not, .one (.bool b) => .ok (.one (.bool (!b))) H
  | .neg, .one (.int k n) => .ok (.one (.int k (k.wrap (0 - n)))) H
  | .xor, .one (.int k n) => .ok (.one (.int k (xnot k n))) H
  | _, _ => .bad

def sBytes (b : List UInt8) : List Int := b.map fun x => (x.toNat : Int)
def strRows (b : List UInt8) : List (List C) := (sBytes b).map fun n => [.int .u8 n]
/-- A string into bytes of one's own, or into another string. -/
def strConvF (P : Program) (s d : TypeId) (b : List UInt8) (H : List O) : R := match P.underlying s, P.underlying d with
  | some _, some (.slice e) => match P.underlying e with
    | some (.int .u8) => .ok (.one (.msl H.length 0 0 (sBytes b).length)) (H ++ [.cells 0 1 (strRows b)])
    | _ => .bad
  | some _, some .string => .ok (.one (.str b)) H
  | _, _ => .bad

def byteRow : List C → Bool
  | [.int .u8 _] => true
  | _ => false
def rowByte : List C → UInt8
  | [.int .u8 n] => UInt8.ofNat n.toNat
  | _ => 0
/-- Bytes into a string. -/
def bytesConvF (P : Program) (s d : TypeId) (c : C) (H : List O) : R := match P.underlying s, P.underlying d, rowsOf H c with
  | some (.slice e), some .string, some (rows, p) => match P.underlying e with
    | some (.int .u8) => ⟨p ∧ rows.all byteRow = true, True, .one (.str (rows.map rowByte)), H⟩
    | _ => .bad
  | _, _, _ => .bad

/-- Bytes of one's own as the same type: a constant's. -/
def mslConvF (P : Program) (s d : TypeId) (id ver lo hi : Nat) (H : List O) : R := match P.underlying d with
  | some .string => bytesConvF P s d (.msl id ver lo hi) H
  | some (.slice e) => match P.underlying e, H[id]?, decide (s = d) with
    | some (.int .u8), some (.cells cur sz rows), true => ⟨ver = cur ∧ lo = 0 ∧ 0 < rows.length, True, .one (.msl id ver lo hi), H⟩
    | _, _, _ => .bad
  | _ => .bad
def convF (P : Program) (s d : TypeId) (x : V) (H : List O) : R :=
  match x with
  | .one (.int _ n) => match tK P d with
    | some k => if (P.underlying s).isSome then .ok (.one (.int k (k.wrap n))) H else .bad
    | none => .bad
  | .one (.str b) => strConvF P s d b H
  | .one (.sl rows) => bytesConvF P s d (.sl rows) H
  | .one (.slf rows) => bytesConvF P s d (.slf rows) H
  | .one (.msl id ver lo hi) => mslConvF P s d id ver lo hi H
  | _ => .bad

/-- Conversions (by their place in the text) of a string into bytes that nobody writes. -/
def cvPos (pos : String) : Bool := cvPosL.contains pos
def convZ (P : Program) (z : Bool) (s d : TypeId) (x : V) (H : List O) : R := match z with
  | false => convF P s d x H
  | true => match x with
    | .one (.str b) => (match P.underlying s, P.underlying d with
      | some _, some (.slice e) => (match P.underlying e with | some (.int .u8) => .ok (.one (.sl (strRows b))) H | _ => .bad)
      | _, _ => .bad)
    | _ => .bad

def pickF (c a b : V) (H : List O) : R :=
  match c, a, b with
  | .one (.bool c), .one (.bool x), .one (.bool y) => .ok (.one (.bool (if c then x else y))) H
  | .one (.bool true), x, _ => .ok x H
  | .one (.bool false), _, y => .ok y H
  | _, _, _ => .bad

def onesOf : List V → Option (List C)
  | [] => some []
  | .one c :: r => match onesOf r with | some cs => some (c :: cs) | none => none
  | _ :: _ => none

/-- Of a map's type: the keys' kind, the values' type. Texts and numbers alone are keys. -/
def tMp (P : Program) (t : TypeId) : Option (TypeId × Option IntKind × TypeId) :=
  match P.underlying t with
  | some (.map k e) => match P.underlying k with
    | some .string => some (k, none, e)
    | some (.int kd) => some (k, some kd, e)
    | _ => none
  | _ => none
def keyB (kd : Option IntKind) : C → Bool
  | .str _ => match kd with | none => true | _ => false
  | .int k _ => match kd with | some k' => decide (k = k') | none => false
  | _ => false
def mfind (k : C) : List (C × C) → Option (Option C)
  | [] => some none
  | (k', v) :: r => match keyEq k k' with
    | some true => some (some v)
    | some false => mfind k r
    | none => none
def mput (k v : C) : List (C × C) → Option (List (C × C))
  | [] => some [(k, v)]
  | (k', v') :: r => match keyEq k k' with
    | some true => some ((k, v) :: r)
    | some false => match mput k v r with | some l => some ((k', v') :: l) | none => none
    | none => none
def lookR (z : C) (ok : Bool) (H : List O) : Option (Option C) → R
  | some (some v) => match ok with | true => .ok (.tup [.one v, .one (.bool true)]) H | false => .ok (.one v) H
  | some none => match ok with | true => .ok (.tup [.one z, .one (.bool false)]) H | false => .ok (.one z) H
  | none => .bad
def lookupF (P : Program) (t : TypeId) (m k : V) (ok : Bool) (H : List O) : R :=
  match tMp P t, m, k with
  | some (_, kd, e), .one (.mp id), .one kc => match H[id]?, tZ P e, keyB kd kc with
    | some (.map es), some (.one z), true => lookR z ok H (mfind kc es)
    | _, _, _ => .bad
  | _, _, _ => .bad
def mapPutF (P : Program) (t : TypeId) (m k v : V) (H : List O) : R :=
  match tMp P t, m, k, v with
  | some (_, kd, _), .one (.mp id), .one kc, .one vc => match H[id]?, keyB kd kc with
    | some (.map es), true => match mput kc vc es with
      | some es' => ⟨True, True, .un, H.set id (.map es')⟩
      | none => .bad
    | _, _ => .bad
  | _, _, _, _ => .bad

/-- A struct or an array into an interface, and out of it. -/
def makeIfF (P : Program) (t : TypeId) (x : V) (H : List O) : R := match tAg P t, x with
  | some (true, _), .agg cs => .ok (.one (.ifc t cs)) H
  | _, _ => .bad
def noIfF (P : Program) (a : TypeId) (ok : Bool) (H : List O) : R := match ok, tZ P a with
  | true, some z => .ok (.tup [z, .one (.bool false)]) H
  | _, _ => .bad
def isIfF (ok : Bool) (cs : List C) (H : List O) : R := .ok (if ok then .tup [.agg cs, .one (.bool true)] else .agg cs) H
def typeAssertF (P : Program) (x : V) (a : TypeId) (ok : Bool) (H : List O) : R := match tAg P a, x with
  | some (true, _), .one (.ifc t cs) => if t = a then isIfF ok cs H else noIfF P a ok H
  | some (true, _), .one .nilif => noIfF P a ok H
  | _, _ => .bad

def stepF (P : Program) (pos : String) (op : Op) (ρ : Operand → V) (H : List O) : R :=
  match op with
  | .move x | .assign x => .ok (ρ x) H
  | .pick c a b => pickF (ρ c) (ρ a) (ρ b) H
  | .alloc t => match tZ P t with | some z => (match z.cs with | some zs => newF zs H | none => .bad) | none => .bad
  | .box _ x => match (ρ x).cs with | some cs => newF cs H | none => .bad
  | .load t a => loadF P t (ρ a) H
  | .store t a x => storeF P t (ρ a) (ρ x) H
  | .nilCheck x => match ρ x with
    | .one (.ref a b c d) => (match H[a]? with | some (.cells cur _ _) => ⟨b = cur, True, .one (.ref a b c d), H⟩ | _ => .bad)
    | .one (.iptr r o) => .ok (.one (.iptr r o)) H
    | _ => .bad
  | .binOp op t x y _ => binF P op t (ρ x) (ρ y) H
  | .unOp op _ x => unF op (ρ x) H
  | .convert s d x => convZ P (cvPos pos) s d (ρ x) H
  | .makeFunc (.func f) first cap => if first.size = 0 then (match onesOf (cap.toList.map ρ) with | some cs => .ok (.one (.fn f cs)) H | none => .bad) else .bad
  | .makeMap _ none => .ok (.one (.mp H.length)) (H ++ [.map []])
  | .makeInterface t x => makeIfF P t (ρ x) H
  | .typeAssert x _ a ok => typeAssertF P (ρ x) a ok H
  | .lookup t x k ok => lookupF P t (ρ x) (ρ k) ok H
  | .mapUpdate t m k x => mapPutF P t (ρ m) (ρ k) (ρ x) H
  | .insert t m k x => mapPutF P t (ρ m) (ρ k) (ρ x) H
  | .makeSlice t l c => makeSliceF P (mkPos pos) t (ρ l) (ρ c) H
  | .slice t x lo hi mx => if mx.isSome && hi.isNone then .bad else sliceF P t (ρ x) (lo.map ρ) (hi.map ρ) (mx.map ρ) H
  | .fieldAddr t x f => fieldAddrF P t (ρ x) f H
  | .field t x f => fieldF P t (ρ x) f H
  | .indexAddr t x i => indexAddrF P t (ρ x) (ρ i) H
  | .index t x i => indexF P t (ρ x) (ρ i) H
  | .extract x i => match ρ x with | .tup vs => (match vs[i]? with | some v => .ok v H | none => .bad) | _ => .bad
  | .build t parts => buildF P t (parts.toList.map fun p => (p.1, ρ p.2)) H
  | .buildSlice t n parts => buildSliceF P (ownLit pos) t n (parts.toList.map fun p => (p.1, ρ p.2)) H
  | .call { callee := .builtin b, args, argTypes } => biZ P (fzPos pos) b argTypes (args.toList.map ρ) H
  | _ => .bad

end Go.Lz

end
section
/- Lz4: the reckoning of each operation is what the model does (first part). -/
namespace Go.Lz
set_option linter.unusedVariables false
set_option linter.unusedSimpArgs false

theorem loK_eq (k : IntKind) : k.min = loK k := by cases k <;> rfl
theorem hiK_eq (k : IntKind) : k.max = hiK k := by cases k <;> rfl
theorem wrap_in (k : IntKind) (n : Int) : k.min ≤ k.wrap n ∧ k.wrap n ≤ k.max := by
  cases k <;> simp [IntKind.wrap, IntKind.min, IntKind.max, IntKind.signed, IntKind.bits] <;> omega
theorem C.ofV_rel (E : Env) {v : Value} {c : C} (h : C.ofV v = some c) : CRel E c v := by
  unfold C.ofV at h
  split at h
  · split at h
    · simp at h; subst h; rename_i hh; exact .int (by rw [loK_eq, hiK_eq]; exact hh)
    · simp at h
  · simp at h; subst h; exact .bool
  · split at h
    · simp at h; subst h; rename_i hh; exact .str rfl hh
    · simp at h
  · simp at h; subst h
    exact .slf (.sl (fun _ _ => undef) 0 rfl (Nat.le_refl _) (Nat.zero_le _) (by simp) (by simp) (by simp [at2])) ⟨_, rfl⟩
  · simp at h; subst h; exact .nilp
  · simp at h; subst h; exact .nilm
  · simp at h; subst h; exact .nilfn
  · simp at h; subst h; exact .nilif
  · simp at h

theorem mapM_ofV {vs : List Value} {l : List C} (h : vs.mapM C.ofV = some l) : vs.length = l.length ∧ ∀ (j : Nat) (c : C), l[j]? = some c → ∃ v, vs[j]? = some v ∧ C.ofV v = some c := by
  induction vs generalizing l with
  | nil => simp at h; subst h; simp
  | cons v vs ih =>
    simp only [List.mapM_cons, Option.pure_def, Option.bind_eq_bind] at h
    cases hv : C.ofV v with
    | none => simp [hv] at h
    | some c =>
      cases hr : vs.mapM C.ofV with
      | none => simp [hv, hr] at h
      | some r =>
        simp [hv, hr] at h
        subst h
        obtain ⟨h1, h2⟩ := ih hr
        refine ⟨by simp [h1], fun j c' hj => ?_⟩
        cases j with
        | zero => simp at hj; subst hj; exact ⟨v, rfl, hv⟩
        | succ j => simp at hj; simpa using h2 j c' hj

theorem V.ofV_rel (E : Env) (v : Value) : VRel E (V.ofV v) v := by
  unfold V.ofV
  split
  · rename_i cs
    split
    · rename_i l hl
      obtain ⟨h1, h2⟩ := mapM_ofV hl
      refine .agg (by simpa using h1) fun j c hj => ?_
      obtain ⟨v, hv, hc⟩ := h2 j c hj
      have : cs[j]? = some v := by simpa using hv
      simp only [Array.getD_eq_getD_getElem?, this, Option.getD_some]
      exact C.ofV_rel E hc
    · exact .un
  · split
    · rename_i c hc; exact .one (C.ofV_rel E hc)
    · exact .un

/-- An operation's run, and what was reckoned. -/
def Good (P : Program) (E : Env) (s : Sem Value) (r : R) : Prop :=
  r.pre → r.fact ∧ ∃ v E', s.run P E.w = .ok v E'.w ∧ E'.H = r.h ∧ VRel E' r.v v ∧ HRel E' ∧ Trans E E'

theorem Good.bad {P : Program} {E : Env} {s : Sem Value} : Good P E s .bad := fun h => h.elim

theorem Good.same {P : Program} {E : Env} {s : Sem Value} {r : R} (hE : HRel E) (h : r.pre → r.fact ∧ ∃ v, s.run P E.w = .ok v E.w ∧ r.h = E.H ∧ VRel E r.v v) : Good P E s r := fun hp =>
  let ⟨hf, v, h1, h2, h3⟩ := h hp
  ⟨hf, v, E, h1, h2.symm, h3, hE, Trans.refl E⟩

theorem Good.ok {P : Program} {E : Env} {s : Sem Value} {x : V} (hE : HRel E) (h : ∃ v, s.run P E.w = .ok v E.w ∧ VRel E x v) : Good P E s (.ok x E.H) :=
  .same hE fun _ => ⟨trivial, by obtain ⟨v, h1, h2⟩ := h; exact ⟨v, h1, rfl, h2⟩⟩

theorem add_off (b o n : Nat) : (⟨b, o, none⟩ : Addr).add n = ⟨b, o + n, none⟩ := by
  unfold Addr.add; split <;> simp_all

/-! Rows in memory. -/
def rowIn (E : Env) (row : List C) (b o : Nat) : Prop := ∀ (j : Nat) (c : C), row[j]? = some c → ∃ v, E.w.cell? ⟨b, o + j, none⟩ = some v ∧ CRel E c v

theorem tAg_spec {P : Program} {t : TypeId} {g : Bool} {n : Nat} (h : tAg P t = some (g, n)) :
    ∃ d i, P.underlying t = some d ∧ P.info? t = some i ∧ i.size = n ∧ ∀ (w : World), (isAgg t).run P w = .ok g w := by
  unfold tAg at h
  split at h
  · rename_i fs i hu hi
    simp at h
    exact ⟨_, i, hu, hi, h.2, fun w => by simp [isAgg, run_underlying hu, ← h.1]⟩
  · rename_i n' e i hu hi
    simp at h
    exact ⟨_, i, hu, hi, h.2, fun w => by simp [isAgg, run_underlying hu, ← h.1]⟩
  · rename_i d i h1 h2 hu hi
    simp at h
    refine ⟨_, i, hu, hi, h.2, fun w => ?_⟩
    cases d <;> first
      | exact (h1 _ rfl).elim
      | exact (h2 _ _ rfl).elim
      | simp [isAgg, run_underlying hu, ← h.1]
  · simp at h

theorem sizeOf_run {P : Program} {t : TypeId} {i : TypeInfo} (h : P.info? t = some i) (w : World) : (sizeOf t).run P w = .ok i.size w := by simp [sizeOf, typeInfo, h]

theorem load_ok {P : Program} {E : Env} {t : TypeId} {g : Bool} {n : Nat} (hg : tAg P t = some (g, n)) {row : List C} {b o off : Nat} (hr : rowIn E row b o) (hn : off + wd g n ≤ row.length) :
    ∃ v, (loadVar t ⟨b, o + off, none⟩).run P E.w = .ok v E.w ∧ VRel E (ldV g n row off) v := by
  obtain ⟨d, i, hu, hi, hin, ha⟩ := tAg_spec hg
  have pick : ∀ j, j < row.length → ∃ v, E.w.cell? ⟨b, o + j, none⟩ = some v ∧ ∀ c, row[j]? = some c → CRel E c v := by
    intro j hj
    obtain ⟨v, h1, h2⟩ := hr j row[j] (by simp [hj])
    exact ⟨v, h1, fun c hc => by simp [hj] at hc; exact hc ▸ h2⟩
  cases g with
  | false =>
    simp only [wd] at hn
    have hlt : off < row.length := by simp at hn; omega
    obtain ⟨v, h1, h2⟩ := pick off hlt
    refine ⟨v, by simp [loadVar, ha, h1], ?_⟩
    simp only [ldV, Bool.false_eq_true, if_false]
    exact .one (h2 _ (by simp [List.getD_eq_getElem?_getD, hlt]))
  | true =>
    simp only [wd, if_true] at hn
    have : ∀ j, ∃ v, j < n → (E.w.cell? ⟨b, o + off + j, none⟩ = some v ∧ ∀ c, row[off + j]? = some c → CRel E c v) := by
      intro j
      by_cases hj : j < n
      · obtain ⟨v, h1, h2⟩ := pick (off + j) (by omega)
        exact ⟨v, fun _ => ⟨by rw [Nat.add_assoc]; exact h1, h2⟩⟩
      · exact ⟨undef, fun h => (hj h).elim⟩
    let f : Nat → Value := fun j => Classical.choose (this j)
    have hf : ∀ j, j < n → (E.w.cell? ⟨b, o + off + j, none⟩ = some (f j) ∧ ∀ c, row[off + j]? = some c → CRel E c (f j)) := fun j => Classical.choose_spec (this j)
    have hl := run_loadCells (P := P) E.w ⟨b, o + off, none⟩ n f (fun j hj => by rw [add_off]; exact (hf j hj).1)
    refine ⟨.agg ((List.range n).map f).toArray, ?_, ?_⟩
    · simp [loadVar, ha, sizeOf_run hi, hin, hl]
    · simp only [ldV, if_true]
      refine .agg (by simp; omega) fun j c hj => ?_
      have hlt : j < n := by
        have := (List.getElem?_eq_some_iff.1 hj).1
        simp at this; omega
      have hc : row[off + j]? = some c := by
        rw [List.getElem?_take] at hj
        simp [hlt] at hj
        exact hj
      simp [Array.getD_eq_getD_getElem?, hlt]
      exact (hf j hlt).2 c hc

theorem rowIn_of_iptr {E : Env} {row : List C} {off : Nat} {v : Value} (h : CRel E (.iptr row off) v) : ∃ b o, v = .pointer (some ⟨b, o + off, none⟩) ∧ rowIn E row b o := by
  cases h with
  | iptr vals he hb hc hv => exact ⟨_, _, he, fun j c hj => ⟨vals j, hc j c hj, hv j c hj⟩⟩

theorem at2_row {rows : List (List C)} {r j : Nat} {c : C} (h : (rows.getD r [])[j]? = some c) : at2 rows r j = some c := by
  simp only [List.getD_eq_getElem?_getD] at h
  cases hr : rows[r]? with
  | none => simp [hr] at h
  | some x => simp [hr] at h; simp [at2, hr, h]

theorem ORel.rowIn {E : Env} (hE : HRel E) {id cur sz : Nat} {rows : List (List C)} (ho : E.H[id]? = some (.cells cur sz rows)) (r : Nat) :
    rowIn E (rows.getD r []) (E.bd id).blk ((E.bd id).off + r * sz) := by
  obtain ⟨h3, h4, h5, h6⟩ := hE.obj id _ ho
  intro j c hj
  have hlt : r < rows.length := by
    have := at2_row hj
    simp only [at2, Option.bind_eq_some_iff] at this
    obtain ⟨x, hx, _⟩ := this
    exact (List.getElem?_eq_some_iff.1 hx).1
  obtain ⟨arr, ty, h1, h2, h6⟩ := h6 (by omega)
  obtain ⟨v, hv, hr⟩ := h6 r j c (at2_row hj)
  refine ⟨v, ?_, hr⟩
  rw [h1.cell?]
  simpa [Nat.add_assoc] using hv

theorem rowOf_ok {E : Env} (hE : HRel E) {c : C} {v : Value} {row : List C} {off : Nat} {p : Prop} (hc : CRel E c v) (h : rowOf E.H c = some (row, off, p)) (hp : p) :
    ∃ b o, v = .pointer (some ⟨b, o + off, none⟩) ∧ rowIn E row b o := by
  cases c <;> simp only [rowOf] at h <;> try (cases h; done)
  case iptr r o =>
    cases h
    exact rowIn_of_iptr hc
  case ref id ver r o =>
    split at h
    · rename_i cur sz rows ho
      cases h
      cases hc with
      | ref hid hcell hh =>
        obtain ⟨_, h2⟩ := hh cur sz rows ho
        refine ⟨(E.bd id).blk, (E.bd id).off + r * sz, ?_, ORel.rowIn hE ho r⟩
        rw [h2 hp.1, Nat.add_assoc]
    · cases h

theorem loadF_ok {P : Program} {E : Env} (hE : HRel E) {t : TypeId} {x : V} {v : Value} (hx : VRel E x v) : Good P E (Instr.loadAt t v) (loadF P t x E.H) := by
  unfold loadF
  split
  · rename_i c
    split
    · rename_i g n row off p hg hr
      refine .same hE fun ⟨hp, hn⟩ => ⟨trivial, ?_⟩
      cases hx with
      | one hc =>
        obtain ⟨b, o, rfl, hrow⟩ := rowOf_ok hE hc hr hp
        obtain ⟨u, h1, h2⟩ := load_ok hg hrow hn
        exact ⟨u, by simpa [Instr.loadAt, Instr.sureAddr] using h1, rfl, h2⟩
    · exact .bad
  · exact .bad

end Go.Lz

end
section
/- Lz5: the reckoning of each operation is what the model does (numbers, fields, indexes, stores, new variables). -/
namespace Go.Lz
set_option linter.unusedVariables false
set_option linter.unusedSimpArgs false

def GoodU (P : Program) (E : Env) (s : Sem Unit) (r : R) : Prop :=
  r.pre → r.fact ∧ r.v = .un ∧ ∃ E', s.run P E.w = .ok () E'.w ∧ E'.H = r.h ∧ HRel E' ∧ Trans E E'

theorem GoodU.bad {P : Program} {E : Env} {s : Sem Unit} : GoodU P E s .bad := fun h => h.elim

theorem at2_some {rows : List (List C)} {i j : Nat} {c : C} : at2 rows i j = some c ↔ ∃ r, rows[i]? = some r ∧ r[j]? = some c := by
  simp [at2, Option.bind_eq_some_iff]

theorem splice_get {α : Type} (row : List α) (off : Nat) (cs : List α) (h : off + cs.length ≤ row.length) (j : Nat) :
    (splice row off cs)[j]? = if off ≤ j ∧ j < off + cs.length then cs[j - off]? else row[j]? := by
  unfold splice
  rw [List.append_assoc, List.getElem?_append]
  have h1 : (row.take off).length = off := by simp; omega
  rw [h1]
  split
  · rename_i hj
    rw [if_neg (by omega), List.getElem?_take, if_pos hj]
  · rename_i hj
    rw [List.getElem?_append]
    split
    · rw [if_pos (by omega)]
    · rw [if_neg (by omega), List.getElem?_drop]
      congr 1; omega

theorem splice_len {α : Type} (row : List α) (off : Nat) (cs : List α) (h : off + cs.length ≤ row.length) : (splice row off cs).length = row.length := by
  simp [splice]; omega

theorem RowAt.setRow {w : World} {b : Nat} {arr cs : Array Value} {ty : TypeId} (h : RowAt w b arr ty) (hs : cs.size = arr.size) : RowAt (w.setRow b cs) b cs ty := by
  obtain ⟨fz, h, h2⟩ := h
  exact ⟨fz, setRow_heap w b arr cs ty fz h, by rw [hs]; exact h2⟩
theorem RowAt.store {P : Program} {g o : Nat} {t : TypeId} : ∀ (vs : List Value) (i : Nat) (cur : Array Value) (w : World), RowAt w g cur t → o + i + vs.length ≤ cur.size → (∀ v ∈ vs, v.oneCell' = true) →
    (storeCells ⟨g, o, none⟩ vs i).run P w = .ok () (w.setRow g (cur.toList.take (o + i) ++ vs ++ cur.toList.drop (o + i + vs.length)).toArray)
  | [], i, cur, w, hg, _, _ => by
    obtain ⟨fz, hg, _⟩ := hg
    simp only [storeCells, List.append_nil, List.length_nil, Nat.add_zero, List.take_append_drop, Array.toArray_toList]
    rw [setRow_self w g cur t fz hg]
    rfl
  | v :: rest, i, cur, w, hg, hl, h1 => by
    have hg0 := hg
    obtain ⟨fz, hg, hfz⟩ := hg
    have hi : o + i < cur.size := by simp at hl; omega
    have hadd : (⟨g, o, none⟩ : Addr).add i = ⟨g, o + i, none⟩ := by unfold Addr.add; split <;> simp_all
    have hcell : w.cell? ⟨g, o + i, none⟩ = some cur[o + i] := by simp [World.cell?, hg, hi]
    have hfro : w.frozen? ⟨g, o + i, none⟩ = false := by
      obtain ⟨lo, hi'⟩ := fz
      simp only [World.frozen?, hg, Bool.and_eq_false_iff, decide_eq_false_iff_not]
      rcases hfz with hfz | hfz
      · cases hfz; omega
      · simp only at hfz; omega
    have hst : (Go.store ((⟨g, o, none⟩ : Addr).add i) v).run P w = .ok () (w.setRow g (cur.setIfInBounds (o + i) v)) := by
      rw [hadd, run_store P w _ v _ (h1 v (by simp)), hcell]
      simp [hfro, setCell_eq_setRow w g (o + i) cur t fz v hg]
    have ih := RowAt.store (P := P) (o := o) rest (i + 1) (cur.setIfInBounds (o + i) v) (w.setRow g (cur.setIfInBounds (o + i) v)) (hg0.setRow (by simp)) (by simp at hl ⊢; omega) (fun x hx => h1 x (by simp [hx]))
    simp only [storeCells, Sem.run_bind, hst, Result.andThen_ok, ih, setRow_setRow]
    congr 3
    have e := list_seg_step cur.toList (o + i) v rest (by simp at hl ⊢; omega)
    simpa [Array.toList_setIfInBounds, Nat.add_assoc] using e
/-- A row of an own object is written in part. -/
theorem store_run {P : Program} {E : Env} (hE : HRel E) {id cur sz : Nat} {rows : List (List C)} (ho : E.H[id]? = some (.cells cur sz rows)) {r off : Nat} (hr : r < rows.length)
    {cs : List C} (hoff : off + cs.length ≤ (rows.getD r []).length) {vs : Array Value} (hn : vs.size = cs.length) (hrel : ∀ (j : Nat) (c : C), cs[j]? = some c → ∃ y, vs[j]? = some y ∧ CRel E c y) :
    ∃ E', (storeCells ⟨(E.bd id).blk, (E.bd id).off + (r * sz + off), none⟩ vs.toList).run P E.w = .ok () E'.w ∧ E'.H = E.H.set id (.cells cur sz (rows.set r (splice (rows.getD r []) off cs))) ∧ HRel E' ∧ Trans E E' := by
  obtain ⟨h3, h4, h5, h6⟩ := hE.obj id _ ho
  have hcap : (E.bd id).cap ≠ 0 := by omega
  obtain ⟨arr, ty, h1, h2, h6⟩ := h6 hcap
  have hlive : E.live id (.cells cur sz rows) := hcap
  have hrow : rows.getD r [] = rows[r] := by simp [List.getD_eq_getElem?_getD, hr]
  have hlen : (rows.getD r []).length = sz := by rw [hrow]; exact h5 _ (List.getElem_mem hr)
  rw [hlen] at hoff
  have hrs : r * sz + sz ≤ rows.length * sz := by have := Nat.mul_le_mul_right sz hr; rw [Nat.succ_mul] at this; exact this
  have hrs2 : rows.length * sz ≤ (E.bd id).cap * sz := Nat.mul_le_mul_right sz h3
  have hbound : (E.bd id).off + (r * sz + off) + vs.toList.length ≤ arr.size := by simp [hn]; omega
  have h1c : ∀ v ∈ vs.toList, v.oneCell' = true := by
    intro v hv
    obtain ⟨j, hj, hjv⟩ := List.mem_iff_getElem.1 hv
    have hjs : j < cs.length := by simp at hj; omega
    obtain ⟨y, hy, hc⟩ := hrel j cs[j] (by simp [hjs])
    have hjn : j < vs.size := by omega
    have : y = v := by
      simp only [Array.getElem?_eq_getElem hjn, Option.some.injEq] at hy
      rw [← hy, ← hjv, Array.getElem_toList]
    exact this ▸ hc.cell
  have hrun := RowAt.store (P := P) (o := (E.bd id).off + (r * sz + off)) vs.toList 0 arr E.w h1 (by simpa using hbound) h1c
  simp only [Nat.add_zero] at hrun
  let arr' : Array Value := (arr.toList.take ((E.bd id).off + (r * sz + off)) ++ vs.toList ++ arr.toList.drop ((E.bd id).off + (r * sz + off) + vs.toList.length)).toArray
  have harr' : ∀ k, arr'[k]? = if (E.bd id).off + (r * sz + off) ≤ k ∧ k < (E.bd id).off + (r * sz + off) + vs.toList.length then vs[k - ((E.bd id).off + (r * sz + off))]? else arr[k]? := by
    intro k
    have := splice_get arr.toList ((E.bd id).off + (r * sz + off)) vs.toList (by simpa using hbound) k
    simpa [arr', splice] using this
  have hsize : arr'.size = arr.size := by
    have := splice_len arr.toList ((E.bd id).off + (r * sz + off)) vs.toList (by simpa using hbound)
    simpa [arr', splice] using this
  obtain ⟨t, hh⟩ := upd_obj hE id (.cells cur sz rows) (.cells cur sz (rows.set r (splice (rows.getD r []) off cs))) (E.w.setRow (E.bd id).blk arr') (E.bd id) ho (by simp) rfl rfl rfl
    (fun b hb hne => setRow_other E.w _ b arr' (hne hlive))
    (fun ver' sz' rows' e => by cases e; exact ⟨cur, sz, rows, rfl, Nat.le_refl _, fun _ => ⟨rfl, by simp, rfl⟩⟩) (fun es' e => by cases e) _ rfl (fun _ => .inl ⟨hlive, rfl⟩)
  refine ⟨_, hrun, rfl, hh ?_, t⟩
  refine ⟨?_, by simpa using h4, ?_, fun _ => ⟨arr', ty, ?_, ?_, ?_⟩⟩
  · simp only [if_true]; simpa using h3
  rotate_left
  · simp only [if_true]; exact h1.setRow hsize
  · simp only [if_true]; rw [hsize]; exact h2
  rotate_left
  · intro x hx
    rcases List.mem_or_eq_of_mem_set hx with hx | rfl
    · exact h5 x hx
    · rw [splice_len _ _ _ (by rw [hlen]; exact hoff), hlen]
  · intro i j c hij
    simp only [if_true]
    obtain ⟨x, hx, hxj⟩ := at2_some.1 hij
    rw [List.getElem?_set] at hx
    by_cases hi : r = i
    · subst hi
      simp [hr] at hx
      subst hx
      rw [splice_get rows[r] off cs (by rw [h5 _ (List.getElem_mem hr)]; exact hoff) j] at hxj
      rw [harr']
      by_cases hj : off ≤ j ∧ j < off + cs.length
      · rw [if_pos hj] at hxj
        rw [if_pos (by simp [hn]; omega)]
        obtain ⟨y, hy, hc⟩ := hrel _ _ hxj
        refine ⟨y, ?_, hc.trans t⟩
        rw [← hy]; congr 1; omega
      · rw [if_neg hj] at hxj
        rw [if_neg (by simp [hn]; omega)]
        obtain ⟨v, hv, hc⟩ := h6 r j c (at2_some.2 ⟨rows[r], by simp [hr], hxj⟩)
        exact ⟨v, hv, hc.trans t⟩
    · simp only [hi, if_false] at hx
      obtain ⟨v, hv, hc⟩ := h6 i j c (at2_some.2 ⟨x, hx, hxj⟩)
      refine ⟨v, ?_, hc.trans t⟩
      rw [harr', if_neg ?_]
      · exact hv
      · have hjs : j < sz := by
          have := (List.getElem?_eq_some_iff.1 hxj).1
          rw [h5 x (List.mem_of_getElem? hx)] at this; exact this
        simp only [Array.length_toList, hn]
        rcases Nat.lt_or_gt_of_ne hi with hlt | hlt
        · have := Nat.mul_le_mul_right sz hlt; rw [Nat.succ_mul] at this; omega
        · have := Nat.mul_le_mul_right sz hlt; rw [Nat.succ_mul] at this; omega

theorem ref_addr {E : Env} {id ver r off cur sz : Nat} {rows : List (List C)} {v : Value} (hc : CRel E (.ref id ver r off) v) (ho : E.H[id]? = some (.cells cur sz rows)) (hv : ver = cur) :
    v = .pointer (some ⟨(E.bd id).blk, (E.bd id).off + (r * sz + off), none⟩) := by
  cases hc with
  | ref hid hcell hh => exact (hh cur sz rows ho).2 hv

theorem storeF_ok {P : Program} {E : Env} (hE : HRel E) {t : TypeId} {a x : V} {va vx : Value} (ha : VRel E a va) (hx : VRel E x vx) : GoodU P E (Instr.storeAt t va vx) (storeF P t a x E.H) := by
  unfold storeF
  split
  · rename_i id ver r off cs g n hcs hg
    split
    · rename_i cur sz rows ho
      rintro ⟨hver, hr, hoff, hn⟩
      refine ⟨trivial, rfl, ?_⟩
      cases ha with
      | one ha =>
        have hva := ref_addr ha ho hver
        subst hva
        obtain ⟨d, i, hu, hi, hin, hag⟩ := tAg_spec hg
        obtain ⟨h1, h2⟩ := hx.cells hcs
        obtain ⟨E', hrun, hH, hh, t⟩ := store_run (P := P) hE ho hr hoff h1 h2
        refine ⟨E', ?_, hH, hh, t⟩
        have : vx.cells.size = i.size := by rw [h1, hin, hn]
        simp [Instr.storeAt, Instr.sureAddr, storeVar, sizeOf_run hi, this, hrun]
    · exact .bad
  · exact .bad

theorem new_run {E : Env} (hE : HRel E) {cs : List C} {vs : Array Value} (hn : vs.size = cs.length) (hrel : ∀ (j : Nat) (c : C), cs[j]? = some c → ∃ y, vs[j]? = some y ∧ CRel E c y) (ty : TypeId) :
    ∃ E', E'.w = E.w.alloc (.cells vs ty) ∧ E'.H = E.H ++ [.cells 0 cs.length [cs]] ∧ VRel E' (.one (.ref E.H.length 0 0 0)) (.pointer (some ⟨E.w.heap.size, 0, none⟩)) ∧ HRel E' ∧ Trans E E' := by
  obtain ⟨t, hh⟩ := new_obj hE (E.w.alloc (.cells vs ty)) ⟨E.w.heap.size, 0, 1⟩ (.cells 0 cs.length [cs]) (by simp) rfl rfl rfl (fun b hb => heap_alloc_old E.w _ b hb) _ rfl (fun _ => by simp)
  refine ⟨_, rfl, rfl, ?_, hh ?_, t⟩
  · refine .one (.ref (by simp) rfl fun cur sz rows ho => ?_)
    simp at ho
    obtain ⟨rfl, rfl, rfl⟩ := ho
    exact ⟨Nat.le_refl _, fun _ => by simp⟩
  · refine ⟨?_, ?_, ?_, fun _ => ⟨vs, ty, ?_, ?_, ?_⟩⟩
    · simp
    · simp [lim]
    · simp
    · simp only [if_true]; exact RowAt.mk0 (heap_alloc_new E.w _)
    · simp [hn]
    · intro i j c hij
      obtain ⟨x, hx, hxj⟩ := at2_some.1 hij
      cases i with
      | zero =>
        simp at hx; subst hx
        obtain ⟨y, hy, hc⟩ := hrel j c hxj
        exact ⟨y, by simpa using hy, hc.trans t⟩
      | succ i => simp at hx

theorem box_ok {P : Program} {E : Env} (hE : HRel E) {t : TypeId} {x : V} {v : Value} (hx : VRel E x v) {cs : List C} (hcs : x.cs = some cs) : Good P E (Instr.box t v) (newF cs E.H) := by
  intro _
  obtain ⟨h1, h2⟩ := hx.cells hcs
  obtain ⟨E', hw, hH, hv, hh, t'⟩ := new_run hE h1 h2 t
  exact ⟨trivial, _, E', by simp [Instr.box, newVar, newRow, hw], hH, hv, hh, t'⟩

theorem tZ_spec {P : Program} {t : TypeId} {z : V} (h : tZ P t = some z) : ∃ i zv, P.info? t = some i ∧ i.zero = some zv ∧ z = V.ofV zv := by
  unfold tZ at h
  split at h
  · rename_i i hi
    split at h
    · rename_i zv hz; exact ⟨i, zv, hi, hz, by simpa using h.symm⟩
    · simp at h
  · simp at h

theorem alloc_ok {P : Program} {E : Env} (hE : HRel E) {t : TypeId} {z : V} (hz : tZ P t = some z) {cs : List C} (hcs : z.cs = some cs) (old : Value) : Good P E (Instr.alloc t true old) (newF cs E.H) := by
  intro _
  obtain ⟨i, zv, hi, hzv, rfl⟩ := tZ_spec hz
  obtain ⟨h1, h2⟩ := (V.ofV_rel E zv).cells hcs
  obtain ⟨E', hw, hH, hv, hh, t'⟩ := new_run hE h1 h2 t
  have hrun : (Instr.alloc t true old).run P E.w = .ok (.pointer (some ⟨E.w.heap.size, 0, none⟩)) (E.w.alloc (.cells zv.cells t)) := by
    simp only [Instr.alloc, zeroValue, typeInfo, Sem.run_bind, run_program, Result.andThen_ok, hi, Sem.run_pure, hzv]
    simp [newVar, newRow]
  exact ⟨trivial, _, E', by rw [hrun, hw], hH, hv, hh, t'⟩

theorem tmod_in (k : IntKind) (a b : Int) (h : k.min ≤ a ∧ a ≤ k.max) : k.min ≤ a.tmod b ∧ a.tmod b ≤ k.max := by
  have h0 : k.min ≤ 0 ∧ 0 ≤ k.max := by cases k <;> simp [IntKind.min, IntKind.max, IntKind.signed, IntKind.bits]
  rcases Int.le_total 0 a with ha | ha
  · have h1 := Int.tmod_nonneg b ha
    have h2 : a.tmod b ≤ a := by
      have : (a.tmod b).natAbs ≤ a.natAbs := by rw [Int.natAbs_tmod]; exact Nat.mod_le _ _
      omega
    omega
  · have h1 : a.tmod b ≤ 0 := by
      have := Int.tmod_nonneg b (show 0 ≤ -a by omega)
      rw [Int.neg_tmod] at this; omega
    have h2 : a ≤ a.tmod b := by
      have : (a.tmod b).natAbs ≤ a.natAbs := by rw [Int.natAbs_tmod]; exact Nat.mod_le _ _
      omega
    omega

theorem intF_ok {P : Program} {E : Env} (hE : HRel E) {op : BinOp} {t : TypeId} {k : IntKind} {a b : Int} (ha : k.min ≤ a ∧ a ≤ k.max) (hb : k.min ≤ b ∧ b ≤ k.max) :
    Good P E (binOp op t (.int k a) (.int k b)) (intF op k a b E.H) := by
  have cmp : ∀ (op' : BinOp) (x : Bool), (Op.intCmp op' a b).run P E.w = .ok (.bool x) E.w → (binOp op' t (.int k a) (.int k b)).run P E.w = (Op.intCmp op' a b).run P E.w →
      Good P E (binOp op' t (.int k a) (.int k b)) (.ok (.one (.bool x)) E.H) := fun op' x h1 h2 => .ok hE ⟨_, h2.trans h1, .one .bool⟩
  cases op
  case add => exact .ok hE ⟨_, by simp [binOp, Op.intArith], .one (.int (wrap_in _ _))⟩
  case sub => exact .ok hE ⟨_, by simp [binOp, Op.intArith], .one (.int (wrap_in _ _))⟩
  case mul => exact .ok hE ⟨_, by simp [binOp, Op.intArith], .one (.int (wrap_in _ _))⟩
  case quo => exact .same hE fun h => ⟨trivial, _, by simp [binOp, Op.intDiv, show ¬ b = 0 from h], rfl, .one (.int (wrap_in _ _))⟩
  case rem => exact .same hE fun h => ⟨trivial, _, by simp [binOp, Op.intDiv, show ¬ b = 0 from h], rfl, .one (.int (tmod_in _ _ _ ha))⟩
  case and => exact .ok hE ⟨_, by simp only [binOp, Op.intBits, ne_eq, not_true_eq_false, if_false]; rfl, .one (.int (wrap_in _ _))⟩
  case or => exact .ok hE ⟨_, by simp only [binOp, Op.intBits, ne_eq, not_true_eq_false, if_false]; rfl, .one (.int (wrap_in _ _))⟩
  case xor => exact .ok hE ⟨_, by simp only [binOp, Op.intBits, ne_eq, not_true_eq_false, if_false]; rfl, .one (.int (wrap_in _ _))⟩
  case andNot => exact .ok hE ⟨_, by simp only [binOp, Op.intBits, ne_eq, not_true_eq_false, if_false]; rfl, .one (.int (wrap_in _ _))⟩
  case eql => exact cmp .eql _ rfl (by simp [binOp])
  case neq => exact cmp .neq _ rfl (by simp [binOp])
  case lss => exact cmp .lss _ rfl (by simp [binOp])
  case leq => exact cmp .leq _ rfl (by simp [binOp])
  case gtr => exact cmp .gtr _ rfl (by simp [binOp])
  case geq => exact cmp .geq _ rfl (by simp [binOp])
  all_goals exact .bad

theorem fdiv_in {k : IntKind} {a : Int} {m : Nat} (ha : k.min ≤ a ∧ a ≤ k.max) : k.min ≤ a.fdiv (2 ^ m) ∧ a.fdiv (2 ^ m) ≤ k.max := by
  have hp : (0 : Int) < 2 ^ m := Int.pow_pos (by decide)
  have h0 : k.min ≤ 0 ∧ 0 ≤ k.max := by cases k <;> decide
  rw [Int.fdiv_eq_ediv_of_nonneg _ (Int.le_of_lt hp)]
  rcases Int.lt_or_le a 0 with h | h
  · have h1 : a / 2 ^ m < 0 := Int.ediv_neg_of_neg_of_pos h hp
    have h2 : a ≤ a / 2 ^ m := by
      refine Int.le_ediv_of_mul_le hp ?_
      have := Int.mul_le_mul_of_nonpos_left (Int.le_of_lt h) (show (1 : Int) ≤ 2 ^ m from hp)
      simpa using this
    omega
  · have h1 : 0 ≤ a / 2 ^ m := Int.ediv_nonneg h (Int.le_of_lt hp)
    have h2 : a / 2 ^ m ≤ a := Int.ediv_le_self _ h
    omega

theorem shF_ok {P : Program} {E : Env} (hE : HRel E) {op : BinOp} {t : TypeId} {k k' : IntKind} {a b : Int} (ha : k.min ≤ a ∧ a ≤ k.max) :
    Good P E (binOp op t (.int k a) (.int k' b)) (shF op k a b E.H) := by
  cases op
  case shl => exact .same hE fun h => ⟨trivial, _, by simp [binOp, Op.shift, Int.not_lt.2 h], rfl, .one (.int (wrap_in _ _))⟩
  case shr => exact .same hE fun h => ⟨trivial, _, by simp [binOp, Op.shift, Int.not_lt.2 h], rfl, .one (.int (fdiv_in ha))⟩
  all_goals exact .bad

end Go.Lz

end
section
/- Lz6: the reckoning of each operation is what the model does (strings, truths, places, slices). -/
namespace Go.Lz
set_option linter.unusedVariables false
set_option linter.unusedSimpArgs false

theorem beq_dec {α : Type} [BEq α] [LawfulBEq α] [DecidableEq α] (a b : α) : (a == b) = decide (a = b) := by
  cases h : (a == b) <;> simp_all

theorem strF_ok {P : Program} {E : Env} (hE : HRel E) {op : BinOp} {t : TypeId} {a b : List UInt8} {va vb : ByteArray} (ha : va.data.toList = a) (hb : vb.data.toList = b) :
    Good P E (binOp op t (.string va) (.string vb)) (strF op a b E.H) := by
  have la : va.toList = a := by rw [← ha]; exact ByteArray.toList_eq va
  have lb : vb.toList = b := by rw [← hb]; exact ByteArray.toList_eq vb
  cases op
  case add =>
    refine .same hE fun h => ⟨trivial, .string (va ++ vb), ?_, rfl, .one (.str (by simp [ha, hb]) (by rw [List.length_append]; exact h))⟩
    have h1 : va.size = a.length := by rw [← ha]; rfl
    have h2 : vb.size = b.length := by rw [← hb]; rfl
    have h3 : a.length + b.length ≤ 281474976710656 := h
    have : ¬ (((va.size + vb.size : Nat) : Int) > IntKind.i64.max) := by simp [IntKind.max, IntKind.signed, IntKind.bits]; omega
    simp only [binOp, Op.stringOp, Sem.run_ite, this, if_false, Sem.run_pure]
  case eql => exact .ok hE ⟨.bool (decide (a = b)), by simp only [binOp, Op.stringOp, Sem.run_pure, la, lb, beq_dec], .one .bool⟩
  case neq => exact .ok hE ⟨.bool (!decide (a = b)), by simp only [binOp, Op.stringOp, Sem.run_pure, la, lb, beq_dec], .one .bool⟩
  case lss => exact .ok hE ⟨.bool (Op.bytesLess a b), by simp only [binOp, Op.stringOp, Sem.run_pure, la, lb], .one .bool⟩
  all_goals exact .bad

theorem bool_inv {E : Env} {b : Bool} {v : Value} (h : CRel E (.bool b) v) : v = .bool b := by cases h; rfl
theorem int_inv {E : Env} {k : IntKind} {n : Int} {v : Value} (h : CRel E (.int k n) v) : v = .int k n ∧ k.min ≤ n ∧ n ≤ k.max := by cases h; rename_i h; exact ⟨rfl, h⟩
theorem str_inv {E : Env} {s : List UInt8} {v : Value} (h : CRel E (.str s) v) : ∃ b : ByteArray, v = .string b ∧ b.data.toList = s ∧ s.length ≤ lim := by cases h; rename_i b h1 h2; exact ⟨b, rfl, h1, h2⟩
theorem one_inv {E : Env} {c : C} {v : Value} (h : VRel E (.one c) v) : CRel E c v := by cases h; assumption
theorem agg_inv {E : Env} {cs : List C} {v : Value} (h : VRel E (.agg cs) v) : ∃ vs, v = .agg vs ∧ vs.size = cs.length ∧ ∀ (j : Nat) (c : C), cs[j]? = some c → CRel E c (vs.getD j undef) := by cases h; rename_i vs h1 h2; exact ⟨vs, rfl, h1, h2⟩

theorem tIsBool_spec {P : Program} {t : TypeId} (h : tIsBool P t = true) : P.underlying t = some .bool := by
  unfold tIsBool at h; split at h <;> simp_all
theorem tIsStr_spec {P : Program} {t : TypeId} (h : tIsStr P t = true) : P.underlying t = some .string := by
  unfold tIsStr at h; split at h <;> simp_all
theorem tK_spec {P : Program} {t : TypeId} {k : IntKind} (h : tK P t = some k) : P.underlying t = some (.int k) := by
  unfold tK at h; split at h <;> simp_all
theorem tSl_spec {P : Program} {t : TypeId} {e s b : Nat} (h : tSl P t = some (e, s, b)) : ∃ i, P.underlying t = some (.slice e) ∧ P.info? e = some i ∧ i.size = s ∧ i.bytes = b := by
  unfold tSl at h
  split at h
  · split at h
    · rename_i i hi; simp at h; obtain ⟨rfl, rfl, rfl⟩ := h; exact ⟨i, by assumption, hi, rfl, rfl⟩
    · simp at h
  · simp at h
theorem tAr_spec {P : Program} {t : TypeId} {n e s : Nat} (h : tAr P t = some (n, e, s)) : ∃ i, P.underlying t = some (.array n e) ∧ P.info? e = some i ∧ i.size = s := by
  unfold tAr at h
  split at h
  · split at h
    · rename_i i hi; simp at h; obtain ⟨rfl, rfl, rfl⟩ := h; exact ⟨i, by assumption, hi, rfl⟩
    · simp at h
  · simp at h
theorem tFd_spec {P : Program} {t : TypeId} {f o n : Nat} {g : Bool} (h : tFd P t f = some (o, g, n)) : ∃ fs fd, P.underlying t = some (.struct fs) ∧ fs[f]? = some fd ∧ fd.offset = o ∧ tAg P fd.type = some (g, n) := by
  unfold tFd at h
  split at h
  · rename_i fs hu
    split at h
    · rename_i fd hf
      split at h
      · rename_i g' n' hg; simp at h; obtain ⟨rfl, rfl, rfl⟩ := h; exact ⟨fs, fd, hu, hf, rfl, hg⟩
      · simp at h
    · simp at h
  · simp at h

def Lf.lit : Lf → Lit
  | .i k n => .int k n
  | .b x => .bool x
  | .s x => .string x
theorem Lf.lit_inj {a b : Lf} (h : a.lit = b.lit) : a = b := by
  cases a <;> cases b <;> simp_all [Lf.lit]
theorem lits_inj {a b : List Lf} : a.map Lf.lit = b.map Lf.lit ↔ a = b :=
  ⟨fun h => (List.map_inj_right (fun _ _ => Lf.lit_inj)).1 h, fun h => by rw [h]⟩
theorem mapM_lit {α : Type} {f : α → Option (List Lf)} {g : α → Option (List Lit)} : ∀ {l : List α} {as : List (List Lf)}, (∀ x ∈ l, ∀ la, f x = some la → g x = some (la.map Lf.lit)) → l.mapM f = some as → l.mapM g = some (as.map (·.map Lf.lit))
  | [], as, _, h => by simp at h; subst h; rfl
  | x :: l, as, hx, h => by
    rw [List.mapM_cons] at h ⊢
    simp only [bind, Option.bind_eq_some_iff, pure, Option.some.injEq] at h ⊢
    obtain ⟨la, h1, as', h2, rfl⟩ := h
    exact ⟨_, hx x (by simp) la h1, _, mapM_lit (fun y hy => hx y (by simp [hy])) h2, rfl⟩
/-- Cells that stand for values. -/
def CellsRel (E : Env) (cs : List C) (vs : List Value) : Prop := vs.length = cs.length ∧ ∀ (j : Nat) (c : C), cs[j]? = some c → ∃ v, vs[j]? = some v ∧ CRel E c v
theorem CellsRel.chunk {E : Env} {cs : List C} {vs : List Value} (h : CellsRel E cs vs) (off n : Nat) : CellsRel E ((cs.drop off).take n) ((vs.drop off).take n) := by
  refine ⟨by simp [h.1], fun j c hj => ?_⟩
  rw [List.getElem?_take] at hj ⊢
  split at hj
  · rename_i hlt
    rw [List.getElem?_drop] at hj
    obtain ⟨v, hv, hr⟩ := h.2 _ _ hj
    exact ⟨v, by rw [if_pos hlt, List.getElem?_drop]; exact hv, hr⟩
  · cases hj
theorem CellsRel.single {E : Env} {c : C} {vs : List Value} (h : CellsRel E [c] vs) : ∃ v, vs = [v] ∧ CRel E c v := by
  obtain ⟨h1, h2⟩ := h
  obtain ⟨v, hv, hr⟩ := h2 0 c rfl
  match vs, h1 with
  | [w], _ =>
    simp at hv; subst hv
    exact ⟨w, rfl, hr⟩
theorem lit_ok {P : Program} {E : Env} : ∀ (d : Nat) (t : TypeId) (cs : List C) (vs : List Value) (la : List Lf), litC P d t cs = some la → CellsRel E cs vs → P.keyLits d t vs = some (la.map Lf.lit)
  | 0, t, cs, vs, la, h, _ => by simp [litC] at h
  | d + 1, t, cs, vs, la, h, hr => by
    unfold litC at h
    split at h
    · rename_i b hu
      cases h
      obtain ⟨v, rfl, hv⟩ := hr.single
      have := bool_inv hv; subst this
      simp [Program.keyLits, hu, Lf.lit]
    · rename_i q q' n hu
      split at h
      · rename_i e
        cases h
        obtain ⟨v, rfl, hv⟩ := hr.single
        obtain ⟨rfl, h1, h2⟩ := int_inv hv
        subst e
        simp [Program.keyLits, hu, Lf.lit, Lit.wf, h1, h2]
      · cases h
    · rename_i st hu
      cases h
      obtain ⟨v, rfl, hv⟩ := hr.single
      obtain ⟨b, rfl, h1, h2⟩ := str_inv hv
      have h3 : b.size = st.length := by rw [← h1]; rfl
      have h4 : st.length ≤ 281474976710656 := h2
      have h5 : b.size ≤ maxLen := by rw [h3]; unfold maxLen; omega
      simp only [Program.keyLits, hu, h5, if_true, h1]
      rfl
    · rename_i n e hu
      split at h
      · rename_i hl
        simp only [Option.map_eq_some_iff] at h
        obtain ⟨as, ha, rfl⟩ := h
        have := mapM_lit (g := fun i => P.keyLits d e ((vs.drop (i * P.cellsOf e)).take (P.cellsOf e))) (fun i _ la hla => lit_ok d e _ _ la hla (hr.chunk _ _)) ha
        simp only [Program.keyLits, hu]
        rw [if_pos (by rw [hr.1]; exact hl), this]
        simp [List.map_flatten]
      · cases h
    · rename_i fs hu
      split at h
      · rename_i hl
        simp only [Option.map_eq_some_iff] at h
        obtain ⟨as, ha, rfl⟩ := h
        have := mapM_lit (g := fun f => P.keyLits d f.type ((vs.drop f.offset).take (P.cellsOf f.type))) (fun f _ la hla => lit_ok d f.type _ _ la hla (hr.chunk _ _)) ha
        simp only [Program.keyLits, hu]
        rw [if_pos (by rw [hr.1]; exact hl), this]
        simp [List.map_flatten]
      · cases h
    · cases h
theorem eqT_spec {P : Program} {t : TypeId} (h : eqT P t = true) : P.keyTypeAt 20 t = true ∧ P.eqGuardType P.depth t = false ∧ aggT P t = true := by
  simp only [eqT, Bool.and_eq_true, Bool.not_eq_true'] at h
  exact ⟨h.1.1, h.1.2, h.2⟩
theorem eq_run {P : Program} {E : Env} {t : TypeId} {xs ys : List C} {vx vy : Array Value} {a b : List Lf} (ha : litC P 20 t xs = some a) (hb : litC P 20 t ys = some b) (ht : eqT P t = true)
    (hx : CellsRel E xs vx.toList) (hy : CellsRel E ys vy.toList) : (Op.equalIn 10000 t (.agg vx) (.agg vy)).run P E.w = .ok (decide (a = b)) E.w := by
  obtain ⟨h1, _, h3⟩ := eqT_spec ht
  have hform : ∀ (zs : List C) (l : List Lf) (v : Array Value), litC P 20 t zs = some l → CellsRel E zs v.toList → (Value.agg v).formed P t = true := by
    intro zs l v hl hr
    have hsz : v.size = zs.length := by rw [← hr.1]; simp
    unfold aggT at h3
    unfold litC at hl
    cases hu : P.underlying t with
    | none => simp [hu] at h3
    | some k =>
      cases k <;> simp only [hu, Bool.false_eq_true] at h3 hl
      all_goals
        split at hl
        · rename_i hc
          simp only [Value.formed, hu, beq_iff_eq]
          first | (rw [hsz]; exact hc) | (rw [hsz]; exact hc.1)
        · cases hl
  obtain ⟨r, hr, hiff⟩ := run_equalIn_deep (P := P) 9980 20 t h1 E.w 20 20 (.agg vx) (.agg vy) _ _ (hform xs a vx ha hx) (hform ys b vy hb hy) (lit_ok 20 t xs _ a ha hx) (lit_ok 20 t ys _ b hb hy)
  rw [lits_inj] at hiff
  have : r = decide (a = b) := by
    rw [Bool.eq_iff_iff, hiff, decide_eq_true_eq]
  rw [← this]
  exact hr
theorem agg_cells {E : Env} {cs : List C} {v : Value} (h : VRel E (.agg cs) v) : ∃ vs : Array Value, v = .agg vs ∧ CellsRel E cs vs.toList := by
  obtain ⟨vs, rfl, h1, h2⟩ := agg_inv h
  refine ⟨vs, rfl, by simpa using h1, fun j c hj => ?_⟩
  have hlt : j < vs.size := by rw [h1]; exact (List.getElem?_eq_some_iff.1 hj).1
  refine ⟨vs[j], by simp [hlt], ?_⟩
  have := h2 j c hj
  rwa [Array.getD_eq_getD_getElem?, Array.getElem?_eq_getElem hlt] at this
theorem eqF_ok {P : Program} {E : Env} (hE : HRel E) {op : BinOp} {t : TypeId} {xs ys : List C} {vx vy : Value} (hx : VRel E (.agg xs) vx) (hy : VRel E (.agg ys) vy) : Good P E (binOp op t vx vy) (eqF P op t xs ys E.H) := by
  obtain ⟨vx, rfl, kx⟩ := agg_cells hx
  obtain ⟨vy, rfl, ky⟩ := agg_cells hy
  unfold eqF
  split
  · rename_i a b ha hb
    split
    · refine .same hE fun ht => ⟨trivial, _, ?_, rfl, .one .bool⟩
      rw [run_eql_struct, eq_run ha hb ht kx ky]; rfl
    · refine .same hE fun ht => ⟨trivial, _, ?_, rfl, .one .bool⟩
      rw [run_neq_struct, eq_run ha hb ht kx ky]; rfl
    · exact .bad
  · exact .bad
theorem tIsFn_spec {P : Program} {t : TypeId} (h : tIsFn P t = true) : ∃ a b c, P.underlying t = some (.func a b c) := by
  unfold tIsFn at h; split at h
  · rename_i hu; exact ⟨_, _, _, hu⟩
  · cases h
theorem fn_val {E : Env} {f : FuncId} {cap : List C} {v : Value} (h : CRel E (.fn f cap) v) : ∃ vs, v = .func (.func f) #[] vs := by cases h; exact ⟨_, rfl⟩
theorem nilfn_val {E : Env} {v : Value} (h : CRel E .nilfn v) : v = .nilFunc := by cases h; rfl
theorem nilF_ok {P : Program} {E : Env} (hE : HRel E) {op : BinOp} {t : TypeId} {b : Bool} {vx vy : Value} (h : ∀ w, tIsFn P t = true → (Op.equalIn 10000 t vx vy).run P w = .ok b w) (hb : ∀ op, (op = .eql → binOp op t vx vy = (do pure (.bool (← Op.equal t vx vy)))) ∧ (op = .neq → binOp op t vx vy = (do pure (.bool (!(← Op.equal t vx vy)))))) : Good P E (binOp op t vx vy) (nilF P op t b E.H) := by
  unfold nilF
  split
  · refine .same hE fun ht => ⟨trivial, _, ?_, rfl, .one .bool⟩
    rw [(hb .eql).1 rfl]
    simp [Op.equal, Op.maxDepth, h E.w ht]
  · refine .same hE fun ht => ⟨trivial, _, ?_, rfl, .one .bool⟩
    rw [(hb .neq).2 rfl]
    simp [Op.equal, Op.maxDepth, h E.w ht]
  · exact .bad

theorem binF_ok {P : Program} {E : Env} (hE : HRel E) {op : BinOp} {t : TypeId} {x y : V} {vx vy : Value} (hx : VRel E x vx) (hy : VRel E y vy) :
    Good P E (binOp op t vx vy) (binF P op t x y E.H) := by
  unfold binF
  split
  · exact eqF_ok hE hx hy
  · obtain ⟨vs, rfl⟩ := fn_val (one_inv hx)
    have := nilfn_val (one_inv hy); subst this
    refine nilF_ok hE (fun w ht => ?_) (fun op => ⟨fun h => by subst h; rfl, fun h => by subst h; rfl⟩)
    obtain ⟨a, b, c, hu⟩ := tIsFn_spec ht
    rw [show (10000 : Nat) = 9999 + 1 from rfl, Op.equalIn]
    simp [run_underlying hu]
  · have := nilfn_val (one_inv hx); subst this
    have := nilfn_val (one_inv hy); subst this
    refine nilF_ok hE (fun w ht => ?_) (fun op => ⟨fun h => by subst h; rfl, fun h => by subst h; rfl⟩)
    obtain ⟨a, b, c, hu⟩ := tIsFn_spec ht
    rw [show (10000 : Nat) = 9999 + 1 from rfl, Op.equalIn]
    simp [run_underlying hu]
  · obtain ⟨rfl, hk⟩ := int_inv (one_inv hx)
    obtain ⟨rfl, hk'⟩ := int_inv (one_inv hy)
    split
    · exact shF_ok hE hk
    · split
      · rename_i e; subst e; exact intF_ok hE hk hk'
      · exact .bad
  · obtain ⟨b, rfl, h1, _⟩ := str_inv (one_inv hx)
    obtain ⟨b', rfl, h1', _⟩ := str_inv (one_inv hy)
    exact strF_ok hE h1 h1'
  · have hx := bool_inv (one_inv hx)
    have hy := bool_inv (one_inv hy)
    subst hx; subst hy
    split
    · rename_i hb; exact .ok hE ⟨_, run_eql_bool E.w t _ _ (tIsBool_spec hb), .one .bool⟩
    · rename_i hb; exact .ok hE ⟨_, run_neq_bool E.w t _ _ (tIsBool_spec hb), .one .bool⟩
    · exact .bad
  · exact .bad

/-- What stands ahead of '==' on other than interfaces and structs does nothing. -/
theorem binF_guard {P : Program} {E : Env} {op : BinOp} {t : TypeId} {x y : V} {vx vy : Value} (hx : VRel E x vx) (hy : VRel E y vy) (hp : (binF P op t x y E.H).pre) (ox oy : Operand) :
    (eqGuard op t ox oy vx vy).run P E.w = .ok () E.w := by
  unfold binF at hp
  unfold eqGuard
  split at hp
  · obtain ⟨vx, rfl, hx⟩ := agg_cells hx
    obtain ⟨vy, rfl, hy⟩ := agg_cells hy
    have ht : eqT P t = true := by
      unfold eqF at hp
      split at hp
      · split at hp
        · exact hp
        · exact hp
        · exact hp.elim
      · exact hp.elim
    exact run_eqGuard_agg E.w op t ox oy vx vy (eqT_spec ht).2.1
  · obtain ⟨vs, rfl⟩ := fn_val (one_inv hx)
    have := nilfn_val (one_inv hy); subst this
    split <;> rfl
  · have := nilfn_val (one_inv hx); subst this
    have := nilfn_val (one_inv hy); subst this
    split <;> rfl
  · obtain ⟨rfl, _⟩ := int_inv (one_inv hx); obtain ⟨rfl, _⟩ := int_inv (one_inv hy); split <;> rfl
  · obtain ⟨b, rfl, _⟩ := str_inv (one_inv hx); obtain ⟨b', rfl, _⟩ := str_inv (one_inv hy); split <;> rfl
  · have hx := bool_inv (one_inv hx); have hy := bool_inv (one_inv hy); subst hx; subst hy; split <;> rfl
  · exact hp.elim

theorem unF_ok {P : Program} {E : Env} (hE : HRel E) {op : UnOp} {x : V} {vx : Value} (hx : VRel E x vx) : Good P E (Op.unary op vx) (unF op x E.H) := by
  unfold unF
  split
  · have hx := bool_inv (one_inv hx); subst hx
    exact .ok hE ⟨_, by simp [Op.unary], .one .bool⟩
  · obtain ⟨rfl, h⟩ := int_inv (one_inv hx)
    exact .ok hE ⟨_, by simp [Op.unary, Op.intArith], .one (.int (by simpa using wrap_in _ _))⟩
  · obtain ⟨rfl, h⟩ := int_inv (one_inv hx)
    exact .ok hE ⟨_, by simp only [Op.unary, Op.intBits]; rfl, .one (.int (wrap_in _ _))⟩
  · exact .bad

open Go.Lib in
theorem strConvF_ok {P : Program} {E : Env} (hE : HRel E) {s d : TypeId} {b : List UInt8} {v : Value} (hx : CRel E (.str b) v) : Good P E (convert s d v) (strConvF P s d b E.H) := by
  unfold strConvF
  cases hx with
  | @str _ ba hb hl =>
  split
  · rename_i u e hs hd
    split
    · rename_i he
      intro _
      have hsz : ba.size = b.length := by show ba.data.size = b.length; rw [← hb, Array.length_toList]
      have hcut : ba.size ≤ grownCap E.w ba.size 0 e := grownCap_ge E.w ba.size 0 e
      obtain ⟨t, hh⟩ := new_obj hE (bytesWorld E.w e ba) ⟨E.w.heap.size, 0, grownCap E.w ba.size 0 e⟩ (.cells 0 1 (strRows b)) (by rw [bytesWorld_size]; omega) rfl rfl rfl
        (fun i hi => bytesWorld_at_old E.w e ba i hi) _ rfl (fun _ => Nat.le_refl _)
      refine ⟨trivial, _, _, run_convert_string_bytes E.w s d e ba hs hd he, rfl, ?_, hh ?_, t⟩
      · refine .one (.msl (by simp) rfl fun cur sz rows' ho => ?_)
        simp at ho
        obtain ⟨rfl, rfl, rfl⟩ := ho
        exact ⟨Nat.le_refl _, fun _ => ⟨Nat.zero_le _, by simp [strRows], _, _, by rw [Nat.sub_zero, hsz, sBytes, List.length_map], by simp [hsz], fun _ => by simp⟩⟩
      · refine ⟨?_, ?_, ?_, fun _ => ⟨bytesCells E.w e ba, e, ?_, ?_, ?_⟩⟩
        · simp [strRows, sBytes]; omega
        · simpa [strRows, sBytes] using hl
        · intro r hr; obtain ⟨x, _, rfl⟩ := List.mem_map.1 hr; rfl
        · simp only [if_true]
          exact ⟨_, bytesWorld_at_new E.w e ba, .inr (Nat.le_refl _)⟩
        · simp [bytesCells]
          have : ba.data.size = ba.size := rfl
          omega
        · intro i j c hij
          obtain ⟨r, hr, hj⟩ := at2_some.1 hij
          simp only [strRows, sBytes, List.map_map, List.getElem?_map, Option.map_eq_some_iff, Function.comp_def] at hr
          obtain ⟨x, hx, rfl⟩ := hr
          have hj0 : j = 0 := by
            have := (List.getElem?_eq_some_iff.1 hj).1; simp at this; omega
          subst hj0
          simp at hj
          subst hj
          have hi := (List.getElem?_eq_some_iff.1 hx).1
          refine ⟨.int .u8 (x.toNat : Int), ?_, .int ?_⟩
          · have hd : ba.data[i]? = some x := by rw [← Array.getElem?_toList, hb]; exact hx
            have hlt : i < ba.data.size := (Array.getElem?_eq_some_iff.1 hd).1
            have hs' : i < ba.size := hlt
            simp [bytesCells, Array.getElem?_append, hs']
            have h2 := (Array.getElem?_eq_some_iff.1 hd).2
            exact congrArg (fun y : UInt8 => (y.toNat : Int)) h2
          · have := x.toNat_lt
            simp [IntKind.min, IntKind.max, IntKind.signed, IntKind.bits]; omega
    · exact fun hp => hp.elim
  · rename_i u hs hd
    exact .ok hE ⟨_, by simp [convert, run_underlying hs, run_underlying hd], .one (.str hb hl)⟩
  · exact fun hp => hp.elim
theorem ref_mk {E : Env} {id ver r off cur sz : Nat} {rows : List (List C)} {v : Value} (ho : E.H[id]? = some (.cells cur sz rows)) (hv : ver = cur)
    (h : v = .pointer (some ⟨(E.bd id).blk, (E.bd id).off + (r * sz + off), none⟩)) : VRel E (.one (.ref id ver r off)) v := by
  refine .one (.ref (List.getElem?_eq_some_iff.1 ho).1 (by rw [h]; rfl) fun cur' sz' rows' ho' => ?_)
  rw [ho] at ho'
  cases ho'
  exact ⟨by omega, fun _ => h⟩

theorem fieldAddrF_ok {P : Program} {E : Env} (hE : HRel E) {t : TypeId} {f : Nat} {x : V} {vx : Value} (hx : VRel E x vx) : Good P E (Instr.fieldAt t vx f) (fieldAddrF P t x f E.H) := by
  have run : ∀ {o n : Nat} {g : Bool} (b k : Nat), tFd P t f = some (o, g, n) → n ≠ 0 → (Instr.fieldAt t (.pointer (some ⟨b, k, none⟩)) f).run P E.w = .ok (.pointer (some ⟨b, k + o, none⟩)) E.w := by
    intro o n g b k h hn
    obtain ⟨fs, fd, hu, hf, rfl, hg⟩ := tFd_spec h
    obtain ⟨d, i, hu', hi, hin, _⟩ := tAg_spec hg
    simp [Instr.fieldAt, run_underlying hu, hf, Instr.sureAddr, fieldPlace, sizeOf_run hi, hin, hn, add_off]
  unfold fieldAddrF
  split
  · rename_i o g n id ver r off ht
    split
    · rename_i cur sz rows ho
      refine .same hE fun ⟨hver, hn⟩ => ⟨trivial, ?_⟩
      have hv := ref_addr (one_inv hx) ho hver
      subst hv
      exact ⟨_, run _ _ ht hn, rfl, ref_mk ho hver (by simp [Nat.add_assoc])⟩
    · exact .bad
  · rename_i o g n row off ht
    refine .same hE fun hn => ⟨trivial, ?_⟩
    cases (one_inv hx) with
    | iptr vals he hb hc hv =>
      subst he
      exact ⟨_, run _ _ ht hn, rfl, .one (.iptr vals (by simp [Nat.add_assoc]) hb hc hv)⟩
  · exact .bad


theorem part_ok {P : Program} {E : Env} {t : TypeId} {g : Bool} {n : Nat} (hg : tAg P t = some (g, n)) {cs : List C} {vs : Array Value} {o : Nat} (hn : vs.size = cs.length) (hr : ∀ (j : Nat) (c : C), cs[j]? = some c → CRel E c (vs.getD j undef)) (hl : o + wd g n ≤ cs.length) :
    ∃ v, (part t vs o).run P E.w = .ok v E.w ∧ VRel E (ldV g n cs o) v := by
  obtain ⟨d, i, hu, hi, hin, ha⟩ := tAg_spec hg
  cases g with
  | false =>
    have hlt : o < vs.size := by simp [wd] at hl; omega
    refine ⟨vs[o], by simp [part, ha, hlt], ?_⟩
    have hlt' : o < cs.length := by omega
    simp only [ldV, Bool.false_eq_true, if_false]
    have := hr o cs[o] (by simp [hlt'])
    simp only [Array.getD_eq_getD_getElem?, hlt, Array.getElem?_eq_getElem, Option.getD_some] at this
    exact .one (by simpa [List.getD_eq_getElem?_getD, hlt'] using this)
  | true =>
    simp only [wd, if_true] at hl
    refine ⟨.agg (vs.extract o (o + n)), by simp [part, ha, sizeOf_run hi, hin], ?_⟩
    simp only [ldV, if_true]
    refine .agg (by simp; omega) fun j c hj => ?_
    have hlt : j < n := by
      have := (List.getElem?_eq_some_iff.1 hj).1
      simp at this; omega
    have hc : cs[o + j]? = some c := by
      rw [List.getElem?_take] at hj
      simp [hlt] at hj
      exact hj
    have := hr (o + j) c hc
    simp only [Array.getD_eq_getD_getElem?] at this ⊢
    have e : (vs.extract o (o + n))[j]? = vs[o + j]? := by
      rw [Array.getElem?_extract, if_pos (by omega)]
    rw [e]; exact this

theorem fieldF_ok {P : Program} {E : Env} (hE : HRel E) {t : TypeId} {f : Nat} {x : V} {vx : Value} (hx : VRel E x vx) : Good P E (Instr.field t vx f) (fieldF P t x f E.H) := by
  unfold fieldF
  split
  · rename_i o g n cs ht
    refine .same hE fun hl => ⟨trivial, ?_⟩
    obtain ⟨vs, rfl, hn, hr⟩ := agg_inv hx
    obtain ⟨fs, fd, hu, hf, rfl, hg⟩ := tFd_spec ht
    obtain ⟨v, h1, h2⟩ := part_ok (P := P) hg hn hr hl
    exact ⟨v, by simp [Instr.field, run_underlying hu, hf, asAgg, h1], rfl, h2⟩
  · exact .bad

theorem sl_elem {E : Env} {rows : List (List C)} {a : Option Addr} {n cap : Nat} (h : CRel E (.sl rows) (.slice a n cap)) {i : Nat} (hi : i < rows.length) :
    n = rows.length ∧ ∃ b off, a = some ⟨b, off, none⟩ ∧ VRel E (.one (.iptr (rows.getD i []) 0)) (.pointer (some ⟨b, off + i * (rows.getD i []).length, none⟩)) := by
  cases h with
  | sl vals sz hn hcap hlim hsz hb hv =>
    refine ⟨hn, ?_⟩
    have hne : rows ≠ [] := by intro e; simp [e] at hi
    obtain ⟨b, off, ha, hf, hc⟩ := hb hne
    refine ⟨b, off, ha, ?_⟩
    have hg : rows.getD i [] = rows[i] := by simp [List.getD_eq_getElem?_getD, hi]
    have hl : (rows.getD i []).length = sz := by rw [hg]; exact hsz _ (List.getElem_mem hi)
    rw [hl]
    refine .one (.iptr (o := off + i * sz) (vals i) (by simp) hf (fun j c hj => ?_) fun j c hj => hv i j c (at2_row hj))
    rw [Nat.add_assoc]; exact hc i j c (at2_row hj)

theorem sl_inv {E : Env} {rows : List (List C)} {v : Value} (h : CRel E (.sl rows) v) : ∃ a cap, v = .slice a rows.length cap ∧ rows.length ≤ cap ∧ rows.length ≤ lim := by
  cases h with
  | sl vals sz hn hcap hlim hsz hb hv => subst hn; exact ⟨_, _, rfl, hcap, hlim⟩

theorem slf_inv {E : Env} {rows : List (List C)} {v : Value} (h : CRel E (.slf rows) v) : CRel E (.sl rows) v ∧ ∃ a, v = .slice a rows.length rows.length := by
  cases h with
  | slf h hf => exact ⟨h, hf⟩

theorem msl_inv {E : Env} {id ver lo hi cur sz : Nat} {rows : List (List C)} {v : Value} (h : CRel E (.msl id ver lo hi) v) (ho : E.H[id]? = some (.cells cur sz rows)) (hv : ver = cur) :
    lo ≤ hi ∧ hi ≤ rows.length ∧ ∃ (a : Option Addr) (cap : Nat), v = .slice a (hi - lo) cap ∧ lo + cap = (E.bd id).cap ∧ (0 < cap → a = some ⟨(E.bd id).blk, (E.bd id).off + lo * sz, none⟩) := by
  cases h with
  | msl hid hcell hh => exact (hh cur sz rows ho).2 hv

theorem indexAddrF_ok {P : Program} {E : Env} (hE : HRel E) {t : TypeId} {x i : V} {vx vi : Value} (hx : VRel E x vx) (hi : VRel E i vi) : Good P E (Instr.indexAt t vx vi) (indexAddrF P t x i E.H) := by
  unfold indexAddrF
  split
  · rename_i k i
    obtain ⟨rfl, _⟩ := int_inv (one_inv hi)
    split
    · rename_i n e s ht
      obtain ⟨ie, hu, hie, hs⟩ := tAr_spec ht
      have run : ∀ (b o : Nat), 0 ≤ i ∧ i < n → (Instr.indexAt t (.pointer (some ⟨b, o, none⟩)) (.int k i)).run P E.w = .ok (.pointer (some ⟨b, o + i.toNat * s, none⟩)) E.w := by
        intro b o h
        simp [Instr.indexAt, asIntOf, run_underlying hu, Instr.sureAddr, h, sizeOf_run hie, hs, add_off]
      split
      · split
        · rename_i cur sz rows ho
          refine .same hE fun ⟨hver, hb⟩ => ⟨trivial, ?_⟩
          have hv := ref_addr (one_inv hx) ho hver
          subst hv
          exact ⟨_, run _ _ hb, rfl, ref_mk ho hver (by simp [Nat.add_assoc])⟩
        · exact .bad
      · refine .same hE fun hb => ⟨trivial, ?_⟩
        cases (one_inv hx) with
        | iptr vals he hb' hc hv =>
          subst he
          exact ⟨_, run _ _ hb, rfl, .one (.iptr vals (by simp [Nat.add_assoc]) hb' hc hv)⟩
      · exact .bad
    · split
      · rename_i e s b ht
        obtain ⟨ie, hu, hie, hs, _⟩ := tSl_spec ht
        have slc : ∀ rows, CRel E (.sl rows) vx → 0 ≤ i ∧ i < rows.length ∧ (nth rows i).length = s → ∃ v, (Instr.indexAt t vx (.int k i)).run P E.w = .ok v E.w ∧ VRel E (.one (.iptr (nth rows i) 0)) v := by
          intro rows hr ⟨h0, h1, h2⟩
          obtain ⟨a, cap, rfl, _, _⟩ := sl_inv hr
          obtain ⟨_, b, off, rfl, hv⟩ := sl_elem hr (i := i.toNat) (by omega)
          refine ⟨_, ?_, hv⟩
          have h2' : (rows.getD i.toNat []).length = s := h2
          simp [Instr.indexAt, asIntOf, run_underlying hu, h0, h1, sizeOf_run hie, hs, add_off, -List.getD_eq_getElem?_getD, h2']
        split
        · exact .same hE fun hb => ⟨trivial, by obtain ⟨v, h1, h2⟩ := slc _ (one_inv hx) hb; exact ⟨v, h1, rfl, h2⟩⟩
        · exact .same hE fun hb => ⟨trivial, by obtain ⟨v, h1, h2⟩ := slc _ (slf_inv (one_inv hx)).1 hb; exact ⟨v, h1, rfl, h2⟩⟩
        · split
          · rename_i id ver lo hi' _ cur sz rows ho
            refine .same hE fun ⟨hver, hss, h0, h1⟩ => ⟨trivial, ?_⟩
            obtain ⟨hlo, hhi, a, cap, rfl, hcap, ha⟩ := msl_inv (one_inv hx) ho hver
            have hobj := hE.obj id _ ho
            obtain ⟨hrc, _⟩ := hobj
            have hc : 0 < cap := by omega
            have ha' := ha hc
            subst ha'
            refine ⟨_, by simp [Instr.indexAt, asIntOf, run_underlying hu, h0, h1, sizeOf_run hie, hs, add_off]; rfl, rfl, ref_mk ho hver ?_⟩
            simp [hss, Nat.add_mul, Nat.add_assoc]
          · exact .bad
        · exact .bad
      · exact .bad
  · exact .bad

theorem indexF_ok {P : Program} {E : Env} (hE : HRel E) {t : TypeId} {x i : V} {vx vi : Value} (hx : VRel E x vx) (hi : VRel E i vi) : Good P E (Instr.index t vx vi) (indexF P t x i E.H) := by
  unfold indexF
  split
  · rename_i s k i
    split
    · rename_i ht
      refine .same hE fun ⟨h0, h1⟩ => ⟨trivial, ?_⟩
      obtain ⟨rfl, _⟩ := int_inv (one_inv hi)
      obtain ⟨b, rfl, hb, _⟩ := str_inv (one_inv hx)
      have hlt : i.toNat < s.length := by omega
      have hbs : b[i.toNat]? = some s[i.toNat] := by
        subst hb
        have hlt' : i.toNat < b.size := hlt
        rw [getElem?_pos b i.toNat hlt']
        rfl
      refine ⟨.int .u8 (s[i.toNat]).toNat, by simp [Instr.index, asIntOf, run_underlying (tIsStr_spec ht), h0, hbs], rfl, ?_⟩
      simp only [List.getD_eq_getElem?_getD, hlt, List.getElem?_eq_getElem, Option.getD_some]
      refine .one (.int ?_)
      have := (s[i.toNat]).toNat_lt
      simp [IntKind.min, IntKind.max, IntKind.signed, IntKind.bits]; omega
    · exact .bad
  · rename_i cs k i
    split
    · rename_i n e s ht
      split
      · rename_i g m hg
        refine .same hE fun ⟨h0, h1, h2⟩ => ⟨trivial, ?_⟩
        obtain ⟨rfl, _⟩ := int_inv (one_inv hi)
        obtain ⟨vs, rfl, hn, hr⟩ := agg_inv hx
        obtain ⟨ie, hu, hie, hs⟩ := tAr_spec ht
        obtain ⟨v, hv1, hv2⟩ := part_ok (P := P) hg hn hr h2
        exact ⟨v, by simp [Instr.index, asIntOf, run_underlying hu, h0, h1, sizeOf_run hie, hs, hv1], rfl, hv2⟩
      · exact .bad
    · exact .bad
  · exact .bad

theorem lenF_ok {P : Program} {E : Env} (hE : HRel E) {t : TypeId} {x : V} {vx : Value} (hx : VRel E x vx) (ty : TypeId) (ts : Array TypeId) (hts : ts[0]? = some t) : Good P E (Builtin.len_ ts ty #[vx]) (lenF P t x E.H) := by
  have h64 : ∀ n : Nat, n ≤ lim → IntKind.i64.min ≤ (n : Int) ∧ (n : Int) ≤ IntKind.i64.max := by
    intro n h; simp [lim] at h; simp [IntKind.min, IntKind.max, IntKind.signed, IntKind.bits]; omega
  unfold lenF
  split
  · split
    · rename_i s ht
      obtain ⟨b, rfl, hb, hl⟩ := str_inv (one_inv hx)
      refine .same hE fun _ => ⟨hl, .int .i64 s.length, ?_, rfl, .one (.int (h64 _ hl))⟩
      have : b.size = s.length := by rw [← hb]; rfl
      simp [Builtin.len_, hts, run_underlying (tIsStr_spec ht), goInt, this]
    · exact .bad
  · split
    · rename_i rows _ p ht
      obtain ⟨e, s, b⟩ := p
      obtain ⟨ie, hu, _⟩ := tSl_spec ht
      obtain ⟨a, cap, rfl, hc, hl⟩ := sl_inv (one_inv hx)
      exact .same hE fun _ => ⟨hl, .int .i64 rows.length, by simp [Builtin.len_, hts, run_underlying hu, goInt], rfl, .one (.int (h64 _ hl))⟩
    · exact .bad
  · split
    · rename_i rows _ p ht
      obtain ⟨e, s, b⟩ := p
      obtain ⟨ie, hu, _⟩ := tSl_spec ht
      obtain ⟨a, cap, rfl, hc, hl⟩ := sl_inv (slf_inv (one_inv hx)).1
      exact .same hE fun _ => ⟨hl, .int .i64 rows.length, by simp [Builtin.len_, hts, run_underlying hu, goInt], rfl, .one (.int (h64 _ hl))⟩
    · exact .bad
  · split
    · rename_i id ver lo hi _ _ p cur sz rows ht ho
      obtain ⟨e, s, b⟩ := p
      obtain ⟨ie, hu, _⟩ := tSl_spec ht
      refine .same hE fun hver => ?_
      obtain ⟨hlo, hhi, a, cap, rfl, hcap, ha⟩ := msl_inv (one_inv hx) ho hver
      obtain ⟨hrc, hlim, _⟩ := hE.obj id _ ho
      exact ⟨⟨by omega, hhi, hlo⟩, .int .i64 ((hi - lo : Nat) : Int), by simp [Builtin.len_, hts, run_underlying hu, goInt], rfl, .one (.int (h64 _ (by omega)))⟩
    · exact .bad
  · split
    · rename_i n e s ht
      obtain ⟨ie, hu, _⟩ := tAr_spec ht
      refine .same hE fun hn => ⟨trivial, .int .i64 n, ?_, rfl, .one (.int (h64 _ hn))⟩
      simp [Builtin.len_, hts, run_underlying hu, goInt]
    · exact .bad

end Go.Lz

end
section
/- Lz7: the reckoning of each operation is what the model does (slices made, appended to, copied, cut). -/
namespace Go.Lz
set_option linter.unusedVariables false
set_option linter.unusedSimpArgs false

/-- Rows that lie in memory, read cell by cell. -/
theorem rows_fn {E : Env} {rows : List (List C)} {b off s : Nat} (hs : ∀ r ∈ rows, r.length = s)
    (hc : ∀ i j c, at2 rows i j = some c → ∃ v, E.w.cell? ⟨b, off + (i * s + j), none⟩ = some v ∧ CRel E c v) (n : Nat) (hn : n ≤ rows.length) :
    ∃ f : Nat → Value, (∀ m, m < n * s → E.w.cell? ⟨b, off + m, none⟩ = some (f m)) ∧ (∀ i j c, i < n → at2 rows i j = some c → CRel E c (f (i * s + j))) ∧ ∀ m, m < n * s → (f m).oneCell' = true := by
  have key : ∀ m, ∃ v, m < n * s → (E.w.cell? ⟨b, off + m, none⟩ = some v ∧ (∃ c, at2 rows (m / s) (m % s) = some c ∧ CRel E c v)) := by
    intro m
    by_cases hm : m < n * s
    · have hs0 : 0 < s := Nat.pos_of_ne_zero (fun h => by simp [h] at hm)
      have hi : m / s < n := Nat.div_lt_of_lt_mul (by rw [Nat.mul_comm]; exact hm)
      have hj : m % s < s := Nat.mod_lt _ hs0
      have hil : m / s < rows.length := by omega
      have hrl : (rows[m / s]).length = s := hs _ (List.getElem_mem hil)
      have ha : at2 rows (m / s) (m % s) = some (rows[m / s][m % s]'(by rw [hrl]; exact hj)) := at2_some.2 ⟨rows[m / s], by simp [hil], by simp [hrl, hj]⟩
      obtain ⟨v, h1, h2⟩ := hc _ _ _ ha
      refine ⟨v, fun _ => ⟨?_, _, ha, h2⟩⟩
      have : m / s * s + m % s = m := by rw [Nat.mul_comm]; exact Nat.div_add_mod m s
      rw [this] at h1; exact h1
    · exact ⟨undef, fun h => (hm h).elim⟩
  refine ⟨fun m => Classical.choose (key m), fun m hm => (Classical.choose_spec (key m) hm).1, fun i j c hi hij => ?_, fun m hm => ?_⟩
  · obtain ⟨r, hr, hj⟩ := at2_some.1 hij
    have hjs : j < s := by
      have := (List.getElem?_eq_some_iff.1 hj).1
      rw [hs r (List.mem_of_getElem? hr)] at this; exact this
    have hm : i * s + j < n * s := by have := Nat.mul_le_mul_right s hi; rw [Nat.succ_mul] at this; omega
    obtain ⟨_, c', hc', hrel⟩ := Classical.choose_spec (key (i * s + j)) hm
    have h1 : (i * s + j) / s = i := by rw [Nat.mul_comm, Nat.mul_add_div (by omega), Nat.div_eq_of_lt hjs]; rfl
    have h2 : (i * s + j) % s = j := by rw [Nat.mul_comm, Nat.mul_add_mod, Nat.mod_eq_of_lt hjs]
    rw [h1, h2, hij] at hc'
    cases hc'
    exact hrel
  · obtain ⟨_, c', _, hrel⟩ := Classical.choose_spec (key m) hm
    exact hrel.cell

/-- What a source of rows yields. -/
structure SrcOk (P : Program) (E : Env) (s : Nat) (v : Value) (rows : List (List C)) : Prop where
  len : ∀ w', (Builtin.lenOf v).run P w' = .ok rows.length w'
  cells : ∀ n, n ≤ rows.length → ∃ f : Nat → Value, (∀ w', (∀ a, w'.cell? a = E.w.cell? a) → (Builtin.firstCells s n v).run P w' = .ok ((List.range (n * s)).map f).toArray w') ∧
    (∀ i j c, i < n → at2 rows i j = some c → CRel E c (f (i * s + j))) ∧ ∀ m, m < n * s → (f m).oneCell' = true

theorem SrcOk.mem {P : Program} {E : Env} {s : Nat} {rows : List (List C)} {b off cap : Nat} (hs : ∀ r ∈ rows, r.length = s)
    (hc : ∀ i j c, at2 rows i j = some c → ∃ v, E.w.cell? ⟨b, off + (i * s + j), none⟩ = some v ∧ CRel E c v) : SrcOk P E s (.slice (some ⟨b, off, none⟩) rows.length cap) rows := by
  refine ⟨fun _ => rfl, fun n hn => ?_⟩
  obtain ⟨f, h1, h2, h3⟩ := rows_fn hs hc n hn
  refine ⟨f, fun w' hw => ?_, h2, h3⟩
  simp only [Builtin.firstCells]
  exact run_loadCells w' ⟨b, off, none⟩ (n * s) f (fun j hj => by rw [add_off, hw]; exact h1 j hj)

theorem rowsOf_ok {P : Program} {E : Env} (hE : HRel E) {c : C} {v : Value} {rows : List (List C)} {p : Prop} (hc : CRel E c v) (h : rowsOf E.H c = some (rows, p)) (hp : p) {s : Nat} (hs : ∀ r ∈ rows, r.length = s) (hs0 : 0 < s) :
    SrcOk P E s v rows := by
  have imm : CRel E (.sl rows) v → SrcOk P E s v rows := by
    intro hc
    cases hc with
    | @sl _ a n cap vals sz hn hcap hlim hsz hb hv =>
      subst hn
      cases rows with
      | nil =>
        refine ⟨fun _ => rfl, fun n hn => ⟨fun _ => undef, fun w' _ => ?_, by simp [at2], by simp at hn; simp [hn]⟩⟩
        simp at hn; subst hn
        cases a <;> simp [Builtin.firstCells, loadCells, loadCellsFrom]
      | cons r0 rest =>
        obtain ⟨b, off, rfl, hf, hcell⟩ := hb (by simp)
        have e : sz = s := by rw [← hsz r0 (by simp), hs r0 (by simp)]
        subst e
        exact SrcOk.mem hs fun i j c hij => ⟨_, hcell i j c hij, hv i j c hij⟩
  cases c <;> simp only [rowsOf] at h <;> try (cases h; done)
  case sl r => cases h; exact imm hc
  case slf r => cases h; exact imm (slf_inv hc).1
  case str st =>
    cases h
    obtain ⟨b, rfl, hb, hl⟩ := str_inv hc
    have hsz : b.size = st.length := by rw [← hb]; rfl
    refine ⟨fun _ => by simp [Builtin.lenOf, hsz], fun n hn => ?_⟩
    have hn' : n ≤ st.length := by simpa using hn
    rcases Nat.eq_zero_or_pos n with hz | hz
    · subst hz
      refine ⟨fun _ => undef, fun w' _ => ?_, by simp, by simp⟩
      simp [Builtin.firstCells]
    · have hne : st ≠ [] := by intro e; simp [e] at hn'; omega
      have e1 : s = 1 := by
        cases st with
        | nil => exact (hne rfl).elim
        | cons x r => have := hs [.int .u8 x.toNat] (by simp); simp at this; omega
      subst e1
      refine ⟨fun m => .int .u8 (st.getD m 0).toNat, fun w' _ => ?_, ?_, fun m _ => rfl⟩
      · simp only [Builtin.firstCells, Sem.run_pure, Nat.mul_one]
        congr 1
        apply Array.ext'
        apply List.ext_getElem?
        intro m
        have hd : (b.extract 0 n).data.toList = st.take n := by rw [← hb]; simp [ByteArray.data_extract]
        simp only [Array.toList_map, List.getElem?_map, hd, List.getElem?_take, List.getElem?_range]
        by_cases hm : m < n
        · have hml : m < st.length := by omega
          simp [hm, hml]
        · simp [hm]
      · intro i j c hi hij
        obtain ⟨r, hr, hj⟩ := at2_some.1 hij
        simp only [List.getElem?_map, Option.map_eq_some_iff] at hr
        obtain ⟨x, hx, rfl⟩ := hr
        cases j with
        | zero =>
          simp at hj; subst hj
          simp [hx]
          refine .int ?_
          have := x.toNat_lt
          simp [IntKind.min, IntKind.max, IntKind.signed, IntKind.bits]; omega
        | succ j => simp at hj
  case msl id ver lo hi =>
    split at h
    · rename_i cur sz rws ho
      cases h
      obtain ⟨hlo, hhi, a, cap, rfl, hcap, ha⟩ := msl_inv hc ho hp
      obtain ⟨h3, h4, h5, h6⟩ := hE.obj id _ ho
      have hlen : ((rws.take hi).drop lo).length = hi - lo := by simp; omega
      by_cases hz : hi - lo = 0
      · have hnil : (rws.take hi).drop lo = [] := List.eq_nil_of_length_eq_zero (by omega)
        rw [hnil, hz]
        refine ⟨fun _ => rfl, fun n hn => ⟨fun _ => undef, fun w' _ => ?_, by simp [at2], by simp at hn; simp [hn]⟩⟩
        simp at hn; subst hn
        cases a <;> simp [Builtin.firstCells, loadCells, loadCellsFrom]
      · have hc0 : 0 < cap := by omega
        have ha' := ha hc0
        subst ha'
        obtain ⟨arr, ty, h1, h2, h6⟩ := h6 (by omega)
        have hmem : ∀ r ∈ (rws.take hi).drop lo, r ∈ rws := fun r hr => List.mem_of_mem_take (List.mem_of_mem_drop hr)
        have e : sz = s := by
          have hne : (rws.take hi).drop lo ≠ [] := by intro e; simp [e] at hlen; omega
          obtain ⟨r, hr⟩ := List.exists_mem_of_ne_nil _ hne
          rw [← h5 r (hmem r hr), hs r hr]
        subst e
        have key : ∀ i j c, at2 ((rws.take hi).drop lo) i j = some c → at2 rws (lo + i) j = some c := by
          intro i j c hij
          obtain ⟨r, hr, hj⟩ := at2_some.1 hij
          rw [List.getElem?_drop, List.getElem?_take] at hr
          split at hr
          · exact at2_some.2 ⟨r, hr, hj⟩
          · cases hr
        have := SrcOk.mem (P := P) (E := E) (s := sz) (rows := (rws.take hi).drop lo) (b := (E.bd id).blk) (off := (E.bd id).off + lo * sz) (cap := cap) hs
          (fun i j c hij => by
            obtain ⟨v, hv, hr⟩ := h6 _ _ _ (key i j c hij)
            refine ⟨v, ?_, hr⟩
            rw [h1.cell?]
            rw [Nat.add_mul] at hv
            simpa [Nat.add_assoc] using hv)
        rw [hlen] at this
        exact this
    · cases h

theorem rowsOf_lim {E : Env} (hE : HRel E) {c : C} {v : Value} {rows : List (List C)} {p : Prop} (hc : CRel E c v) (h : rowsOf E.H c = some (rows, p)) (hp : p) : rows.length ≤ lim := by
  cases c <;> simp only [rowsOf] at h <;> try (cases h; done)
  case sl r => cases h; obtain ⟨_, _, _, _, h⟩ := sl_inv hc; exact h
  case slf r => cases h; obtain ⟨_, _, _, _, h⟩ := sl_inv (slf_inv hc).1; exact h
  case str st => cases h; obtain ⟨_, _, _, h⟩ := str_inv hc; simpa using h
  case msl id ver lo hi =>
    split at h
    · rename_i cur sz rws ho
      cases h
      have hl := (hE.obj id _ ho).2.1
      simp only [List.length_drop, List.length_take]
      omega
    · cases h

def rowNum : List C → Int
  | [.int .u8 n] => n
  | _ => 0
theorem byteRow_spec {r : List C} (h : byteRow r = true) : r = [.int .u8 (rowNum r)] ∧ rowByte r = UInt8.ofNat (rowNum r).toNat := by
  unfold byteRow at h
  split at h
  · exact ⟨rfl, rfl⟩
  · cases h

theorem bytesConvF_ok {P : Program} {E : Env} (hE : HRel E) {s d : TypeId} {c : C} {v : Value} (hx : CRel E c v) (hv : (∃ a l cap, v = .slice a l cap) ∨ ∃ id ver lo hi, c = .msl id ver lo hi) : Good P E (convert s d v) (bytesConvF P s d c E.H) := by
  unfold bytesConvF
  split
  · rename_i e rows p hs hd hr
    split
    · rename_i he
      rintro ⟨hp, hb⟩
      have hb' : ∀ r ∈ rows, byteRow r = true := List.all_eq_true.1 hb
      have hlen1 : ∀ r ∈ rows, r.length = 1 := fun r hr => by rw [(byteRow_spec (hb' r hr)).1]; rfl
      have src := rowsOf_ok (P := P) hE hx hr hp hlen1 (by omega)
      have hl := rowsOf_lim hE hx hr hp
      have hsl : ∃ a l cap, v = .slice a l cap := by
        rcases hv with h | ⟨id, ver, lo, hi, rfl⟩
        · exact h
        · simp only [rowsOf] at hr
          split at hr
          · rename_i cur sz rws ho
            cases hr
            obtain ⟨_, _, a, cap, h, _⟩ := msl_inv hx ho hp; exact ⟨_, _, _, h⟩
          · cases hr
      obtain ⟨a, l, cap, rfl⟩ := hsl
      obtain ⟨f, h1, h2, h3⟩ := src.cells rows.length (Nat.le_refl _)
      have hf : (List.range (rows.length * 1)).map f = (rows.map rowNum).map (Value.int .u8) := by
        apply List.ext_getElem?
        intro i
        simp only [List.getElem?_map, Nat.mul_one]
        rcases Nat.lt_or_ge i rows.length with hi | hi
        · have hr : rows[i]? = some rows[i] := by simp [hi]
          have hrow := (byteRow_spec (hb' rows[i] (List.getElem_mem hi))).1
          have h2' := h2 i 0 (.int .u8 (rowNum rows[i])) hi (at2_some.2 ⟨rows[i], hr, by rw [hrow]; rfl⟩)
          have e := (int_inv h2').1
          simp only [Nat.mul_one, Nat.add_zero] at e
          rw [hr]
          simp [List.getElem?_range hi, e]
        · simp [List.getElem?_eq_none, hi]
      have hstr : (List.map rowByte rows) = (rows.map rowNum).map fun n => UInt8.ofNat n.toNat := by
        rw [List.map_map]
        exact List.map_congr_left fun r hr => (byteRow_spec (hb' r hr)).2
      have hcells := h1 E.w (fun _ => rfl)
      rw [hf] at hcells
      have hll : l = rows.length := by
        have := src.len E.w
        simp only [Builtin.lenOf] at this
        have e := (Result.ok.inj this).1
        omega
      refine ⟨trivial, .string (strOfNums (rows.map rowNum)), E, ?_, rfl, ?_, hE, Trans.refl E⟩
      · cases a with
        | none =>
          rw [run_convert_bytes_nil E.w s e hs he l cap d hd]
          simp only [Builtin.firstCells, Sem.run_pure] at hcells
          have e2 := (Result.ok.inj hcells).1
          have e3 : (rows.map rowNum) = [] := by
            have := congrArg Array.size e2
            simp at this
            simp [List.eq_nil_of_length_eq_zero this.symm]
          rw [e3]; rfl
        | some ad =>
          simp only [Builtin.firstCells, Nat.mul_one] at hcells
          rw [hll, run_convert_bytes_string E.w s d e _ rows.length cap hs he hd, run_bytesToString E.w ad rows.length cap _ hcells, foldl_push_bytes]
          simp [strOfNums, ByteArray.empty, ByteArray.emptyWithCapacity]
          rfl
      · refine .one (.str ?_ (by simpa using hl))
        rw [strOfNums_data, hstr]
    · exact fun hp => hp.elim
  · exact fun hp => hp.elim

theorem freeze_at (w : World) (b k : Nat) {arr : Array Value} {ty : TypeId} {fz : Nat × Nat} (h : w.heap[b]? = some (.cells arr ty fz)) : (w.freeze ⟨b, k, none⟩ 1).heap[b]? = some (.cells arr ty (if fz.1 == fz.2 then (k, k + 1) else (min fz.1 k, max fz.2 (k + 1)))) := by
  unfold World.freeze
  rw [if_neg (by decide)]
  simp only [Array.getElem?_modify, if_true, h, Option.map_some]
theorem freeze_other (w : World) (b k i : Nat) (h : i ≠ b) : (w.freeze ⟨b, k, none⟩ 1).heap[i]? = w.heap[i]? := by
  unfold World.freeze
  rw [if_neg (by decide)]
  simp [Array.getElem?_modify, Ne.symm h]
theorem set_same {α : Type} {l : List α} {i : Nat} {x : α} (h : l[i]? = some x) : l.set i x = l := by
  apply List.ext_getElem?
  intro j
  rw [List.getElem?_set]
  split
  · rename_i e; subst e
    have := (List.getElem?_eq_some_iff.1 h).1
    simp [this]
    exact ((List.getElem?_eq_some_iff.1 h).2).symm
  · rfl
theorem mslConvF_ok {P : Program} {E : Env} (hE : HRel E) {s d : TypeId} {id ver lo hi : Nat} {v : Value} (hx : CRel E (.msl id ver lo hi) v) : Good P E (convert s d v) (mslConvF P s d id ver lo hi E.H) := by
  unfold mslConvF
  split
  · exact bytesConvF_ok hE hx (.inr ⟨_, _, _, _, rfl⟩)
  · rename_i e hd
    split
    · rename_i cur sz rows he ho hs
      have hsd : s = d := by simpa using hs
      subst hsd
      rintro ⟨hv, hlo, hr⟩
      subst hlo
      obtain ⟨_, h2, a, cap, rfl, hcap, ha⟩ := msl_inv hx ho hv
      obtain ⟨h3, h4, h5, h6⟩ := hE.obj id _ ho
      have hc0 : (E.bd id).cap ≠ 0 := by omega
      have hlive : E.live id (.cells cur sz rows) := hc0
      obtain ⟨arr, ty, g1, g2, g3⟩ := h6 hc0
      obtain ⟨fz, gh, gf⟩ := g1
      have haa := ha (by omega)
      subst haa
      let w' := E.w.freeze ⟨(E.bd id).blk, arr.size, none⟩ 1
      have hsz : w'.heap.size = E.w.heap.size := by
        show (E.w.freeze _ 1).heap.size = _
        unfold World.freeze
        rw [if_neg (by decide)]
        simp
      have hw : ∀ f : World → Type, True := fun _ => trivial
      have hos : w'.os = E.w.os ∧ w'.tape = E.w.tape ∧ w'.output = E.w.output := by
        show (E.w.freeze _ 1).os = _ ∧ (E.w.freeze _ 1).tape = _ ∧ (E.w.freeze _ 1).output = _
        unfold World.freeze
        rw [if_neg (by decide)]
        exact ⟨rfl, rfl, rfl⟩
      obtain ⟨t, hh⟩ := upd_obj hE id (.cells cur sz rows) (.cells cur sz rows) w' (E.bd id) ho (by omega) hos.1 hos.2.1 hos.2.2
        (fun b hb hne => freeze_other E.w _ _ b (hne hlive))
        (fun ver' sz' rows' e => by cases e; exact ⟨cur, sz, rows, rfl, Nat.le_refl _, fun _ => ⟨rfl, rfl, rfl⟩⟩) (fun es' e => by cases e) _ rfl (fun _ => .inl ⟨hlive, rfl⟩)
      have hrow : RowAt w' (E.bd id).blk arr ty := by
        refine ⟨_, freeze_at E.w _ arr.size gh, .inr ?_⟩
        rcases gf with rfl | gf
        · simp
        · split
          · simp
          · simp only [Nat.le_min]; omega
      have hH : E.H.set id (.cells cur sz rows) = E.H := set_same ho
      have hE' := hh ⟨by simpa using h3, h4, h5, fun _ => ⟨arr, ty, by simp only [if_true]; exact hrow, by simp only [if_true]; exact g2, fun i j c hij => by
        obtain ⟨v, hv, hc⟩ := g3 i j c hij
        simp only [if_true]
        exact ⟨v, hv, hc.trans t⟩⟩⟩
      refine ⟨trivial, _, _, ?_, hH, (VRel.one hx).trans t, hE', t⟩
      have hsh : E.w.shape? (E.bd id).blk = some (ty, arr.size) := by unfold World.shape?; rw [gh]
      simp [convert, run_underlying hd, run_underlying he, markStringish, hsh]
      rfl
    · exact fun hp => hp.elim
  · exact fun hp => hp.elim
theorem convF_ok {P : Program} {E : Env} (hE : HRel E) {s d : TypeId} {x : V} {vx : Value} (hx : VRel E x vx) : Good P E (convert s d vx) (convF P s d x E.H) := by
  unfold convF
  split
  · obtain ⟨rfl, h⟩ := int_inv (one_inv hx)
    split
    · rename_i k hk
      split
      · rename_i hs
        obtain ⟨u, hu⟩ := Option.isSome_iff_exists.1 hs
        refine .ok hE ⟨_, ?_, .one (.int (wrap_in k _))⟩
        simp [convert, run_underlying hu, run_underlying (tK_spec hk), Conv.intToInt]
      · exact .bad
    · exact .bad
  · exact strConvF_ok hE (one_inv hx)
  · obtain ⟨a, cap, h, _⟩ := sl_inv (one_inv hx)
    exact bytesConvF_ok hE (one_inv hx) (.inl ⟨_, _, _, h⟩)
  · obtain ⟨a, cap, h, _⟩ := sl_inv (slf_inv (one_inv hx)).1
    exact bytesConvF_ok hE (one_inv hx) (.inl ⟨_, _, _, h⟩)
  · exact mslConvF_ok hE (one_inv hx)
  · exact .bad

theorem vs_zero {P : Program} {E : Env} {e : TypeId} {z : V} {zs : List C} (hz : tZ P e = some z) (hcs : z.cs = some zs) :
    ∃ i zv, P.info? e = some i ∧ i.zero = some zv ∧ zv.cells.size = zs.length ∧ ∀ (E : Env) (j : Nat) (c : C), zs[j]? = some c → ∃ y, zv.cells[j]? = some y ∧ CRel E c y := by
  obtain ⟨i, zv, hi, hzv, rfl⟩ := tZ_spec hz
  exact ⟨i, zv, hi, hzv, ((V.ofV_rel E zv).cells hcs).1, fun E => ((V.ofV_rel E zv).cells hcs).2⟩

/-- A new object of many rows. -/
theorem new_rows {E : Env} (hE : HRel E) {w1 : World} (hs : E.w.heap.size = w1.heap.size) (ho : w1.os = E.w.os) (ht : w1.tape = E.w.tape) (hu : w1.output = E.w.output) (hk : ∀ b, b < E.w.heap.size → w1.heap[b]? = E.w.heap[b]?)
    {arr : Array Value} {ty : TypeId} {s n cap : Nat} {rows : List (List C)} (hrl : rows.length = n) (hcap : n ≤ cap) (harr : cap * s ≤ arr.size) (hlim : n ≤ lim) (hrs : ∀ r ∈ rows, r.length = s)
    (hrel : ∀ i j c, at2 rows i j = some c → ∃ v, arr[i * s + j]? = some v ∧ CRel E c v) :
    ∃ E', E'.w = w1.alloc (.cells arr ty) ∧ E'.H = E.H ++ [.cells 0 s rows] ∧ VRel E' (.one (.msl E.H.length 0 0 n)) (.slice (some ⟨E.w.heap.size, 0, none⟩) n cap) ∧ HRel E' ∧ Trans E E' := by
  obtain ⟨t, hh⟩ := new_obj hE (w1.alloc (.cells arr ty)) ⟨E.w.heap.size, 0, cap⟩ (.cells 0 s rows) (by simp [hs]) ho ht hu
    (fun b hb => (heap_alloc_old w1 _ b (by omega)).trans (hk b hb)) _ rfl (fun _ => Nat.le_refl _)
  refine ⟨_, rfl, rfl, ?_, hh ?_, t⟩
  · refine .one (.msl (by simp) rfl fun cur sz rows' ho => ?_)
    simp at ho
    obtain ⟨rfl, rfl, rfl⟩ := ho
    exact ⟨Nat.le_refl _, fun _ => ⟨Nat.zero_le _, by omega, _, cap, rfl, by simp, fun _ => by simp⟩⟩
  · refine ⟨?_, ?_, hrs, fun _ => ⟨arr, ty, ?_, ?_, ?_⟩⟩
    · simpa [hrl] using hcap
    · omega
    · simp only [if_true, hs]; exact RowAt.mk0 (heap_alloc_new w1 _)
    · simpa using harr
    · intro i j c hij
      obtain ⟨v, hv, hr⟩ := hrel i j c hij
      exact ⟨v, by simpa using hv, hr.trans t⟩

theorem made_get (z : Array Value) (n m : Nat) (h : m < n) (hz : 0 < z.size) : (madeCells z n)[m]? = z[m % z.size]? := by
  have hlt : m % z.size < z.size := Nat.mod_lt _ hz
  simp [madeCells, h, hlt]

theorem repl_rel {E : Env} {zs : List C} {zc : Array Value} (hz : zc.size = zs.length) (hrel : ∀ (j : Nat) (c : C), zs[j]? = some c → ∃ y, zc[j]? = some y ∧ CRel E c y) (n k : Nat) (hnk : n ≤ k) :
    ∀ i j c, at2 (List.replicate n zs) i j = some c → ∃ v, (madeCells zc (k * zs.length))[i * zs.length + j]? = some v ∧ CRel E c v := by
  intro i j c hij
  obtain ⟨r, hr, hj⟩ := at2_some.1 hij
  rw [List.getElem?_replicate] at hr
  split at hr
  · rename_i hi
    simp at hr; subst hr
    have hjs : j < zs.length := (List.getElem?_eq_some_iff.1 hj).1
    have hlt : i * zs.length + j < k * zs.length := by
      have := Nat.mul_le_mul_right zs.length (show i + 1 ≤ k by omega); rw [Nat.succ_mul] at this; omega
    rw [made_get _ _ _ hlt (by omega), hz, Nat.mul_comm i, Nat.mul_add_mod, Nat.mod_eq_of_lt hjs]
    exact hrel j c hj
  · cases hr

theorem makeSliceF_ok {pl : Bool} {P : Program} {E : Env} (hE : HRel E) {t : TypeId} {l c : V} {vl vc : Value} (hl : VRel E l vl) (hc : VRel E c vc) : Good P E (Instr.makeSlice t vl vc) (makeSliceF P pl t l c E.H) := by
  unfold makeSliceF
  split
  · rename_i kl l kc c e s b ht
    obtain ⟨rfl, _⟩ := int_inv (one_inv hl)
    obtain ⟨rfl, _⟩ := int_inv (one_inv hc)
    obtain ⟨ie, hu, hie, hs, hb⟩ := tSl_spec ht
    split
    · rename_i z hz
      split
      · rename_i zs hzs
        have main : 0 ≤ l ∧ l ≤ c ∧ b * c ≤ 281474976710656 ∧ c ≤ lim ∧ zs.length = s → ∃ (w' : World) (arr : Array Value), (Instr.makeSlice t (.int kl l) (.int kc c)).run P E.w = .ok (.slice (some ⟨E.w.heap.size, 0, none⟩) l.toNat c.toNat) w' ∧ w' = E.w.alloc (.cells arr e) ∧ c.toNat * s ≤ arr.size ∧
            ∀ i j c', at2 (List.replicate l.toNat zs) i j = some c' → ∃ y, arr[i * s + j]? = some y ∧ CRel E c' y := by
          rintro ⟨h0, h1, h2, h3, h4⟩
          obtain ⟨i, zv, hi, hzv, hsz, hrel⟩ := vs_zero (P := P) (E := E) hz hzs
          rw [hie] at hi; cases hi
          have hlim : c ≤ 281474976710656 := by simpa [lim] using h3
          have hrun := run_make (P := P) E.w t e ie zv hu hie hzv kl kc l c h0 h1 (by rw [hb]; exact h2) (by omega)
          have hcl : l.toNat ≤ c.toNat := by omega
          exact ⟨_, madeCells zv.cells (c.toNat * ie.size), hrun, rfl, by simp [size_madeCells, hs], fun i j c' hij => by
            have := repl_rel (E := E) hsz (hrel E) l.toNat c.toNat hcl i j c' hij
            rw [h4] at this
            rw [hs]; exact this⟩
        split
        · rintro hpre
          obtain ⟨w', arr, hrun, hw, o3, o5⟩ := main hpre
          obtain ⟨h0, h1, h2, h3, h4⟩ := hpre
          obtain ⟨tr, hh⟩ := grow_world hE w' (by rw [hw]; simp) (by rw [hw]; rfl) (by rw [hw]; rfl) (by rw [hw]; rfl) (fun b hb => by rw [hw]; exact heap_alloc_old E.w _ b hb)
          refine ⟨trivial, _, ⟨w', E.Fr, E.bd, E.H⟩, hrun, rfl, ?_, hh, tr⟩
          have fnx : ∀ i j, ∃ y, ∀ c', at2 (List.replicate l.toNat zs) i j = some c' → arr[i * s + j]? = some y ∧ CRel ⟨w', E.Fr, E.bd, E.H⟩ c' y := by
            intro i j
            cases hc : at2 (List.replicate l.toNat zs) i j with
            | none => exact ⟨undef, by simp⟩
            | some c' =>
              obtain ⟨y, hy, hr⟩ := o5 _ _ _ hc
              refine ⟨y, fun c'' e => ?_⟩
              cases e
              exact ⟨hy, hr.trans tr⟩
          refine .one (.sl (fun i j => Classical.choose (fnx i j)) s (by simp) (by simp; omega) (by simp only [List.length_replicate]; have : c ≤ (lim : Int) := h3; omega) ?_ (fun _ => ⟨E.w.heap.size, 0, rfl, ⟨by rw [hw]; simp, fun hf => ?_, fun ho => ?_⟩, fun i j c' hij => ?_⟩) (fun i j c' hij => (Classical.choose_spec (fnx i j) c' hij).2))
          · intro r hr
            rw [List.eq_of_mem_replicate hr, h4]
          · have := hE.frlt _ hf; omega
          · have h1 : E.own E.w.heap.size := by
              obtain ⟨i, y, q1, q2, q3⟩ := ho
              exact ⟨i, y, q1, (live_bd (E := E) (E' := ⟨w', E.Fr, E.bd, E.H⟩) rfl).1 q2, q3⟩
            have := hE.own_lt h1; omega
          · have hcell : ∀ y, arr[i * s + j]? = some y → w'.cell? ⟨E.w.heap.size, 0 + (i * s + j), none⟩ = some y := by
              intro y hy
              rw [hw]
              simp only [World.cell?, heap_alloc_new E.w]
              simpa using hy
            exact hcell _ (Classical.choose_spec (fnx i j) c' hij).1
        · rintro hpre
          obtain ⟨w', arr, hrun, hw, o3, o5⟩ := main hpre
          obtain ⟨h0, h1, h2, h3, h4⟩ := hpre
          obtain ⟨E', hw', hH, hv, hh, tr⟩ := new_rows hE (w1 := E.w) rfl rfl rfl rfl (fun _ _ => rfl) (arr := arr) (ty := e) (s := s) (n := l.toNat) (cap := c.toNat)
            (rows := List.replicate l.toNat zs) (by simp) (by omega) o3 (by simp only [lim] at *; omega) (fun r hr => by rw [List.eq_of_mem_replicate hr, h4]) o5
          exact ⟨trivial, _, E', by rw [hw', ← hw]; exact hrun, hH, hv, hh, tr⟩
      · exact .bad
    · exact .bad
  · exact .bad

open Go.Lib in
theorem convZ_ok {P : Program} {E : Env} (hE : HRel E) {z : Bool} {s d : TypeId} {x : V} {vx : Value} (hx : VRel E x vx) : Good P E (convert s d vx) (convZ P z s d x E.H) := by
  unfold convZ
  cases z with
  | false => exact convF_ok hE hx
  | true =>
    simp only
    split
    case h_2 => exact .bad
    rename_i b
    have hx := one_inv hx
    cases hx with
    | @str _ ba hb hl =>
    split
    case h_2 => exact .bad
    rename_i u e hs hd
    split
    case h_2 => exact .bad
    rename_i he
    intro _
    have hsz : ba.size = b.length := by show ba.data.size = b.length; rw [← hb, Array.length_toList]
    have hcut : ba.size ≤ grownCap E.w ba.size 0 e := grownCap_ge E.w ba.size 0 e
    obtain ⟨t, hh⟩ := grow_world hE (bytesWorld E.w e ba) (by rw [bytesWorld_size]; omega) rfl rfl rfl (fun i hi => bytesWorld_at_old E.w e ba i hi)
    have hrow : ∀ i j c, at2 (strRows b) i j = some c → ∃ x : UInt8, b[i]? = some x ∧ j = 0 ∧ c = .int .u8 (x.toNat : Int) := by
      intro i j c hij
      obtain ⟨r, hr, hj⟩ := at2_some.1 hij
      simp only [strRows, sBytes, List.map_map, List.getElem?_map, Option.map_eq_some_iff, Function.comp_def] at hr
      obtain ⟨x, hx, rfl⟩ := hr
      have hj0 : j = 0 := by
        have := (List.getElem?_eq_some_iff.1 hj).1; simp at this; omega
      subst hj0
      simp at hj
      exact ⟨x, hx, rfl, hj.symm⟩
    have hlen : (strRows b).length = b.length := by simp [strRows, sBytes]
    refine ⟨trivial, _, { E with w := bytesWorld E.w e ba }, run_convert_string_bytes E.w s d e ba hs hd he, rfl, .one (.sl (fun i _ => .int .u8 ((b.getD i 0).toNat : Int)) 1 (by rw [hlen, hsz]) (by rw [hlen, ← hsz]; exact hcut) (by rw [hlen]; exact hl) ?_ ?_ ?_), hh, t⟩
    · intro r hr; obtain ⟨x, _, rfl⟩ := List.mem_map.1 hr; rfl
    · intro _
      refine ⟨E.w.heap.size, 0, rfl, ⟨?_, ?_, ?_⟩, ?_⟩
      · show _ < (bytesWorld E.w e ba).heap.size
        rw [bytesWorld_size]; omega
      · intro h; have := hE.frlt _ h; omega
      · rintro ⟨i, o, h1, h2, h3⟩
        have := hE.own_lt ⟨i, o, h1, (live_bd (E := E) (E' := { E with w := bytesWorld E.w e ba }) rfl).1 h2, h3⟩
        omega
      · intro i j c hij
        obtain ⟨x, hx, rfl, rfl⟩ := hrow i j c hij
        have hR : RowAt (bytesWorld E.w e ba) E.w.heap.size (bytesCells E.w e ba) e := ⟨_, bytesWorld_at_new E.w e ba, .inr (Nat.le_refl _)⟩
        show (bytesWorld E.w e ba).cell? _ = _
        rw [hR.cell?]
        have hd : ba.data[i]? = some x := by rw [← Array.getElem?_toList, hb]; exact hx
        have hlt : i < ba.data.size := (Array.getElem?_eq_some_iff.1 hd).1
        have hs' : i < ba.size := hlt
        have h2 := (Array.getElem?_eq_some_iff.1 hd).2
        have h3 : b.getD i 0 = x := by simp [List.getD_eq_getElem?_getD, hx]
        rw [h3]
        simp [bytesCells, Array.getElem?_append, hs']
        exact congrArg (fun y : UInt8 => (y.toNat : Int)) h2
    · intro i j c hij
      obtain ⟨x, hx, rfl, rfl⟩ := hrow i j c hij
      have h3 : b.getD i 0 = x := by simp [List.getD_eq_getElem?_getD, hx]
      simp only [h3]
      refine .int ?_
      have := x.toNat_lt
      simp [IntKind.min, IntKind.max, IntKind.signed, IntKind.bits]; omega
end Go.Lz

end
section
/- Lz8: the reckoning of each operation is what the model does (slices cut, appended to, copied; literals). -/
namespace Go.Lz
set_option linter.unusedVariables false
set_option linter.unusedSimpArgs false

theorem bnd_rel {E : Env} {d : Nat} {x : Option V} {v : Option Value} {n : Int} (h : bnd d x = some n) (hx : ∀ y, x = some y → ∃ u, v = some u ∧ VRel E y u) (hn : x = none → v = none) :
    (x = none ∧ v = none ∧ n = d) ∨ (∃ k, v = some (.int k n)) := by
  cases x with
  | none => simp [bnd] at h; exact .inl ⟨rfl, hn rfl, h.symm⟩
  | some y =>
    obtain ⟨u, rfl, hu⟩ := hx y rfl
    unfold bnd at h
    split at h
    · simp_all
    · rename_i k m hy
      cases hy
      cases h
      obtain ⟨rfl, _⟩ := int_inv (one_inv hu)
      exact .inr ⟨_, rfl⟩
    · simp at h

theorem bound_run {P : Program} {w : World} {k : IntKind} {n : Int} {y : Nat} (code : BoundsCode) (h : 0 ≤ n ∧ n ≤ y) : (Instr.sliceBound (.int k n) y code).run P w = .ok n.toNat w := by
  simp [Instr.sliceBound, asIntOf, h]

theorem bounds_run {P : Program} {w : World} {E : Env} (isSlice : Bool) {len cap : Nat} {lo hi : Option V} {vlo vhi : Option Value} {l h : Int} (hlo : bnd 0 lo = some l) (hhi : bnd len hi = some h)
    (rlo : ∀ y, lo = some y → ∃ u, vlo = some u ∧ VRel E y u) (nlo : lo = none → vlo = none) (rhi : ∀ y, hi = some y → ∃ u, vhi = some u ∧ VRel E y u) (nhi : hi = none → vhi = none)
    (h0 : 0 ≤ l) (h1 : l ≤ h) (h2 : h ≤ cap) : (Instr.sliceBounds isSlice len cap vlo vhi none).run P w = .ok (l.toNat, h.toNat, cap) w := by
  rcases bnd_rel hlo rlo nlo with ⟨_, rfl, rfl⟩ | ⟨k, rfl⟩ <;> rcases bnd_rel hhi rhi nhi with ⟨_, rfl, rfl⟩ | ⟨k', rfl⟩
  · simp [Instr.sliceBounds]
  · simp [Instr.sliceBounds, bound_run _ (show 0 ≤ h ∧ h ≤ cap by omega)]
  · simp [Instr.sliceBounds, bound_run _ (show 0 ≤ l ∧ l ≤ len by omega)]
  · have : (l : Int) ≤ (h.toNat : Int) := by omega
    simp [Instr.sliceBounds, bound_run _ (show 0 ≤ h ∧ h ≤ cap by omega), bound_run _ (show 0 ≤ l ∧ l ≤ (h.toNat : Int) by omega)]

theorem bounds_run3 {P : Program} {w : World} {E : Env} (isSlice : Bool) {len cap : Nat} {lo hi : Option V} {vlo vhi : Option Value} {l h m : Int} {km : IntKind} (hlo : bnd 0 lo = some l) (hhi : bnd len hi = some h) (hsome : hi ≠ none)
    (rlo : ∀ y, lo = some y → ∃ u, vlo = some u ∧ VRel E y u) (nlo : lo = none → vlo = none) (rhi : ∀ y, hi = some y → ∃ u, vhi = some u ∧ VRel E y u) (nhi : hi = none → vhi = none)
    (h0 : 0 ≤ l) (h1 : l ≤ h) (h2 : h ≤ m) (h3 : m ≤ cap) : (Instr.sliceBounds isSlice len cap vlo vhi (some (.int km m))).run P w = .ok (l.toNat, h.toNat, m.toNat) w := by
  have e1 := fun c => bound_run (P := P) (w := w) (k := km) (y := cap) c (show 0 ≤ m ∧ m ≤ cap by omega)
  have e2 := fun k c => bound_run (P := P) (w := w) (k := k) (y := m.toNat) c (show 0 ≤ h ∧ h ≤ (m.toNat : Int) by omega)
  have e3 := fun k c => bound_run (P := P) (w := w) (k := k) (y := h.toNat) c (show 0 ≤ l ∧ l ≤ (h.toNat : Int) by omega)
  rcases bnd_rel hhi rhi nhi with ⟨e, _⟩ | ⟨k', rfl⟩
  · exact (hsome e).elim
  · rcases bnd_rel hlo rlo nlo with ⟨_, rfl, rfl⟩ | ⟨k, rfl⟩
    · simp [Instr.sliceBounds, e1, e2]
    · simp [Instr.sliceBounds, e1, e2, e3]

/-- Rows cut out of rows that never turn. -/
theorem sl_cut {E : Env} {rows : List (List C)} {a : Option Addr} {n cap s l h m : Nat} (hc : CRel E (.sl rows) (.slice a n cap)) (hs : ∀ r ∈ rows, r.length = s) (h1 : l ≤ h) (h2 : h ≤ rows.length) (h3 : h ≤ m) (h4 : m ≤ cap) :
    CRel E (.sl ((rows.take h).drop l)) (.slice (if m = l then a else a.map (·.add (l * s))) (h - l) (m - l)) := by
  cases hc with
  | sl vals sz hn hcap hlim hsz hb hv =>
    have hlen : ((rows.take h).drop l).length = h - l := by simp; omega
    have key : ∀ i j c, at2 ((rows.take h).drop l) i j = some c → at2 rows (l + i) j = some c := by
      intro i j c hij
      obtain ⟨r, hr, hj⟩ := at2_some.1 hij
      rw [List.getElem?_drop, List.getElem?_take] at hr
      split at hr
      · exact at2_some.2 ⟨r, hr, hj⟩
      · cases hr
    refine .sl (fun i j => vals (l + i) j) sz hlen.symm (by omega) (by omega) (fun r hr => hsz r (List.mem_of_mem_take (List.mem_of_mem_drop hr))) (fun hne => ?_) (fun i j c hij => hv _ _ _ (key i j c hij))
    have hlt : l < h := by
      rcases Nat.lt_or_ge l h with hh | hh
      · exact hh
      · exact (hne (List.eq_nil_of_length_eq_zero (by omega))).elim
    have hrne : rows ≠ [] := by intro e; simp [e] at h2; omega
    obtain ⟨b, off, rfl, hf, hcell⟩ := hb hrne
    obtain ⟨r0, hr0⟩ := List.exists_mem_of_ne_nil _ hrne
    have e : sz = s := by rw [← hsz r0 hr0, hs r0 hr0]
    subst e
    refine ⟨b, off + l * sz, ?_, hf, fun i j c hij => ?_⟩
    · rw [if_neg (by omega)]; simp [add_off]
    · have := hcell _ _ _ (key i j c hij)
      rw [Nat.add_mul] at this
      simpa [Nat.add_assoc] using this

def ORelV (E : Env) (x : Option V) (v : Option Value) : Prop := (∀ y, x = some y → ∃ u, v = some u ∧ VRel E y u) ∧ (x = none → v = none)

theorem sliceRows_ok {P : Program} {E : Env} (hE : HRel E) {t : TypeId} {rows : List (List C)} {vx : Value} {lo hi mx : Option V} {vlo vhi vmx : Option Value} (hx : CRel E (.sl rows) vx)
    (hlo : ORelV E lo vlo) (hhi : ORelV E hi vhi) (hmx : ORelV E mx vmx) (hhm : mx ≠ none → hi ≠ none) : Good P E (Instr.sliceAt t vx vlo vhi vmx) (sliceRows P t rows lo hi mx E.H) := by
  obtain ⟨a, cap, rfl, hcap, hlim⟩ := sl_inv hx
  unfold sliceRows
  split
  · rename_i e s b l h ht hl hh
    obtain ⟨ie, hu, hie, hs, _⟩ := tSl_spec ht
    have hv := hmx.2 rfl
    subst hv
    refine .same hE fun ⟨h0, h1, h2, h3⟩ => ⟨trivial, ?_⟩
    have hb := bounds_run (P := P) (w := E.w) true (cap := cap) hl hh hlo.1 hlo.2 hhi.1 hhi.2 h0 h1 (by omega)
    refine ⟨_, ?_, rfl, .one (sl_cut (m := cap) hx h3 (by omega) (by omega) (by omega) (Nat.le_refl _))⟩
    simp [Instr.sliceAt, Instr.slice, run_underlying hu, hb, sizeOf_run hie, hs]
  · rename_i e s b m l h ht hl hh
    obtain ⟨ie, hu, hie, hs, _⟩ := tSl_spec ht
    split
    · rename_i m' hm
      obtain ⟨u, rfl, hu'⟩ := hmx.1 m rfl
      rcases bnd_rel (E := E) hm (fun y hy => by cases hy; exact ⟨u, rfl, hu'⟩) (by simp) with ⟨e, _⟩ | ⟨km, hkm⟩
      · cases e
      · cases hkm
        refine .same hE fun ⟨h0, h1, h2, h3, h4⟩ => ⟨trivial, ?_⟩
        have hb := bounds_run3 (P := P) (w := E.w) true (cap := cap) (km := km) (m := m') hl hh (hhm (by simp)) hlo.1 hlo.2 hhi.1 hhi.2 h0 h1 (by omega) (by omega)
        refine ⟨_, ?_, rfl, .one (.slf (sl_cut (m := m'.toNat) hx h4 (by omega) (by omega) (by omega) (by omega)) ⟨if m'.toNat = l.toNat then a else a.map (·.add (l.toNat * s)), ?_⟩)⟩
        · simp [Instr.sliceAt, Instr.slice, run_underlying hu, hb, sizeOf_run hie, hs]
        · congr 1
          · simp; omega
          · simp; omega
    · exact .bad
  · exact .bad

theorem tPa_spec {P : Program} {t : TypeId} {n : Nat} (h : tPa P t = some n) : ∃ e i, P.underlying t = some (.array n e) ∧ P.info? e = some i ∧ i.size = 1 := by
  unfold tPa at h
  split at h
  · rename_i m e s hr
    split at h
    · rename_i h1
      cases h
      obtain ⟨i, ha, hi, hs⟩ := tAr_spec hr
      exact ⟨e, i, ha, hi, by rw [hs, h1]⟩
    · cases h
  · cases h
theorem iptr_full {E : Env} {row : List C} {off : Nat} {v : Value} (h : CRel E (.iptr row off) v) : ∃ (b o : Nat) (vals : Nat → Value), v = .pointer (some ⟨b, o + off, none⟩) ∧ E.free b ∧ (∀ j c, row[j]? = some c → E.w.cell? ⟨b, o + j, none⟩ = some (vals j)) ∧ ∀ j c, row[j]? = some c → CRel E c (vals j) := by
  cases h with
  | iptr vals he hb hc hv => exact ⟨_, _, vals, he, hb, hc, hv⟩
theorem ref_inv' {E : Env} {id ver off cur sz : Nat} {row : List C} {v : Value} (h : CRel E (.ref id ver 0 off) v) (ho : E.H[id]? = some (.cells cur sz [row])) (hv : ver = cur := by rfl) :
    v = .pointer (some ⟨(E.bd id).blk, (E.bd id).off + off, none⟩) := by
  cases h with
  | ref hid hc hh => simpa using (hh cur sz [row] ho).2 hv
theorem sliceF_ok {P : Program} {E : Env} (hE : HRel E) {t : TypeId} {x : V} {vx : Value} {lo hi mx : Option V} {vlo vhi vmx : Option Value} (hx : VRel E x vx)
    (hlo : ORelV E lo vlo) (hhi : ORelV E hi vhi) (hmx : ORelV E mx vmx) (hhm : mx ≠ none → hi ≠ none) : Good P E (Instr.sliceAt t vx vlo vhi vmx) (sliceF P t x lo hi mx E.H) := by
  unfold sliceF
  split
  · rename_i s
    split
    · rename_i ht
      split
      · rename_i l h hl hh
        have hv := hmx.2 rfl
        subst hv
        obtain ⟨b, rfl, hb, hlim⟩ := str_inv (one_inv hx)
        have hsz : b.size = s.length := by rw [← hb]; rfl
        refine .same hE fun ⟨h0, h1, h2⟩ => ⟨trivial, ?_⟩
        have hbr := bounds_run (P := P) (w := E.w) false (cap := b.size) (len := b.size) hl (by rw [hsz]; exact hh) hlo.1 hlo.2 hhi.1 hhi.2 h0 h1 (by omega)
        refine ⟨.string (b.extract l.toNat h.toNat), ?_, rfl, .one (.str ?_ ?_)⟩
        · simp [Instr.sliceAt, Instr.slice, run_underlying (tIsStr_spec ht), hbr]
        · rw [← hb]
          simp only [ByteArray.data_extract, Array.toList_extract, List.extract_eq_take_drop]
          rw [List.drop_take]
        · simp; omega
      · exact .bad
    · exact .bad
  · exact sliceRows_ok hE (one_inv hx) hlo hhi hmx hhm
  · exact sliceRows_ok hE (slf_inv (one_inv hx)).1 hlo hhi hmx hhm
  · rename_i row off
    split
    case h_2 => exact .bad
    rename_i n l hn hl
    split
    case h_2 => exact .bad
    rename_i h hh
    have hv := hmx.2 rfl
    subst hv
    obtain ⟨e, i, hu, hi, hs⟩ := tPa_spec hn
    refine .same hE fun ⟨p0, p1, p2, p3, p4⟩ => ⟨trivial, ?_⟩
    obtain ⟨b, o, vals, hvx, hb, hc, hvr⟩ := iptr_full (one_inv hx)
    subst hvx
    have hbr := bounds_run (P := P) (w := E.w) false (cap := n) (len := n) hl hh hlo.1 hlo.2 hhi.1 hhi.2 p0 p1 (by omega)
    have hget : ∀ k c, (((((row.drop off).take n).map fun c => [c]).take h.toNat).drop l.toNat)[k]? = some c → ∃ x, c = [x] ∧ row[off + (l.toNat + k)]? = some x := by
      intro k c hk
      rw [List.getElem?_drop, List.getElem?_take] at hk
      split at hk
      · rw [List.getElem?_map, List.getElem?_take] at hk
        split at hk
        · rw [List.getElem?_drop] at hk
          simp only [Option.map_eq_some_iff] at hk
          obtain ⟨x, hx1, rfl⟩ := hk
          exact ⟨x, rfl, hx1⟩
        · simp at hk
      · cases hk
    have hlen : (((((row.drop off).take n).map fun c => [c]).take h.toNat).drop l.toNat).length = h.toNat - l.toNat := by
      simp; omega
    refine ⟨.slice (some (if n = l.toNat then ⟨b, o + off, none⟩ else Addr.add ⟨b, o + off, none⟩ (l.toNat * 1))) (h.toNat - l.toNat) (n - l.toNat), ?_, rfl, .one (.sl (fun k _ => vals (off + (l.toNat + k))) 1 hlen.symm (by rw [hlen]; omega) (by rw [hlen]; omega) ?_ ?_ ?_)⟩
    · simp [Instr.sliceAt, run_underlying hu, Instr.sureAddr, hbr, sizeOf_run hi, hs]
    · intro r hr
      obtain ⟨k, hk⟩ := List.getElem?_of_mem hr
      obtain ⟨x, rfl, _⟩ := hget k r hk
      rfl
    · intro hne
      have hlt : l.toNat < n := by
        have : (((((row.drop off).take n).map fun c => [c]).take h.toNat).drop l.toNat).length ≠ 0 := fun h0 => hne (List.eq_nil_of_length_eq_zero h0)
        rw [hlen] at this
        omega
      refine ⟨b, o + off + l.toNat, by rw [if_neg (by omega)]; simp [Addr.add], hb, fun k j c hkj => ?_⟩
      obtain ⟨r, hr, hj⟩ := at2_some.1 hkj
      obtain ⟨x, rfl, hx1⟩ := hget k r hr
      have hj0 : j = 0 := by
        have := (List.getElem?_eq_some_iff.1 hj).1
        simpa using this
      subst hj0
      have := hc _ _ hx1
      rw [show o + off + l.toNat + (k * 1 + 0) = o + (off + (l.toNat + k)) by omega]
      exact this
    · intro k j c hkj
      obtain ⟨r, hr, hj⟩ := at2_some.1 hkj
      obtain ⟨x, rfl, hx1⟩ := hget k r hr
      have hj0 : j = 0 := by
        have := (List.getElem?_eq_some_iff.1 hj).1
        simpa using this
      subst hj0
      simp at hj; subst hj
      exact hvr _ _ hx1
  · rename_i id ver off
    split
    case h_2 => exact .bad
    rename_i n l cur sz row hn hl ho
    split
    case h_2 => exact .bad
    rename_i h hh
    have hv := hmx.2 rfl
    subst hv
    obtain ⟨e, i, hu, hi, hs⟩ := tPa_spec hn
    intro ⟨hver, p0, p1, p2, p3, p4⟩
    refine ⟨trivial, ?_⟩
    subst hver
    have hvx := ref_inv' (one_inv hx) ho
    subst hvx
    obtain ⟨q1, _, q2, q3⟩ := hE.obj id _ ho
    simp at q1
    have hlive : E.live id (.cells ver sz [row]) := by simp only [Env.live]; omega
    obtain ⟨arr, ty, hra, hsz, hcells⟩ := q3 hlive
    have hrow : row.length = sz := q2 row (by simp)
    obtain ⟨tr, hh'⟩ := upd_obj hE id (.cells ver sz [row]) .dead E.w (E.bd id) ho (Nat.le_refl _) rfl rfl rfl (fun _ _ _ => rfl) (by simp) (by simp) ⟨E.w, E.Fr, fun i => if i = id then E.bd id else E.bd i, E.H.set id .dead⟩ rfl (by simp [Env.live])
    have hE' := hh' trivial
    have hlt : id < E.H.length := (List.getElem?_eq_some_iff.1 ho).1
    have hb : Env.free ⟨E.w, E.Fr, fun i => if i = id then E.bd id else E.bd i, E.H.set id .dead⟩ (E.bd id).blk := by
      refine ⟨hra.lt, hE.nofr id _ ho hlive, fun ⟨j, o, hj, hl', hbj⟩ => ?_⟩
      simp only at hj
      by_cases hji : j = id
      · subst hji
        rw [List.getElem?_set_self hlt] at hj
        cases hj
        exact hl'
      · rw [List.getElem?_set_ne (Ne.symm hji)] at hj
        simp only [if_neg hji] at hbj
        refine hE.dist j id _ _ hj ho ?_ hlive hji hbj
        cases o <;> simp [Env.live, hji] at hl' ⊢ <;> assumption
    obtain ⟨f, hf⟩ : ∃ f : Nat → Value, ∀ j c, row[j]? = some c → arr[(E.bd id).off + j]? = some (f j) ∧ CRel E c (f j) := by
      refine ⟨fun j => arr.getD ((E.bd id).off + j) undef, fun j c hj => ?_⟩
      obtain ⟨v, hv, hr⟩ := hcells 0 j c (at2_some.2 ⟨row, rfl, hj⟩)
      rw [Nat.zero_mul, Nat.zero_add] at hv
      have : arr.getD ((E.bd id).off + j) undef = v := by simp [Array.getD_eq_getD_getElem?, hv]
      simp only [this]
      exact ⟨hv, hr⟩
    have hbr := bounds_run (P := P) (w := E.w) false (cap := n) (len := n) hl hh hlo.1 hlo.2 hhi.1 hhi.2 p0 p1 (by omega)
    have hget : ∀ k c, (((((row.drop off).take n).map fun c => [c]).take h.toNat).drop l.toNat)[k]? = some c → ∃ x, c = [x] ∧ row[off + (l.toNat + k)]? = some x := by
      intro k c hk
      rw [List.getElem?_drop, List.getElem?_take] at hk
      split at hk
      · rw [List.getElem?_map, List.getElem?_take] at hk
        split at hk
        · rw [List.getElem?_drop] at hk
          simp only [Option.map_eq_some_iff] at hk
          obtain ⟨x, hx1, rfl⟩ := hk
          exact ⟨x, rfl, hx1⟩
        · simp at hk
      · cases hk
    have hlen : (((((row.drop off).take n).map fun c => [c]).take h.toNat).drop l.toNat).length = h.toNat - l.toNat := by
      simp; omega
    refine ⟨.slice (some (if n = l.toNat then ⟨(E.bd id).blk, (E.bd id).off + off, none⟩ else Addr.add ⟨(E.bd id).blk, (E.bd id).off + off, none⟩ (l.toNat * 1))) (h.toNat - l.toNat) (n - l.toNat), _, ?_, rfl, .one (.sl (fun k _ => f (off + (l.toNat + k))) 1 hlen.symm (by rw [hlen]; omega) (by rw [hlen]; omega) ?_ ?_ ?_), hE', tr⟩
    · simp [Instr.sliceAt, run_underlying hu, Instr.sureAddr, hbr, sizeOf_run hi, hs]
    · intro r hr
      obtain ⟨k, hk⟩ := List.getElem?_of_mem hr
      obtain ⟨x, rfl, _⟩ := hget k r hk
      rfl
    · intro hne
      have hlt : l.toNat < n := by
        have : (((((row.drop off).take n).map fun c => [c]).take h.toNat).drop l.toNat).length ≠ 0 := fun h0 => hne (List.eq_nil_of_length_eq_zero h0)
        rw [hlen] at this
        omega
      refine ⟨(E.bd id).blk, (E.bd id).off + off + l.toNat, by rw [if_neg (by omega)]; simp [Addr.add], hb, fun k j c hkj => ?_⟩
      obtain ⟨r, hr, hj⟩ := at2_some.1 hkj
      obtain ⟨x, rfl, hx1⟩ := hget k r hr
      have hj0 : j = 0 := by
        have := (List.getElem?_eq_some_iff.1 hj).1
        simpa using this
      subst hj0
      have := (hf _ _ hx1).1
      rw [show (E.bd id).off + off + l.toNat + (k * 1 + 0) = (E.bd id).off + (off + (l.toNat + k)) by omega, hra.cell?]
      exact this
    · intro k j c hkj
      obtain ⟨r, hr, hj⟩ := at2_some.1 hkj
      obtain ⟨x, rfl, hx1⟩ := hget k r hr
      have hj0 : j = 0 := by
        have := (List.getElem?_eq_some_iff.1 hj).1
        simpa using this
      subst hj0
      simp at hj; subst hj
      exact ((hf _ _ hx1).2).trans tr
  · rename_i id ver l0 h0
    split
    · rename_i e s b l h cur sz rows ht hl hh ho
      obtain ⟨ie, hu, hie, hs, _⟩ := tSl_spec ht
      have hv := hmx.2 rfl
      subst hv
      refine .same hE fun ⟨hver, hss, p0, p1, p2⟩ => ⟨trivial, ?_⟩
      obtain ⟨q1, q2, a, cap, rfl, hcap, ha⟩ := msl_inv (one_inv hx) ho hver
      obtain ⟨hrc, _⟩ := hE.obj id _ ho
      have hb := bounds_run (P := P) (w := E.w) true (cap := cap) (len := h0 - l0) hl hh hlo.1 hlo.2 hhi.1 hhi.2 p0 p1 (by omega)
      refine ⟨.slice (a.map fun a => if cap = l.toNat then a else a.add (l.toNat * s)) (h.toNat - l.toNat) (cap - l.toNat), ?_, rfl, .one (.msl (List.getElem?_eq_some_iff.1 ho).1 rfl fun cur' sz' rows' ho' => ?_)⟩
      · cases a with
        | none => simp only [Instr.sliceAt, run_underlying hu, Sem.run_bind, Result.andThen_ok, Instr.slice, hb, sizeOf_run hie, hs, Sem.run_pure, Option.map_none, ite_self]
        | some a =>
          simp only [Instr.sliceAt, run_underlying hu, Sem.run_bind, Result.andThen_ok, Instr.slice, hb, sizeOf_run hie, hs, Sem.run_pure, Option.map_some]
          split <;> rfl
      · rw [ho] at ho'
        cases ho'
        refine ⟨by omega, fun _ => ⟨by omega, by omega, (a.map fun a => if cap = l.toNat then a else a.add (l.toNat * s)), cap - l.toNat, ?_, by omega, fun hpos => ?_⟩⟩
        · congr 1; omega
        · rw [ha (by omega), Option.map_some, if_neg (by omega), add_off, hss]
          congr 2
          rw [Nat.add_mul]; omega
    · exact .bad
  · exact .bad

theorem at2_append {a b : List (List C)} {i j : Nat} {c : C} (h : at2 (a ++ b) i j = some c) : (i < a.length ∧ at2 a i j = some c) ∨ (a.length ≤ i ∧ at2 b (i - a.length) j = some c) := by
  obtain ⟨r, hr, hj⟩ := at2_some.1 h
  rw [List.getElem?_append] at hr
  split at hr
  · exact .inl ⟨by assumption, at2_some.2 ⟨r, hr, hj⟩⟩
  · exact .inr ⟨by omega, at2_some.2 ⟨r, hr, hj⟩⟩

theorem at2_lt {rows : List (List C)} {i j s : Nat} {c : C} (h : at2 rows i j = some c) (hs : ∀ r ∈ rows, r.length = s) : i < rows.length ∧ j < s := by
  obtain ⟨r, hr, hj⟩ := at2_some.1 h
  refine ⟨(List.getElem?_eq_some_iff.1 hr).1, ?_⟩
  have := (List.getElem?_eq_some_iff.1 hj).1
  rw [hs r (List.mem_of_getElem? hr)] at this; exact this

theorem mul_lt_of {i n s j : Nat} (hi : i < n) (hj : j < s) : i * s + j < n * s := by
  have := Nat.mul_le_mul_right s hi; rw [Nat.succ_mul] at this; omega

theorem srcOf {P : Program} {E : Env} {s : Nat} {tx : TypeId} {v : Value} {rows : List (List C)} (h : SrcOk P E s v rows) (hk : (∃ e', P.underlying tx = some (.slice e')) ∨ P.underlying tx = some .string) :
    ∃ news : List Value, Src P s tx v rows.length news E.w ∧ ∀ i j c, at2 rows i j = some c → j < s → ∃ y, news[i * s + j]? = some y ∧ CRel E c y := by
  obtain ⟨f, h1, h2, h3⟩ := h.cells rows.length (Nat.le_refl _)
  refine ⟨(List.range (rows.length * s)).map f, ⟨hk, h.len, h1 _ (fun _ => rfl), h1 _ (fun _ => rfl), by simp, fun u hu => ?_⟩, fun i j c hij hj => ?_⟩
  · simp at hu
    obtain ⟨m, hm, rfl⟩ := hu
    exact h3 m hm
  · have hi : i < rows.length := by obtain ⟨r, hr, _⟩ := at2_some.1 hij; exact (List.getElem?_eq_some_iff.1 hr).1
    refine ⟨f (i * s + j), ?_, h2 i j c hi hij⟩
    simp [mul_lt_of hi hj]

end Go.Lz

end
section
/- Lz9: the reckoning of each operation is what the model does (append, copy, literals). -/
namespace Go.Lz
set_option linter.unusedVariables false
set_option linter.unusedSimpArgs false

theorem nat_in (n : Nat) (h : n ≤ 281474976710656) : IntKind.i64.min ≤ (n : Int) ∧ (n : Int) ≤ IntKind.i64.max := by
  simp [IntKind.min, IntKind.max, IntKind.signed, IntKind.bits]; omega

theorem txKind {P : Program} {tx : TypeId} (h : ((tSl P tx).isSome || tIsStr P tx) = true) : (∃ e', P.underlying tx = some (.slice e')) ∨ P.underlying tx = some .string := by
  rw [Bool.or_eq_true] at h
  rcases h with h | h
  · obtain ⟨⟨e, s, b⟩, hp⟩ := Option.isSome_iff_exists.1 h
    obtain ⟨i, hu, _⟩ := tSl_spec hp
    exact .inl ⟨e, hu⟩
  · exact .inr (tIsStr_spec h)

/-- The cells of a row, then of another, then zeros. -/
theorem grown_rel {E : Env} {old new : List (List C)} {olds news : List Value} {s : Nat} {z : Array Value} (k : Nat) (ho : olds.length = old.length * s) (hso : ∀ r ∈ old, r.length = s) (hsn : ∀ r ∈ new, r.length = s) (hn : news.length = new.length * s)
    (h1 : ∀ i j c, at2 old i j = some c → ∃ y, olds[i * s + j]? = some y ∧ CRel E c y) (h2 : ∀ i j c, at2 new i j = some c → j < s → ∃ y, news[i * s + j]? = some y ∧ CRel E c y) :
    ∀ i j c, at2 (old ++ new) i j = some c → ∃ v, ((olds ++ news).toArray ++ z)[i * s + j]? = some v ∧ CRel E c v := by
  intro i j c hij
  rcases at2_append hij with ⟨hi, h⟩ | ⟨hi, h⟩
  · obtain ⟨_, hj⟩ := at2_lt h hso
    obtain ⟨y, hy, hr⟩ := h1 i j c h
    have hlt := mul_lt_of hi hj
    refine ⟨y, ?_, hr⟩
    rw [Array.getElem?_append_left (by simp; omega)]
    simpa [List.getElem?_append_left (show i * s + j < olds.length by omega)] using hy
  · obtain ⟨hi2, hj⟩ := at2_lt h hsn
    obtain ⟨y, hy, hr⟩ := h2 _ j c h hj
    have hlt := mul_lt_of hi2 hj
    have e : i * s + j = old.length * s + ((i - old.length) * s + j) := by
      have : i = old.length + (i - old.length) := by omega
      rw [← Nat.add_assoc, ← Nat.add_mul, ← this]
    refine ⟨y, ?_, hr⟩
    rw [Array.getElem?_append_left (by simp; omega), e]
    simp only [List.getElem?_toArray]
    rw [List.getElem?_append_right (by omega), ho, Nat.add_sub_cancel_left]
    exact hy

theorem appendF_ok {P : Program} {E : Env} (hE : HRel E) {ts : Array TypeId} {ty : TypeId} {sx x : V} {vs vx : Value} (hs : VRel E sx vs) (hx : VRel E x vx) : Good P E (Builtin.append_ ts ty #[vs, vx]) (appendF P ts sx x E.H) := by
  unfold appendF
  split
  case h_2 => exact .bad
  rename_i t tx h0 h1
  split
  case h_2 => exact .bad
  rename_i e sz b xc ht hk
  split
  case h_2 => exact .bad
  rename_i z new p hz hrow
  split
  case h_2 => exact .bad
  rename_i zs hzs
  obtain ⟨ie, hu, hie, hsz, hby⟩ := tSl_spec ht
  obtain ⟨i, zv, hi, hzv, hzsz, hzrel⟩ := vs_zero (P := P) (E := E) hz hzs
  rw [hie] at hi; cases hi
  have hkind := txKind hk
  have hts : Builtin.append_ ts ty #[vs, vx] = Builtin.append_ #[t, tx] ty #[vs, vx] := by simp only [Builtin.append_, h0, h1]; rfl
  rw [hts]
  have hxr := one_inv hx
  split
  · -- onto a slice without spare room
    rename_i old
    split
    · -- nothing is appended
      rename_i hem
      have hnew : new = [] := List.isEmpty_iff.1 hem
      rintro ⟨hp, hzl, hs0⟩
      refine ⟨trivial, ?_⟩
      have src := rowsOf_ok (P := P) hE hxr hrow hp (by subst hnew; simp) hs0
      obtain ⟨news, hsrc, hnews⟩ := srcOf src hkind
      obtain ⟨hsl, a, rfl⟩ := slf_inv (one_inv hs)
      have hnn : news = [] := List.eq_nil_of_length_eq_zero (by rw [hsrc.newsLen, hnew]; simp)
      subst hnn
      subst hsz
      have hm : new.length = 0 := by simp [hnew]
      have hcc := hsrc.cells
      have hcl := hsrc.len
      rw [hm] at hcc hcl
      have hrun : (Builtin.append_ #[t, tx] ty #[.slice a old.length old.length, vx]).run P E.w = .ok (.slice a old.length old.length) E.w := by
        rcases hkind with ⟨e', hk'⟩ | hk' <;> cases a <;> simp [Builtin.append_, run_underlying hu, run_underlying hk', sizeOf, typeInfo, hie, hcl, hcc, storeCells]
      exact ⟨_, E, hrun, rfl, hs, hE, Trans.refl E⟩
    rename_i hem
    have hne : new ≠ [] := fun h => by rw [h] at hem; simp at hem
    rintro ⟨hp, hbytes, hlim, hzl, hs0, hsn, hso⟩
    refine ⟨trivial, ?_⟩
    have src := rowsOf_ok (P := P) hE hxr hrow hp hsn hs0
    obtain ⟨news, hsrc, hnews⟩ := srcOf src hkind
    obtain ⟨hsl, a, rfl⟩ := slf_inv (one_inv hs)
    have osrc := rowsOf_ok (P := P) hE (one_inv hs) (show rowsOf E.H (.slf old) = some (old, True) from rfl) trivial hso hs0
    obtain ⟨f, hf1, hf2, hf3⟩ := osrc.cells old.length (Nat.le_refl _)
    have hnl : 0 < new.length := List.length_pos_iff.2 hne
    subst hsz
    subst hby
    have hlim' : old.length + new.length ≤ 281474976710656 := hlim
    have hrun := run_append_grow_src (P := P) E.w t tx ty e ie zv hu hie hzv a old.length old.length ((List.range (old.length * ie.size)).map f)
      (hf1 E.w.drew (fun _ => rfl)) vx new.length news hsrc (by omega) (by omega) (growslice_fits (by omega) hbytes)
    have hcap := grownCap_ge E.w (old.length + new.length) old.length e
    obtain ⟨E', hw, hH, hv, hh, tr⟩ := new_rows hE (w1 := E.w.drew) rfl rfl rfl rfl (fun _ _ => rfl)
      (arr := (((List.range (old.length * ie.size)).map f) ++ news).toArray ++ Builtin.zeroCells zv.cells (grownCap E.w (old.length + new.length) old.length e - (old.length + new.length))) (ty := e) (s := ie.size)
      (n := old.length + new.length) (cap := grownCap E.w (old.length + new.length) old.length e) (rows := old ++ new) (by simp) hcap
      (by
        simp only [Array.size_append, List.size_toArray, List.length_append, List.length_map, List.length_range, size_zeroCells, hzsz, hzl, hsrc.newsLen]
        rw [← Nat.add_mul, ← Nat.add_mul]
        exact Nat.mul_le_mul_right _ (by omega))
      hlim (by intro r hr; rcases List.mem_append.1 hr with h | h; exact hso r h; exact hsn r h)
      (grown_rel 0 (by simp) hso hsn hsrc.newsLen
        (fun i j c hij => by
          obtain ⟨hi, hj⟩ := at2_lt hij hso
          exact ⟨f (i * ie.size + j), by simp [mul_lt_of hi hj], hf2 i j c hi hij⟩) hnews)
    exact ⟨_, E', by rw [hw]; exact hrun, hH, hv, hh, tr⟩
  · -- onto an own slice
    rename_i id ver lo hi
    split
    case h_2 => exact .bad
    rename_i cur sz' rows ho
    rintro ⟨hp, hver, hhi, hsz', hbytes, hlim, hzl, hs0, hsn⟩
    subst hsz'
    have src := rowsOf_ok (P := P) hE hxr hrow hp hsn hs0
    obtain ⟨news, hsrc, hnews⟩ := srcOf src hkind
    obtain ⟨hlo, _, a, cap, rfl, hcap, ha⟩ := msl_inv (one_inv hs) ho hver
    obtain ⟨g3, g4, g5, g7⟩ := hE.obj id _ ho
    refine ⟨hlo, ?_⟩
    subst hsz
    subst hby
    subst hhi
    have hlim' : rows.length - lo + new.length ≤ 281474976710656 := hlim
    have hdl : (rows.drop lo).length = rows.length - lo := by simp
    have hdrop : ∀ i j c, at2 (rows.drop lo) i j = some c → at2 rows (lo + i) j = some c := by
      intro i j c hij
      obtain ⟨r, hr, hj⟩ := at2_some.1 hij
      rw [List.getElem?_drop] at hr
      exact at2_some.2 ⟨r, hr, hj⟩
    have hso : ∀ r ∈ rows.drop lo, r.length = ie.size := fun r hr => g5 r (List.mem_of_mem_drop hr)
    have hall : ∀ r ∈ rows.drop lo ++ new, r.length = ie.size := by intro r hr; rcases List.mem_append.1 hr with h | h; exact hso r h; exact hsn r h
    by_cases hroom : rows.length - lo + new.length ≤ cap
    · by_cases hm : new.length = 0
      · -- nothing is appended
        have hnn : news = [] := List.eq_nil_of_length_eq_zero (by rw [hsrc.newsLen, hm]; simp)
        have hnew : new = [] := List.eq_nil_of_length_eq_zero hm
        subst hnn
        have hrun : (Builtin.append_ #[t, tx] ty #[.slice a (rows.length - lo) cap, vx]).run P E.w = .ok (.slice a (rows.length - lo + new.length) cap) E.w := by
          rcases hkind with ⟨e', hk'⟩ | hk' <;> cases a <;> simp [Builtin.append_, run_underlying hu, run_underlying hk', sizeOf, typeInfo, hie, hsrc.len, hroom, hsrc.cells, storeCells]
        obtain ⟨tr, hh⟩ := upd_obj hE id _ (.cells (cur + 1) ie.size (rows.drop lo ++ new)) E.w ⟨(E.bd id).blk, (E.bd id).off + lo * ie.size, cap⟩ ho (Nat.le_refl _) rfl rfl rfl (fun _ _ _ => rfl)
          (fun ver' sz' rows' e => by cases e; exact ⟨cur, ie.size, rows, rfl, by omega, fun h => by omega⟩) (fun es' e => by cases e) _ rfl
          (fun hl => .inl ⟨by simp only [Env.live, if_true] at hl; show (E.bd id).cap ≠ 0; omega, rfl⟩)
        refine ⟨_, ⟨E.w, E.Fr, fun i => if i = id then ⟨(E.bd id).blk, (E.bd id).off + lo * ie.size, cap⟩ else E.bd i, E.H.set id (.cells (cur + 1) ie.size (rows.drop lo ++ new))⟩, hrun, rfl, ?_, hh ?_, tr⟩
        · refine .one (.msl (by simp; exact (List.getElem?_eq_some_iff.1 ho).1) rfl fun cur' sz' rows' ho' => ?_)
          rw [List.getElem?_set_self (List.getElem?_eq_some_iff.1 ho).1] at ho'
          cases ho'
          refine ⟨Nat.le_refl _, fun _ => ⟨Nat.zero_le _, by simp, a, cap, rfl, by simp, fun hpos => ?_⟩⟩
          simp [ha hpos]
        · refine ⟨?_, ?_, hall, fun hcz => ?_⟩
          · simp only [if_true]; simp [hnew]; omega
          · simp [hnew]; omega
          simp only [if_true] at hcz
          obtain ⟨arr, ty0, g1, g2, g6⟩ := g7 (by omega)
          refine ⟨arr, ty0, ?_, ?_, ?_⟩
          · simp only [if_true]; exact g1
          · simp only [if_true]; rw [Nat.add_assoc, ← Nat.add_mul, hcap]; exact g2
          · intro i j c hij
            simp only [if_true]
            rw [hnew, List.append_nil] at hij
            obtain ⟨v, hv, hr⟩ := g6 _ _ _ (hdrop i j c hij)
            refine ⟨v, ?_, hr.trans tr⟩
            rw [Nat.add_mul] at hv
            simpa [Nat.add_assoc] using hv
      · -- there is room
        have hc0 : 0 < cap := by omega
        have ha' := ha hc0
        subst ha'
        have hcz : (E.bd id).cap ≠ 0 := by omega
        obtain ⟨arr, ty0, g1, g2, g6⟩ := g7 hcz
        have hbound : (E.bd id).off + rows.length * ie.size + news.length ≤ arr.size := by
          rw [hsrc.newsLen, Nat.add_assoc, ← Nat.add_mul]
          have : (rows.length + new.length) * ie.size ≤ (E.bd id).cap * ie.size := Nat.mul_le_mul_right _ (by omega)
          omega
        have hst := RowAt.store (P := P) (o := ((E.bd id).off + rows.length * ie.size)) news 0 arr E.w g1 (by simpa using hbound) hsrc.one
        simp only [Nat.add_zero] at hst
        let arr' : Array Value := (arr.toList.take ((E.bd id).off + rows.length * ie.size) ++ news ++ arr.toList.drop ((E.bd id).off + rows.length * ie.size + news.length)).toArray
        have harr' : ∀ k, arr'[k]? = if (E.bd id).off + rows.length * ie.size ≤ k ∧ k < (E.bd id).off + rows.length * ie.size + news.length then news[k - ((E.bd id).off + rows.length * ie.size)]? else arr[k]? := by
          intro k
          have := splice_get arr.toList ((E.bd id).off + rows.length * ie.size) news (by simpa using hbound) k
          simpa [arr', splice] using this
        have hsize : arr'.size = arr.size := by
          have := splice_len arr.toList ((E.bd id).off + rows.length * ie.size) news (by simpa using hbound)
          simpa [arr', splice] using this
        have hoff : (E.bd id).off + lo * ie.size + (rows.length - lo) * ie.size = (E.bd id).off + rows.length * ie.size := by
          rw [Nat.add_assoc, ← Nat.add_mul]; congr 2; omega
        have hrun : (Builtin.append_ #[t, tx] ty #[.slice (some ⟨(E.bd id).blk, (E.bd id).off + lo * ie.size, none⟩) (rows.length - lo) cap, vx]).run P E.w =
            .ok (.slice (some ⟨(E.bd id).blk, (E.bd id).off + lo * ie.size, none⟩) (rows.length - lo + new.length) cap) (E.w.setRow (E.bd id).blk arr') := by
          rcases hkind with ⟨e', hk'⟩ | hk' <;> simp [Builtin.append_, run_underlying hu, run_underlying hk', sizeOf, typeInfo, hie, hsrc.len, hroom, hsrc.cells, add_off, hoff, hst, arr']
        obtain ⟨tr, hh⟩ := upd_obj hE id _ (.cells (cur + 1) ie.size (rows.drop lo ++ new)) (E.w.setRow (E.bd id).blk arr') ⟨(E.bd id).blk, (E.bd id).off + lo * ie.size, cap⟩ ho (by simp) rfl rfl rfl
          (fun b hb hne => setRow_other E.w _ b arr' (hne hcz))
          (fun ver' sz' rows' e => by cases e; exact ⟨cur, ie.size, rows, rfl, by omega, fun h => by omega⟩) (fun es' e => by cases e) _ rfl (fun _ => .inl ⟨hcz, rfl⟩)
        refine ⟨_, _, hrun, rfl, ?_, hh ?_, tr⟩
        · refine .one (.msl (by simp; exact (List.getElem?_eq_some_iff.1 ho).1) rfl fun cur' sz' rows' ho' => ?_)
          rw [List.getElem?_set_self (List.getElem?_eq_some_iff.1 ho).1] at ho'
          cases ho'
          exact ⟨Nat.le_refl _, fun _ => ⟨Nat.zero_le _, by simp, _, cap, rfl, by simp, fun hpos => by simp⟩⟩
        · refine ⟨?_, ?_, hall, fun _ => ⟨arr', ty0, ?_, ?_, ?_⟩⟩
          · simp only [if_true]; simp; omega
          · simp [lim]; omega
          · simp only [if_true]; exact g1.setRow (by assumption)
          · simp only [if_true]; rw [hsize, Nat.add_assoc, ← Nat.add_mul, hcap]; exact g2
          · intro i j c hij
            simp only [if_true]
            rcases at2_append hij with ⟨hi, h⟩ | ⟨hi, h⟩
            · obtain ⟨_, hj⟩ := at2_lt h hso
              obtain ⟨v, hv, hr⟩ := g6 _ _ _ (hdrop i j c h)
              refine ⟨v, ?_, hr.trans tr⟩
              have e1 : (E.bd id).off + lo * ie.size + (i * ie.size + j) = (E.bd id).off + ((lo + i) * ie.size + j) := by rw [Nat.add_mul]; omega
              have hlt := mul_lt_of (show lo + i < rows.length by omega) hj
              rw [harr', e1, if_neg (by omega)]
              exact hv
            · obtain ⟨hi2, hj⟩ := at2_lt h hsn
              obtain ⟨y, hy, hr⟩ := hnews _ j c h hj
              refine ⟨y, ?_, hr.trans tr⟩
              have hlt := mul_lt_of hi2 hj
              have e1 : (E.bd id).off + lo * ie.size + (i * ie.size + j) = (E.bd id).off + rows.length * ie.size + ((i - (rows.drop lo).length) * ie.size + j) := by
                have h1 : i = (rows.length - lo) + (i - (rows.drop lo).length) := by rw [hdl] at hi ⊢; omega
                have h2 : lo * ie.size + i * ie.size = rows.length * ie.size + (i - (rows.drop lo).length) * ie.size := by
                  rw [← Nat.add_mul, ← Nat.add_mul]; congr 1; omega
                omega
              rw [harr', e1, if_pos (by rw [hsrc.newsLen]; omega), Nat.add_sub_cancel_left]
              exact hy
    · -- there is none
      have osrc := rowsOf_ok (P := P) hE (one_inv hs) (show rowsOf E.H (.msl id ver lo rows.length) = some ((rows.take rows.length).drop lo, ver = cur) by simp [rowsOf, ho]) hver (by simpa using hso) hs0
      rw [List.take_length] at osrc
      obtain ⟨f, hf1, hf2, hf3⟩ := osrc.cells (rows.length - lo) (by simp)
      have hrun := run_append_grow_src (P := P) E.w t tx ty e ie zv hu hie hzv a (rows.length - lo) cap ((List.range ((rows.length - lo) * ie.size)).map f)
        (hf1 E.w.drew (fun _ => rfl)) vx new.length news hsrc (by omega) (by omega) (growslice_fits (by omega) hbytes)
      have hgc := grownCap_ge E.w (rows.length - lo + new.length) cap e
      let arr' : Array Value := (((List.range ((rows.length - lo) * ie.size)).map f) ++ news).toArray ++ Builtin.zeroCells zv.cells (grownCap E.w (rows.length - lo + new.length) cap e - (rows.length - lo + new.length))
      obtain ⟨tr, hh⟩ := upd_obj hE id _ (.cells (cur + 1) ie.size (rows.drop lo ++ new)) (E.w.drew.alloc (.cells arr' e)) ⟨E.w.heap.size, 0, grownCap E.w (rows.length - lo + new.length) cap e⟩ ho (by simp) rfl rfl rfl
        (fun b hb hne => heap_alloc_old E.w.drew _ b (by simpa using hb))
        (fun ver' sz' rows' e => by cases e; exact ⟨cur, ie.size, rows, rfl, by omega, fun h => by omega⟩) (fun es' e => by cases e) _ rfl (fun _ => .inr (Nat.le_refl _))
      refine ⟨_, _, hrun, rfl, ?_, hh ?_, tr⟩
      · refine .one (.msl (by simp; exact (List.getElem?_eq_some_iff.1 ho).1) rfl fun cur' sz' rows' ho' => ?_)
        rw [List.getElem?_set_self (List.getElem?_eq_some_iff.1 ho).1] at ho'
        cases ho'
        exact ⟨Nat.le_refl _, fun _ => ⟨Nat.zero_le _, by simp, _, _, rfl, by simp, fun hpos => by simp⟩⟩
      · refine ⟨?_, ?_, hall, fun _ => ⟨arr', e, ?_, ?_, ?_⟩⟩
        · simp only [if_true]; simp; omega
        · simp [lim]; omega
        · simp only [if_true]; exact RowAt.mk0 (heap_alloc_new E.w.drew _)
        · simp only [if_true, arr', Array.size_append, List.size_toArray, List.length_append, List.length_map, List.length_range, size_zeroCells, hzsz, hzl, hsrc.newsLen]
          rw [← Nat.add_mul, ← Nat.add_mul, Nat.zero_add]
          exact Nat.mul_le_mul_right _ (by omega)
        · intro i j c hij
          simp only [if_true, Nat.zero_add]
          obtain ⟨v, hv, hr⟩ := grown_rel (E := E) (old := rows.drop lo) (new := new) (olds := (List.range ((rows.length - lo) * ie.size)).map f) (news := news) (s := ie.size)
            (z := Builtin.zeroCells zv.cells (grownCap E.w (rows.length - lo + new.length) cap e - (rows.length - lo + new.length))) 0 (by simp) hso hsn hsrc.newsLen
            (fun i j c hij => by
              obtain ⟨hi, hj⟩ := at2_lt hij hso
              rw [hdl] at hi
              exact ⟨f (i * ie.size + j), by simp [mul_lt_of hi hj], hf2 i j c hi hij⟩) hnews i j c hij
          exact ⟨v, hv, hr.trans tr⟩
  · exact .bad


theorem copyF_ok {P : Program} {E : Env} (hE : HRel E) {ts : Array TypeId} {ty : TypeId} {d x : V} {vd vx : Value} (hd : VRel E d vd) (hx : VRel E x vx) : Good P E (Builtin.copy_ ts ty #[vd, vx]) (copyF P ts d x E.H) := by
  unfold copyF
  split
  case h_2 => exact .bad
  rename_i t id ver lo hi xc h0
  split
  case h_2 => exact .bad
  rename_i e s b cur sz rows src p ht ho hrow
  rintro ⟨hp, hver, hsz, hs0, hsn⟩
  subst hsz
  obtain ⟨ie, hu, hie, hs, _⟩ := tSl_spec ht
  subst hs
  obtain ⟨hlo, hhi, a, cap, rfl, hcap, ha⟩ := msl_inv (one_inv hd) ho hver
  obtain ⟨g3, g4, g5, g7⟩ := hE.obj id _ ho
  have hlim4 : rows.length ≤ 281474976710656 := g4
  refine ⟨trivial, ?_⟩
  have hres : ∀ E, VRel E (.one (.int .i64 (min src.length (hi - lo) : Nat))) (.int .i64 (min src.length (hi - lo) : Nat)) := fun E => .one (.int (nat_in _ (by omega)))
  have src' := rowsOf_ok (P := P) hE (one_inv hx) hrow hp hsn hs0
  obtain ⟨f, hf1, hf2, hf3⟩ := src'.cells (min src.length (hi - lo)) (by omega)
  have hts : Builtin.copy_ ts ty #[.slice a (hi - lo) cap, vx] = Builtin.copy_ #[t] ty #[.slice a (hi - lo) cap, vx] := by simp only [Builtin.copy_, h0]; rfl
  have hnmin : Nat.min src.length (hi - lo) = min src.length (hi - lo) := rfl
  have hread := hf1 E.w (fun _ => rfl)
  rw [hts]
  by_cases hz : min src.length (hi - lo) = 0
  · have hspl : splice rows lo (src.take (hi - lo)) = rows := by
      have : src.take (hi - lo) = [] := List.eq_nil_of_length_eq_zero (by rw [List.length_take]; omega)
      simp [this, splice]
    refine ⟨_, E, ?_, ?_, hres E, hE, Trans.refl E⟩
    · rw [hz] at hread
      simp only [Builtin.copy_, List.getElem?_toArray, List.getElem?_cons_zero, List.getElem?_cons_succ, Sem.run_bind, run_underlying hu, Result.andThen_ok, src'.len, sizeOf_run hie, hnmin, hz, hread]
      cases a <;> simp [storeCells, goInt]
    · show E.H = E.H.set id _
      rw [hspl]
      have hlt := (List.getElem?_eq_some_iff.1 ho).1
      have hget := (List.getElem?_eq_some_iff.1 ho).2
      apply List.ext_getElem?
      intro k
      rw [List.getElem?_set]
      split
      · rename_i e; subst e; simp [hlt, hget]
      · rfl
  · have ha' := ha (by omega)
    subst ha'
    have hcz : (E.bd id).cap ≠ 0 := by omega
    obtain ⟨arr, ty0, g1, g2, g6⟩ := g7 hcz
    let news : List Value := (List.range (min src.length (hi - lo) * ie.size)).map f
    have hnl : news.length = min src.length (hi - lo) * ie.size := by simp [news]
    have hbound : (E.bd id).off + lo * ie.size + news.length ≤ arr.size := by
      rw [hnl, Nat.add_assoc, ← Nat.add_mul]
      have : (lo + min src.length (hi - lo)) * ie.size ≤ (E.bd id).cap * ie.size := Nat.mul_le_mul_right _ (by omega)
      omega
    have hone : ∀ v ∈ news, v.oneCell' = true := by
      intro v hv
      simp only [news, List.mem_map, List.mem_range] at hv
      obtain ⟨m, hm, rfl⟩ := hv
      exact hf3 m hm
    have hst := RowAt.store (P := P) (o := ((E.bd id).off + lo * ie.size)) news 0 arr E.w g1 (by simpa using hbound) hone
    simp only [Nat.add_zero] at hst
    let arr' : Array Value := (arr.toList.take ((E.bd id).off + lo * ie.size) ++ news ++ arr.toList.drop ((E.bd id).off + lo * ie.size + news.length)).toArray
    have harr' : ∀ k, arr'[k]? = if (E.bd id).off + lo * ie.size ≤ k ∧ k < (E.bd id).off + lo * ie.size + news.length then news[k - ((E.bd id).off + lo * ie.size)]? else arr[k]? := by
      intro k
      have := splice_get arr.toList ((E.bd id).off + lo * ie.size) news (by simpa using hbound) k
      simpa [arr', splice] using this
    have hsize : arr'.size = arr.size := by
      have := splice_len arr.toList ((E.bd id).off + lo * ie.size) news (by simpa using hbound)
      simpa [arr', splice] using this
    have hrun : (Builtin.copy_ #[t] ty #[.slice (some ⟨(E.bd id).blk, (E.bd id).off + lo * ie.size, none⟩) (hi - lo) cap, vx]).run P E.w = .ok (.int .i64 (min src.length (hi - lo) : Nat)) (E.w.setRow (E.bd id).blk arr') := by
      simp only [Builtin.copy_, List.getElem?_toArray, List.getElem?_cons_zero, List.getElem?_cons_succ, Sem.run_bind, run_underlying hu, Result.andThen_ok, src'.len, sizeOf_run hie, hnmin, hread]
      show (Result.andThen ((storeCells _ news).run P E.w) _) = _
      rw [hst]
      simp [goInt, arr']
    have htl : (src.take (hi - lo)).length = min src.length (hi - lo) := by rw [List.length_take]; omega
    have hsl : lo + (src.take (hi - lo)).length ≤ rows.length := by rw [htl]; omega
    obtain ⟨tr, hh⟩ := upd_obj hE id _ (.cells cur ie.size (splice rows lo (src.take (hi - lo)))) (E.w.setRow (E.bd id).blk arr') (E.bd id) ho (by simp) rfl rfl rfl
      (fun b hb hne => setRow_other E.w _ b arr' (hne hcz))
      (fun ver' sz' rows' e => by cases e; exact ⟨cur, ie.size, rows, rfl, Nat.le_refl _, fun _ => ⟨rfl, (splice_len _ _ _ hsl).symm, rfl⟩⟩) (fun es' e => by cases e) _ rfl (fun _ => .inl ⟨hcz, rfl⟩)
    refine ⟨_, _, hrun, rfl, hres _, hh ?_, tr⟩
    refine ⟨?_, ?_, ?_, fun _ => ⟨arr', ty0, ?_, ?_, ?_⟩⟩
    · simp only [if_true]; rw [splice_len _ _ _ hsl]; exact g3
    · rw [splice_len _ _ _ hsl]; exact g4
    rotate_left
    · simp only [if_true]; exact g1.setRow (by assumption)
    · simp only [if_true]; rw [hsize]; exact g2
    rotate_left
    · intro r hr
      obtain ⟨k, hk, e⟩ := List.mem_iff_getElem.1 hr
      have h1 : (splice rows lo (src.take (hi - lo)))[k]? = some r := by rw [List.getElem?_eq_getElem hk, e]
      rw [splice_get _ _ _ hsl] at h1
      split at h1
      · exact hsn r (List.mem_of_mem_take (List.mem_of_getElem? h1))
      · exact g5 r (List.mem_of_getElem? h1)
    · intro i j c hij
      simp only [if_true]
      obtain ⟨r, hr, hj⟩ := at2_some.1 hij
      rw [splice_get _ _ _ hsl] at hr
      split at hr
      · rename_i hi1
        rw [List.getElem?_take] at hr
        split at hr
        · have hij' : at2 src (i - lo) j = some c := at2_some.2 ⟨r, hr, hj⟩
          obtain ⟨hi2, hjs⟩ := at2_lt hij' hsn
          have hlt := mul_lt_of (show i - lo < min src.length (hi - lo) by omega) hjs
          refine ⟨f ((i - lo) * ie.size + j), ?_, (hf2 _ _ _ (by omega) hij').trans tr⟩
          have e1 : (E.bd id).off + (i * ie.size + j) = (E.bd id).off + lo * ie.size + ((i - lo) * ie.size + j) := by
            have : i * ie.size = lo * ie.size + (i - lo) * ie.size := by rw [← Nat.add_mul]; congr 1; omega
            omega
          rw [harr', e1, if_pos (by rw [hnl]; omega), Nat.add_sub_cancel_left]
          simp [news, hlt]
        · cases hr
      · rename_i hi1
        have hjs : j < ie.size := by have := (List.getElem?_eq_some_iff.1 hj).1; rw [g5 r (List.mem_of_getElem? hr)] at this; exact this
        obtain ⟨v, hv, hrel⟩ := g6 i j c (at2_some.2 ⟨r, hr, hj⟩)
        refine ⟨v, ?_, hrel.trans tr⟩
        rw [harr', if_neg ?_]
        · exact hv
        · rw [htl] at hi1
          rw [hnl]
          rcases Nat.lt_or_ge i lo with h | h
          · have := mul_lt_of h hjs; omega
          · have : lo + min src.length (hi - lo) ≤ i := by omega
            have h2 := Nat.mul_le_mul_right ie.size this
            rw [Nat.add_mul] at h2; omega

theorem clearF_ok {P : Program} {E : Env} (hE : HRel E) {ts : Array TypeId} {ty : TypeId} {d : V} {vd : Value} (hd : VRel E d vd) : Good P E (Builtin.clear_ ts ty #[vd]) (clearF P ts d E.H) := by
  unfold clearF
  split
  case h_2 => exact .bad
  rename_i t id ver lo hi h0
  split
  case h_2 => exact .bad
  rename_i e s b cur sz rows ht ho
  split
  case h_2 => exact .bad
  rename_i z hz
  split
  case h_2 => exact .bad
  rename_i zs hzs
  rintro ⟨hver, hsz, hs0, hzl⟩
  subst hsz
  obtain ⟨ie, hu, hie, hs, _⟩ := tSl_spec ht
  subst hs
  obtain ⟨i, zv, hi', hzv, hzsz, hzrel⟩ := vs_zero (P := P) (E := E) hz hzs
  rw [hie] at hi'; cases hi'
  obtain ⟨hlo, hhi, a, cap, rfl, hcap, ha⟩ := msl_inv (one_inv hd) ho hver
  obtain ⟨g3, g4, g5, g7⟩ := hE.obj id _ ho
  have hlim4 : rows.length ≤ 281474976710656 := g4
  refine ⟨trivial, ?_⟩
  have hres : ∀ E, VRel E (.tup []) (.tuple #[]) := fun E => .tup rfl (by simp)
  have hts : Builtin.clear_ ts ty #[.slice a (hi - lo) cap] = Builtin.clear_ #[t] ty #[.slice a (hi - lo) cap] := by simp only [Builtin.clear_, h0]; rfl
  have hzero : (zeroValue e).run P E.w = .ok zv E.w := by simp [zeroValue, typeInfo, hie, hzv]
  rw [hts]
  by_cases hn0 : hi - lo = 0
  · have hspl : splice rows lo (List.replicate (hi - lo) zs) = rows := by simp [hn0, splice]
    refine ⟨_, E, ?_, ?_, hres E, hE, Trans.refl E⟩
    · rw [hn0]
      cases a <;> simp [Builtin.clear_, run_underlying hu]
    · show E.H = E.H.set id _
      rw [hspl]
      have hlt := (List.getElem?_eq_some_iff.1 ho).1
      have hget := (List.getElem?_eq_some_iff.1 ho).2
      apply List.ext_getElem?
      intro k
      rw [List.getElem?_set]
      split
      · rename_i e; subst e; simp [hlt, hget]
      · rfl
  · have ha' := ha (by omega)
    subst ha'
    have hcz : (E.bd id).cap ≠ 0 := by omega
    obtain ⟨arr, ty0, g1, g2, g6⟩ := g7 hcz
    let f : Nat → Value := fun k => zv.cells[k % zv.cells.size]!
    let news : List Value := (List.range ((hi - lo) * ie.size)).map f
    have hzc : (Builtin.zeroCells zv.cells (hi - lo)).toList = news := by
      simp only [Builtin.zeroCells, news, f, Array.toList_map, Array.toList_range, hzsz, hzl]
    have hnl : news.length = (hi - lo) * ie.size := by simp [news]
    have hbound : (E.bd id).off + lo * ie.size + news.length ≤ arr.size := by
      rw [hnl, Nat.add_assoc, ← Nat.add_mul]
      have : (lo + (hi - lo)) * ie.size ≤ (E.bd id).cap * ie.size := Nat.mul_le_mul_right _ (by omega)
      omega
    have hf : ∀ j, j < ie.size → ∀ k, ∃ c y, zs[j]? = some c ∧ zv.cells[j]? = some y ∧ f (k * ie.size + j) = y ∧ ∀ E', CRel E' c y := by
      intro j hj k
      have hjz : j < zs.length := by omega
      obtain ⟨c, hc⟩ : ∃ c, zs[j]? = some c := ⟨zs[j], by simp [hjz]⟩
      obtain ⟨y, hy, _⟩ := hzrel E j c hc
      refine ⟨c, y, hc, hy, ?_, fun E' => ?_⟩
      · have hm : (k * ie.size + j) % zv.cells.size = j := by
          rw [hzsz, hzl, Nat.add_comm, Nat.add_mul_mod_self_right, Nat.mod_eq_of_lt hj]
        show zv.cells[(k * ie.size + j) % zv.cells.size]! = y
        rw [hm, Array.getElem!_eq_getD, Array.getD_eq_getD_getElem?, hy]; rfl
      · obtain ⟨y', hy', hr⟩ := hzrel E' j c hc
        rw [hy] at hy'; cases hy'
        exact hr
    have hone : ∀ v ∈ news, v.oneCell' = true := by
      intro v hv
      simp only [news, List.mem_map, List.mem_range] at hv
      obtain ⟨m, hm, rfl⟩ := hv
      obtain ⟨c, y, _, _, h3, h4⟩ := hf (m % ie.size) (Nat.mod_lt _ hs0) (m / ie.size)
      have hme : m / ie.size * ie.size + m % ie.size = m := by rw [Nat.mul_comm]; exact Nat.div_add_mod m ie.size
      rw [hme] at h3
      rw [h3]
      exact (h4 E).cell
    have hst := RowAt.store (P := P) (o := ((E.bd id).off + lo * ie.size)) news 0 arr E.w g1 (by simpa using hbound) hone
    simp only [Nat.add_zero] at hst
    let arr' : Array Value := (arr.toList.take ((E.bd id).off + lo * ie.size) ++ news ++ arr.toList.drop ((E.bd id).off + lo * ie.size + news.length)).toArray
    have harr' : ∀ k, arr'[k]? = if (E.bd id).off + lo * ie.size ≤ k ∧ k < (E.bd id).off + lo * ie.size + news.length then news[k - ((E.bd id).off + lo * ie.size)]? else arr[k]? := by
      intro k
      have := splice_get arr.toList ((E.bd id).off + lo * ie.size) news (by simpa using hbound) k
      simpa [arr', splice] using this
    have hsize : arr'.size = arr.size := by
      have := splice_len arr.toList ((E.bd id).off + lo * ie.size) news (by simpa using hbound)
      simpa [arr', splice] using this
    have hrun : (Builtin.clear_ #[t] ty #[.slice (some ⟨(E.bd id).blk, (E.bd id).off + lo * ie.size, none⟩) (hi - lo) cap]).run P E.w = .ok (.tuple #[]) (E.w.setRow (E.bd id).blk arr') := by
      obtain ⟨m, hm⟩ : ∃ m, hi - lo = m + 1 := ⟨hi - lo - 1, by omega⟩
      rw [← hzc] at hst
      rw [hm] at hst ⊢
      simp only [Builtin.clear_, List.getElem?_toArray, List.getElem?_cons_zero, Sem.run_bind, run_underlying hu, Result.andThen_ok, hzero]
      rw [hst]
      simp only [arr', ← hzc, hm, Result.andThen_ok, Sem.run_pure]
    have htl : (List.replicate (hi - lo) zs).length = hi - lo := by simp
    have hsl : lo + (List.replicate (hi - lo) zs).length ≤ rows.length := by rw [htl]; omega
    have hsn : ∀ r ∈ List.replicate (hi - lo) zs, r.length = ie.size := fun r hr => by rw [List.eq_of_mem_replicate hr]; exact hzl
    obtain ⟨tr, hh⟩ := upd_obj hE id _ (.cells cur ie.size (splice rows lo (List.replicate (hi - lo) zs))) (E.w.setRow (E.bd id).blk arr') (E.bd id) ho (by simp) rfl rfl rfl
      (fun b hb hne => setRow_other E.w _ b arr' (hne hcz))
      (fun ver' sz' rows' e => by cases e; exact ⟨cur, ie.size, rows, rfl, Nat.le_refl _, fun _ => ⟨rfl, (splice_len _ _ _ hsl).symm, rfl⟩⟩) (fun es' e => by cases e) _ rfl (fun _ => .inl ⟨hcz, rfl⟩)
    refine ⟨_, _, hrun, rfl, hres _, hh ?_, tr⟩
    refine ⟨?_, ?_, ?_, fun _ => ⟨arr', ty0, ?_, ?_, ?_⟩⟩
    · simp only [if_true]; rw [splice_len _ _ _ hsl]; exact g3
    · rw [splice_len _ _ _ hsl]; exact g4
    rotate_left
    · simp only [if_true]; exact g1.setRow (by assumption)
    · simp only [if_true]; rw [hsize]; exact g2
    rotate_left
    · intro r hr
      obtain ⟨k, hk, e⟩ := List.mem_iff_getElem.1 hr
      have h1 : (splice rows lo (List.replicate (hi - lo) zs))[k]? = some r := by rw [List.getElem?_eq_getElem hk, e]
      rw [splice_get _ _ _ hsl] at h1
      split at h1
      · exact hsn r (List.mem_of_getElem? h1)
      · exact g5 r (List.mem_of_getElem? h1)
    · intro i j c hij
      simp only [if_true]
      obtain ⟨r, hr, hj⟩ := at2_some.1 hij
      rw [splice_get _ _ _ hsl] at hr
      split at hr
      · rename_i hi1
        rw [htl] at hi1
        have hrz : r = zs := List.eq_of_mem_replicate (List.mem_of_getElem? hr)
        subst hrz
        have hjs : j < ie.size := by have := (List.getElem?_eq_some_iff.1 hj).1; omega
        obtain ⟨c', y, k1, k2, k3, k4⟩ := hf j hjs (i - lo)
        rw [hj] at k1; cases k1
        have hlt := mul_lt_of (show i - lo < hi - lo by omega) hjs
        refine ⟨f ((i - lo) * ie.size + j), ?_, by rw [k3]; exact k4 _⟩
        have e1 : (E.bd id).off + (i * ie.size + j) = (E.bd id).off + lo * ie.size + ((i - lo) * ie.size + j) := by
          have : i * ie.size = lo * ie.size + (i - lo) * ie.size := by rw [← Nat.add_mul]; congr 1; omega
          omega
        rw [harr', e1, if_pos (by rw [hnl]; omega), Nat.add_sub_cancel_left]
        simp [news, hlt]
      · rename_i hi1
        have hjs : j < ie.size := by have := (List.getElem?_eq_some_iff.1 hj).1; rw [g5 r (List.mem_of_getElem? hr)] at this; exact this
        obtain ⟨v, hv, hrel⟩ := g6 i j c (at2_some.2 ⟨r, hr, hj⟩)
        refine ⟨v, ?_, hrel.trans tr⟩
        rw [harr', if_neg ?_]
        · exact hv
        · rw [htl] at hi1
          rw [hnl]
          rcases Nat.lt_or_ge i lo with h | h
          · have := mul_lt_of h hjs; omega
          · have : lo + (hi - lo) ≤ i := by omega
            have h2 := Nat.mul_le_mul_right ie.size this
            rw [Nat.add_mul] at h2; omega

theorem maskF_get (keep : Bool) (ids : List Nat) : ∀ (H : List O) (i j : Nat), (maskF keep ids i H)[j]? = (H[j]?).map fun o => if ids.contains (i + j) = keep then o else .dead
  | [], i, j => by simp [maskF]
  | o :: r, i, 0 => by simp [maskF]
  | o :: r, i, j + 1 => by simp only [maskF, List.getElem?_cons_succ]; rw [maskF_get keep ids r (i + 1) j, show i + 1 + j = i + (j + 1) by omega]
theorem maskF_len (keep : Bool) (ids : List Nat) : ∀ (H : List O) (i : Nat), (maskF keep ids i H).length = H.length
  | [], _ => rfl
  | _ :: r, i => by simp [maskF, maskF_len keep ids r (i + 1)]
theorem mask_get {keep : Bool} {ids : List Nat} {H : List O} {j : Nat} {o : O} (h : (maskF keep ids 0 H)[j]? = some o) : o = .dead ∨ (H[j]? = some o ∧ ids.contains j = keep) := by
  rw [maskF_get, Option.map_eq_some_iff] at h
  obtain ⟨x, hx, rfl⟩ := h
  rw [Nat.zero_add]
  split
  · rename_i e; exact .inr ⟨hx, e⟩
  · exact .inl rfl
/-- Objects are given up. -/
theorem mask_env {E : Env} (hE : HRel E) (keep : Bool) (ids : List Nat) : Trans E { E with H := maskF keep ids 0 E.H } ∧ HRel { E with H := maskF keep ids 0 E.H } := by
  have lv : ∀ {j : Nat} {x : O}, ({ E with H := maskF keep ids 0 E.H } : Env).live j x → E.live j x := fun {j x} h => (live_bd (E := E) (E' := { E with H := maskF keep ids 0 E.H }) rfl).1 h
  have get : ∀ {j : Nat} {x : O}, (maskF keep ids 0 E.H)[j]? = some x → E.live j x → E.H[j]? = some x := fun {j x} h hl => by
    rcases mask_get h with rfl | h
    · exact hl.elim
    · exact h.1
  have t : Trans E { E with H := maskF keep ids 0 E.H } := by
    refine ⟨rfl, Nat.le_refl _, rfl, rfl, rfl, fun _ _ _ => rfl, ?_, by simp [maskF_len], ?_, ?_⟩
    · rintro b hb ⟨j, x, hx, hl, hbx⟩
      exact ⟨j, x, get hx (lv hl), lv hl, hbx⟩
    · intro j ver sz rows hj hx
      rcases mask_get hx with e | e
      · cases e
      · exact ⟨ver, sz, rows, e.1, Nat.le_refl _, fun _ => ⟨rfl, rfl, rfl⟩⟩
    · intro j es hj hx
      rcases mask_get hx with e | e
      · cases e
      · exact ⟨es, e.1, rfl⟩
  refine ⟨t, ?_, ?_, ?_, hE.frlt, hE.gl t⟩
  · intro j x hx
    rcases mask_get hx with e | e
    · subst e; trivial
    · exact (hE.obj j _ e.1).keep t rfl (fun _ => rfl)
  · intro i j x y hx hy lx ly hij
    exact hE.dist i j x y (get hx (lv lx)) (get hy (lv ly)) (lv lx) (lv ly) hij
  · intro i x hx lx
    exact hE.nofr i x (get hx (lv lx)) (lv lx)


theorem fzP_mem {H : List O} : ∀ {row : List C}, fzP H row → ∀ c ∈ row, fzPc H c
  | [], _, c, hc => by simp at hc
  | a :: r, h, c, hc => by
    rcases List.mem_cons.1 hc with rfl | hc
    · exact h.1
    · exact fzP_mem h.2 c hc
theorem mslIds_mem : ∀ {row : List C} {id ver lo hi : Nat}, .msl id ver lo hi ∈ row → id ∈ mslIds row
  | [], _, _, _, _, hc => by simp at hc
  | a :: r, id, ver, lo, hi, hc => by
    unfold mslIds
    rcases List.mem_cons.1 hc with rfl | hc
    · simp
    · have := mslIds_mem hc
      cases a <;> simp [this]
theorem fz_rel {E E2 : Env} (hE : HRel E) (t : Trans E E2) (hw : E2.w = E.w) {c : C} {v : Value} (h : CRel E c v) (hp : fzPc E.H c)
    (hf : ∀ id ver lo hi cur sz rows, c = .msl id ver lo hi → E.H[id]? = some (.cells cur sz rows) → (E.bd id).cap ≠ 0 → E2.free (E.bd id).blk) : CRel E2 (fzC E.H c) v := by
  cases c with
  | msl id ver lo hi =>
    simp only [fzPc] at hp
    split at hp
    case h_2 => exact hp.elim
    rename_i cur sz rows ho
    subst hp
    simp only [fzC, ho]
    obtain ⟨h1, h2, a, cap, rfl, h3, h4⟩ := msl_inv h ho rfl
    obtain ⟨g3, g4, g5, g7⟩ := hE.obj id _ ho
    have hlen : ((rows.take hi).drop lo).length = hi - lo := by simp; omega
    by_cases hz : hi - lo = 0
    · have hnil : (rows.take hi).drop lo = [] := List.eq_nil_of_length_eq_zero (by omega)
      rw [hnil, hz]
      exact .sl (fun _ _ => undef) 0 rfl (Nat.zero_le _) (Nat.zero_le _) (by simp) (by simp) (by simp [at2])
    have hcz : (E.bd id).cap ≠ 0 := by omega
    obtain ⟨arr, ty, g1, g2, g6⟩ := g7 hcz
    have key : ∀ i j c, at2 ((rows.take hi).drop lo) i j = some c → at2 rows (lo + i) j = some c := by
      intro i j c hij
      obtain ⟨r, hr, hj⟩ := at2_some.1 hij
      rw [List.getElem?_drop, List.getElem?_take] at hr
      split at hr
      · exact at2_some.2 ⟨r, hr, hj⟩
      · simp at hr
    have val : ∀ i j c, at2 ((rows.take hi).drop lo) i j = some c → arr[(E.bd id).off + lo * sz + (i * sz + j)]? = some (arr.getD ((E.bd id).off + lo * sz + (i * sz + j)) undef) ∧ CRel E c (arr.getD ((E.bd id).off + lo * sz + (i * sz + j)) undef) := by
      intro i j c hij
      obtain ⟨y, hy, hr⟩ := g6 _ _ _ (key i j c hij)
      have e : (E.bd id).off + ((lo + i) * sz + j) = (E.bd id).off + lo * sz + (i * sz + j) := by rw [Nat.add_mul]; omega
      rw [e] at hy
      have : arr.getD ((E.bd id).off + lo * sz + (i * sz + j)) undef = y := by simp [Array.getD_eq_getD_getElem?, hy]
      rw [this]
      exact ⟨hy, hr⟩
    refine .sl (fun i j => arr.getD ((E.bd id).off + lo * sz + (i * sz + j)) undef) sz hlen.symm (by omega) (by omega) (fun r hr => g5 r (List.mem_of_mem_take (List.mem_of_mem_drop hr))) (fun hne => ?_) (fun i j c hij => (val i j c hij).2.trans t)
    refine ⟨(E.bd id).blk, (E.bd id).off + lo * sz, by rw [h4 (by omega)], hf _ _ _ _ _ _ _ rfl ho hcz, fun i j c hij => ?_⟩
    rw [hw, g1.cell?]
    exact (val i j c hij).1
  | slf rows => exact (slf_inv h).1.trans t
  | _ => exact h.trans t
theorem Good.via {P : Program} {E E1 : Env} {s : Sem Value} {r : R} {p : Prop} (hw : E1.w = E.w) (t : p → Trans E E1) (h : p → Good P E1 s r) : Good P E s (andR p r) := by
  obtain ⟨q, f, v, hh⟩ := r
  rintro ⟨hp, hq⟩
  obtain ⟨h1, v', E', h2, h3, h4, h5, h6⟩ := h hp hq
  exact ⟨h1, v', E', by rw [← hw]; exact h2, h3, h4, h5, (t hp).trans h6⟩
theorem appendZ_ok {P : Program} {E : Env} (hE : HRel E) {ts : Array TypeId} {ty : TypeId} {sx x : V} {vs vx : Value} (hs : VRel E sx vs) (hx : VRel E x vx) : Good P E (Builtin.append_ ts ty #[vs, vx]) (appendZ P ts sx x E.H) := by
  unfold appendZ
  split
  case h_2 => exact .bad
  rename_i id ver lo hi
  split
  case h_2 => exact .bad
  rename_i cur sz row ho
  obtain ⟨t1, h1⟩ := mask_env hE false (mslIds row)
  have key : (mslIds row).contains id = false ∧ fzP E.H row → Trans E ⟨E.w, E.Fr, fun i => if i = id then E.bd id else E.bd i, (maskF false (mslIds row) 0 E.H).set id (.cells cur sz [row.map (fzC E.H)])⟩ ∧ HRel ⟨E.w, E.Fr, fun i => if i = id then E.bd id else E.bd i, (maskF false (mslIds row) 0 E.H).set id (.cells cur sz [row.map (fzC E.H)])⟩ := by
    rintro ⟨hn, hz⟩
    have ho1 : (maskF false (mslIds row) 0 E.H)[id]? = some (.cells cur sz [row]) := by
      rw [maskF_get, ho, Nat.zero_add]; simp only [Option.map_some, hn, if_true]
    have hlt : id < (maskF false (mslIds row) 0 E.H).length := (List.getElem?_eq_some_iff.1 ho1).1
    obtain ⟨t2, h2⟩ := upd_obj h1 id (.cells cur sz [row]) (.cells cur sz [row.map (fzC E.H)]) E.w (E.bd id) ho1 (Nat.le_refl _) rfl rfl rfl (fun _ _ _ => rfl)
      (fun ver' sz' rows' e => by injection e with e1 e2 e3; subst e1 e2 e3; exact ⟨_, _, _, rfl, Nat.le_refl _, fun _ => ⟨rfl, rfl, rfl⟩⟩) (fun es' e => by cases e)
      ⟨E.w, E.Fr, fun i => if i = id then E.bd id else E.bd i, (maskF false (mslIds row) 0 E.H).set id (.cells cur sz [row.map (fzC E.H)])⟩ rfl (fun hl => .inl ⟨by simpa [Env.live] using hl, rfl⟩)
    refine ⟨t1.trans t2, h2 ?_⟩
    obtain ⟨a1, a2, a3, a4⟩ := hE.obj id _ ho
    refine ⟨by simpa using a1, by simpa using a2, fun r hr => ?_, fun hc => ?_⟩
    · simp only [List.mem_singleton] at hr; subst hr; rw [List.length_map]; exact a3 row (by simp)
    · simp only [if_true] at hc ⊢
      obtain ⟨arr, ty', b1, b2, b3⟩ := a4 hc
      refine ⟨arr, ty', b1, b2, fun i j c hij => ?_⟩
      obtain ⟨r, hr, hj⟩ := at2_some.1 hij
      have hi : i = 0 := by
        have := (List.getElem?_eq_some_iff.1 hr).1
        simp at this; exact this
      subst hi
      simp at hr; subst hr
      rw [List.getElem?_map, Option.map_eq_some_iff] at hj
      obtain ⟨c0, hc0, rfl⟩ := hj
      obtain ⟨y, hy, hyr⟩ := b3 0 j c0 (at2_some.2 ⟨row, rfl, hc0⟩)
      refine ⟨y, hy, fz_rel hE (t1.trans t2) rfl hyr (fzP_mem hz c0 (List.mem_of_getElem? hc0)) ?_⟩
      intro id' ver' lo' hi' cur' sz' rows' e ho' hcap
      subst e
      have hin : id' ∈ mslIds row := mslIds_mem (List.mem_of_getElem? hc0)
      have hne : id' ≠ id := by rintro rfl; simp [List.contains_iff_mem] at hn; exact hn hin
      refine ⟨hE.lt ho' hcap, hE.nofr id' _ ho' hcap, ?_⟩
      rintro ⟨k, o, hk, hl, hb⟩
      simp only at hk hb
      by_cases hki : k = id
      · subst hki
        simp only [if_true] at hb
        rw [List.getElem?_set_self hlt] at hk
        cases hk
        have hl' : E.live k (.cells cur sz [row]) := by simpa [Env.live] using hl
        exact hE.dist k id' _ _ ho ho' hl' hcap (Ne.symm hne) hb
      · rw [List.getElem?_set_ne (Ne.symm hki)] at hk
        simp only [if_neg hki] at hb
        rcases mask_get hk with rfl | ⟨hk, hout⟩
        · exact hl
        · have hl' : E.live k o := by cases o <;> simp [Env.live, hki] at hl ⊢ <;> assumption
          refine hE.dist k id' _ _ hk ho' hl' hcap (fun e => ?_) hb
          subst e
          simp [List.contains_iff_mem] at hout
          exact hout hin
  refine Good.via (E1 := ⟨E.w, E.Fr, fun i => if i = id then E.bd id else E.bd i, (maskF false (mslIds row) 0 E.H).set id (.cells cur sz [row.map (fzC E.H)])⟩) rfl (fun hp => (key hp).1) (fun hp => ?_)
  exact appendF_ok (key hp).2 (hs.trans (key hp).1) (hx.trans (key hp).1)
end Go.Lz

end
section
/- Lz10: the reckoning of each operation is what the model does (literals, the rest), and one law for all of them. -/
namespace Go.Lz
set_option linter.unusedVariables false
set_option linter.unusedSimpArgs false

theorem fill_ok {E : Env} {place : Nat → Option (Nat × Nat)} : ∀ {parts : List (Nat × V)} {vparts : List (Nat × Value)} {zs cs : List C} {va : Array Value},
    parts.length = vparts.length → (∀ (k : Nat) (i : Nat) (x : V), parts[k]? = some (i, x) → ∃ v, vparts[k]? = some (i, v) ∧ VRel E x v) →
    va.size = zs.length → (∀ (j : Nat) (c : C), zs[j]? = some c → ∃ y, va[j]? = some y ∧ CRel E c y) → fillC place zs parts = some cs →
    ∃ out, Instr.fill place va vparts = some out ∧ out.size = cs.length ∧ ∀ (j : Nat) (c : C), cs[j]? = some c → ∃ y, out[j]? = some y ∧ CRel E c y
  | [], vparts, zs, cs, va, hl, hp, hs, hr, h => by
    have : vparts = [] := List.eq_nil_of_length_eq_zero (by simpa using hl.symm)
    subst this
    simp [fillC] at h
    subst h
    exact ⟨va, rfl, hs, hr⟩
  | (i, x) :: rest, vparts, zs, cs, va, hl, hp, hs, hr, h => by
    obtain ⟨v, hv, hx⟩ := hp 0 i x rfl
    cases vparts with
    | nil => simp at hv
    | cons p vrest =>
      simp at hv
      subst hv
      simp only [fillC] at h
      cases hpl : place i with
      | none => simp [hpl] at h
      | some os =>
        obtain ⟨off, size⟩ := os
        cases hxc : x.cs with
        | none => simp [hpl, hxc] at h
        | some c0 =>
          simp only [hpl, hxc] at h
          split at h
          · cases h
          · rename_i hcond
            obtain ⟨q1, q2⟩ := hx.cells hxc
            have hc1 : c0.length = size := Classical.byContradiction fun h => hcond (.inl h)
            have hc2 : off + c0.length ≤ zs.length := Nat.le_of_not_lt fun h => hcond (.inr h)
            have hfold : v.cells.zipIdx.foldl (fun cs (x : Value × Nat) => cs.setIfInBounds (off + x.2) x.1) va = (v.cells.toList.zipIdx 0).foldl (fun cs (x : Value × Nat) => cs.setIfInBounds (off + x.2) x.1) va := by
              rw [← Array.foldl_toList]; simp
            obtain ⟨f1, f2⟩ := Great.foldl_set off v.cells.toList 0 va
            have ih := fill_ok (E := E) (place := place) (parts := rest) (vparts := vrest) (zs := splice zs off c0) (cs := cs)
              (va := v.cells.zipIdx.foldl (fun cs (x : Value × Nat) => cs.setIfInBounds (off + x.2) x.1) va) (by simpa using hl)
              (fun k i x hk => by simpa using hp (k + 1) i x (by simpa using hk)) (by rw [hfold, f1, splice_len _ _ _ hc2, hs])
              (fun j c hj => by
                rw [splice_get _ _ _ hc2] at hj
                rw [hfold, f2]
                simp only [Nat.add_zero, Array.length_toList, q1]
                split at hj
                · rename_i hh
                  rw [if_pos (by omega)]
                  simpa using q2 _ _ hj
                · rename_i hh
                  rw [if_neg (by omega)]
                  exact hr j c hj) h
            obtain ⟨out, o1, o2⟩ := ih
            refine ⟨out, ?_, o2⟩
            simp only [Instr.fill, hpl]
            rw [if_neg (by simp [q1, hc1]; omega)]
            exact o1

theorem tPl_spec {P : Program} {t : TypeId} {pl : Nat → Option (Nat × Nat)} {z : V} {zs : List C} (hpl : tPl P t = some pl) (hz : tZ P t = some z) (hzs : z.cs = some zs) :
    ∃ zv : Value, zv.cells.size = zs.length ∧ (∀ (E : Env) (j : Nat) (c : C), zs[j]? = some c → ∃ y, zv.cells[j]? = some y ∧ CRel E c y) ∧ ∀ parts, P.built t parts = Instr.fill pl zv.cells parts := by
  obtain ⟨i, zv, hi, hzv, h1, h2⟩ := vs_zero (P := P) (E := ⟨default, fun _ => False, fun _ => ⟨0, 0, 0⟩, []⟩) hz hzs
  refine ⟨zv, h1, h2, fun parts => ?_⟩
  unfold tPl at hpl
  unfold Program.built
  split at hpl
  · rename_i n e hu
    split at hpl
    · rename_i ie hie
      cases hpl
      simp [hi, hu, hzv, hie]
    · cases hpl
  · rename_i fs hu
    split at hpl
    · rename_i places hp
      cases hpl
      simp [hi, hu, hzv, hp]
    · cases hpl
  · cases hpl

theorem buildF_ok {P : Program} {E : Env} (hE : HRel E) {t : TypeId} {parts : List (Nat × V)} {vparts : Array (Nat × Value)} (hl : parts.length = vparts.size)
    (hp : ∀ (k : Nat) (i : Nat) (x : V), parts[k]? = some (i, x) → ∃ v, vparts[k]? = some (i, v) ∧ VRel E x v) : Good P E (Instr.build t vparts) (buildF P t parts E.H) := by
  unfold buildF
  split
  · rename_i pl z hpl hz
    split
    · rename_i zs hzs
      split
      · rename_i cs hcs
        obtain ⟨zv, h1, h2, h3⟩ := tPl_spec hpl hz hzs
        obtain ⟨out, o1, o2, o3⟩ := fill_ok (E := E) (vparts := vparts.toList) (va := zv.cells) (by simpa using hl) (fun k i x hk => by simpa using hp k i x hk) h1 (h2 E) hcs
        refine .ok hE ⟨.agg out, run_build E.w t vparts out (by rw [h3]; exact o1), .agg o2 fun j c hj => ?_⟩
        obtain ⟨y, hy, hr⟩ := o3 j c hj
        simp only [Array.getD_eq_getD_getElem?, hy, Option.getD_some]
        exact hr
      · exact .bad
    · exact .bad
  · exact .bad

theorem fillR_ok {E : Env} {s n : Nat} (hs0 : 0 < s) : ∀ {parts : List (Nat × V)} {vparts : List (Nat × Value)} {rows out : List (List C)} {va : Array Value},
    parts.length = vparts.length → (∀ (k : Nat) (i : Nat) (x : V), parts[k]? = some (i, x) → ∃ v, vparts[k]? = some (i, v) ∧ VRel E x v) →
    va.size = n * s → rows.length = n → (∀ r ∈ rows, r.length = s) → (∀ i j c, at2 rows i j = some c → ∃ y, va[i * s + j]? = some y ∧ CRel E c y) → fillR s rows parts = some out →
    ∃ vo, Instr.fill (fun i => some (i * s, s)) va vparts = some vo ∧ vo.size = n * s ∧ out.length = n ∧ (∀ r ∈ out, r.length = s) ∧ ∀ i j c, at2 out i j = some c → ∃ y, vo[i * s + j]? = some y ∧ CRel E c y
  | [], vparts, rows, out, va, hl, hp, hs, hn, hrs, hr, h => by
    have : vparts = [] := List.eq_nil_of_length_eq_zero (by simpa using hl.symm)
    subst this
    simp [fillR] at h
    subst h
    exact ⟨va, rfl, hs, hn, hrs, hr⟩
  | (i, x) :: rest, vparts, rows, out, va, hl, hp, hs, hn, hrs, hr, h => by
    obtain ⟨v, hv, hx⟩ := hp 0 i x rfl
    cases vparts with
    | nil => simp at hv
    | cons p vrest =>
      simp at hv
      subst hv
      simp only [fillR] at h
      cases hxc : x.cs with
      | none => simp [hxc] at h
      | some c0 =>
        simp only [hxc] at h
        split at h
        · cases h
        · rename_i hcond
          obtain ⟨q1, q2⟩ := hx.cells hxc
          have hc1 : c0.length = s := Classical.byContradiction fun h => hcond (.inl h)
          have hc2 : i < rows.length := Nat.lt_of_not_le fun h => hcond (.inr h)
          have hb : i * s + s ≤ n * s := by have := Nat.mul_le_mul_right s (show i + 1 ≤ n by omega); rw [Nat.succ_mul] at this; exact this
          have hfold : v.cells.zipIdx.foldl (fun cs (x : Value × Nat) => cs.setIfInBounds (i * s + x.2) x.1) va = (v.cells.toList.zipIdx 0).foldl (fun cs (x : Value × Nat) => cs.setIfInBounds (i * s + x.2) x.1) va := by
            rw [← Array.foldl_toList]; simp
          obtain ⟨f1, f2⟩ := Great.foldl_set (i * s) v.cells.toList 0 va
          have ih := fillR_ok (E := E) (s := s) (n := n) hs0 (parts := rest) (vparts := vrest) (rows := rows.set i c0) (out := out)
            (va := v.cells.zipIdx.foldl (fun cs (x : Value × Nat) => cs.setIfInBounds (i * s + x.2) x.1) va) (by simpa using hl)
            (fun k i x hk => by simpa using hp (k + 1) i x (by simpa using hk)) (by rw [hfold, f1, hs]) (by simpa using hn)
            (fun r hr => by rcases List.mem_or_eq_of_mem_set hr with h | h; exact hrs r h; rw [h]; exact hc1)
            (fun i' j c hij => by
              obtain ⟨r, hr', hj⟩ := at2_some.1 hij
              rw [List.getElem?_set] at hr'
              rw [hfold, f2]
              simp only [Nat.add_zero, Array.length_toList, q1, hc1]
              split at hr'
              · rename_i e
                subst e
                cases hr'
                have hjs : j < s := by have := (List.getElem?_eq_some_iff.1 hj).1; omega
                rw [if_pos (by omega), Nat.add_sub_cancel_left]
                simpa using q2 j c hj
              · rename_i e
                have hjs : j < s := by have := (List.getElem?_eq_some_iff.1 hj).1; rw [hrs r (List.mem_of_getElem? hr')] at this; exact this
                rw [if_neg ?_]
                · exact hr i' j c (at2_some.2 ⟨r, hr', hj⟩)
                · rcases Nat.lt_or_gt_of_ne e with h | h
                  · have := Nat.mul_le_mul_right s h; rw [Nat.succ_mul] at this; omega
                  · have := Nat.mul_le_mul_right s h; rw [Nat.succ_mul] at this; omega) h
          obtain ⟨vo, o1, o2⟩ := ih
          refine ⟨vo, ?_, o2⟩
          simp only [Instr.fill]
          rw [if_neg (by simp [q1, hc1]; omega)]
          exact o1

theorem buildSliceF_ok {own : Bool} {P : Program} {E : Env} (hE : HRel E) {t : TypeId} {n : Nat} {parts : List (Nat × V)} {vparts : Array (Nat × Value)} (hl : parts.length = vparts.size)
    (hp : ∀ (k : Nat) (i : Nat) (x : V), parts[k]? = some (i, x) → ∃ v, vparts[k]? = some (i, v) ∧ VRel E x v) : Good P E (Instr.buildSlice t n vparts) (buildSliceF P own t n parts E.H) := by
  unfold buildSliceF
  split
  · rename_i e s b ht
    split
    · rename_i z hz
      split
      · rename_i zs hzs
        split
        · rename_i rows hrows
          have main : n * s ≤ 16777216 ∧ 0 < n * s ∧ zs.length = s ∧ n ≤ lim → ∃ (w' : World) (e' : TypeId) (vo : Array Value), (Instr.buildSlice t n vparts).run P E.w = .ok (.slice (some ⟨E.w.heap.size, 0, none⟩) n n) w' ∧ w' = E.w.alloc (.cells vo e') ∧ vo.size = n * s ∧ rows.length = n ∧ (∀ r ∈ rows, r.length = s) ∧ ∀ i j c, at2 rows i j = some c → ∃ y, vo[i * s + j]? = some y ∧ CRel E c y := by
            rintro ⟨g1, g2, g3, g4⟩
            obtain ⟨ie, hu, hie, hs, hb⟩ := tSl_spec ht
            obtain ⟨i, zv, hi, hzv, hzsz, hzrel⟩ := vs_zero (P := P) (E := E) hz hzs
            rw [hie] at hi; cases hi
            have hs0 : 0 < s := Nat.pos_of_ne_zero (fun h => by simp [h] at g2)
            have hrep := repl_rel (E := E) hzsz (hzrel E) n n (Nat.le_refl _)
            rw [g3] at hrep
            obtain ⟨vo, o1, o2, o3, o4, o5⟩ := fillR_ok (E := E) (s := s) (n := n) hs0 (vparts := vparts.toList) (va := madeCells zv.cells (n * s)) (rows := List.replicate n zs) (by simpa using hl)
              (fun k i x hk => by simpa using hp k i x hk) (size_madeCells _ _) (by simp) (fun r hr => by rw [List.eq_of_mem_replicate hr, g3]) hrep hrows
            have hrun := run_buildSlice (P := P) E.w t e n vparts vo ie zv hu hie hzv (by rw [hs]; omega) (by rw [hs]; omega) (by rw [hs]; exact o1)
            exact ⟨_, e, vo, hrun, rfl, o2, o3, o4, o5⟩
          split
          · rename_i hpl
            rintro hpre
            obtain ⟨w', e', vo, hrun, hw, o2, o3, o4, o5⟩ := main hpre
            obtain ⟨g1, g2, g3, g4⟩ := hpre
            obtain ⟨tr, hh⟩ := grow_world hE w' (by rw [hw]; simp) (by rw [hw]; rfl) (by rw [hw]; rfl) (by rw [hw]; rfl) (fun b hb => by rw [hw]; exact heap_alloc_old E.w _ b hb)
            refine ⟨trivial, _, ⟨w', E.Fr, E.bd, E.H⟩, hrun, rfl, ?_, hh, tr⟩
            have hlen : (unfRows rows).length = n := by simp [unfRows, o3]
            have key : ∀ i j c, at2 (unfRows rows) i j = some c → ∃ c0, at2 rows i j = some c0 ∧ c = c0.unf := by
              intro i j c hij
              obtain ⟨r, hr, hj⟩ := at2_some.1 hij
              simp only [unfRows, List.getElem?_map, Option.map_eq_some_iff] at hr
              obtain ⟨r0, hr0, rfl⟩ := hr
              simp only [List.getElem?_map, Option.map_eq_some_iff] at hj
              obtain ⟨c0, hc0, rfl⟩ := hj
              exact ⟨c0, at2_some.2 ⟨r0, hr0, hc0⟩, rfl⟩
            have fnx : ∀ i j, ∃ y, ∀ c, at2 (unfRows rows) i j = some c → vo[i * s + j]? = some y ∧ CRel ⟨w', E.Fr, E.bd, E.H⟩ c y := by
              intro i j
              cases hc : at2 (unfRows rows) i j with
              | none => exact ⟨undef, by simp⟩
              | some c =>
                obtain ⟨c0, hc0, rfl⟩ := key i j c hc
                obtain ⟨y, hy, hr⟩ := o5 _ _ _ hc0
                have hr2 := hr.trans tr
                refine ⟨y, fun c' e => ?_⟩
                cases e
                refine ⟨hy, ?_⟩
                cases c0 with
                | slf rs => exact (slf_inv hr2).1
                | _ => exact hr2
            refine .one (.slf (.sl (fun i j => Classical.choose (fnx i j)) s hlen.symm (by omega) (by omega) ?_ (fun _ => ⟨E.w.heap.size, 0, rfl, ⟨by rw [hw]; simp, fun hf => ?_, fun ho => ?_⟩, fun i j c hij => ?_⟩) (fun i j c hij => (Classical.choose_spec (fnx i j) c hij).2)) ⟨_, by rw [hlen]⟩)
            · intro r hr
              obtain ⟨r0, hr0, rfl⟩ := List.mem_map.1 hr
              rw [List.length_map]; exact o4 r0 hr0
            · have := hE.frlt _ hf; omega
            · have h1 : E.own E.w.heap.size := by
                obtain ⟨i, y, q1, q2, q3⟩ := ho
                exact ⟨i, y, q1, (live_bd (E := E) (E' := ⟨w', E.Fr, E.bd, E.H⟩) rfl).1 q2, q3⟩
              have := hE.own_lt h1; omega
            · have hcell : ∀ y, vo[i * s + j]? = some y → w'.cell? ⟨E.w.heap.size, 0 + (i * s + j), none⟩ = some y := by
                intro y hy
                rw [hw]
                simp only [World.cell?, heap_alloc_new E.w]
                simpa using hy
              exact hcell _ (Classical.choose_spec (fnx i j) c hij).1
          rintro ⟨g1, g2, g3, g4⟩
          refine ⟨trivial, ?_⟩
          obtain ⟨ie, hu, hie, hs, hb⟩ := tSl_spec ht
          obtain ⟨i, zv, hi, hzv, hzsz, hzrel⟩ := vs_zero (P := P) (E := E) hz hzs
          rw [hie] at hi; cases hi
          have hs0 : 0 < s := Nat.pos_of_ne_zero (fun h => by simp [h] at g2)
          have hrep := repl_rel (E := E) hzsz (hzrel E) n n (Nat.le_refl _)
          rw [g3] at hrep
          obtain ⟨vo, o1, o2, o3, o4, o5⟩ := fillR_ok (E := E) (s := s) (n := n) hs0 (vparts := vparts.toList) (va := madeCells zv.cells (n * s)) (rows := List.replicate n zs) (by simpa using hl)
            (fun k i x hk => by simpa using hp k i x hk) (size_madeCells _ _) (by simp) (fun r hr => by rw [List.eq_of_mem_replicate hr, g3]) hrep hrows
          have hrun := run_buildSlice (P := P) E.w t e n vparts vo ie zv hu hie hzv (by rw [hs]; omega) (by rw [hs]; omega) (by rw [hs]; exact o1)
          obtain ⟨E', hw, hH, hv, hh, tr⟩ := new_rows hE (w1 := E.w) rfl rfl rfl rfl (fun _ _ => rfl) (arr := vo) (ty := e) (s := s) (n := n) (cap := n) (rows := rows) o3 (Nat.le_refl _) (by omega) g4 o4 o5
          exact ⟨_, E', by rw [hw]; exact hrun, hH, hv, hh, tr⟩
        · exact .bad
      · exact .bad
    · exact .bad
  · exact .bad

theorem pickF_ok {P : Program} {E : Env} (hE : HRel E) {c x y : V} {vc vx vy : Value} (hc : VRel E c vc) (hx : VRel E x vx) (hy : VRel E y vy) :
    Good P E (do pure (if ← asBool vc then vx else vy)) (pickF c x y E.H) := by
  unfold pickF
  split
  · have h1 := bool_inv (one_inv hc); have h2 := bool_inv (one_inv hx); have h3 := bool_inv (one_inv hy)
    subst h1; subst h2; subst h3
    rename_i c x y
    refine .ok hE ⟨_, by simp [asBool]; rfl, ?_⟩
    cases c <;> exact .one .bool
  · have h1 := bool_inv (one_inv hc); subst h1
    exact .ok hE ⟨vx, by simp [asBool], hx⟩
  · have h1 := bool_inv (one_inv hc); subst h1
    exact .ok hE ⟨vy, by simp [asBool], hy⟩
  · exact .bad

theorem onesOf_ok {E : Env} : ∀ {xs : List V} {vs : List Value} {cs : List C}, xs.length = vs.length → (∀ (j : Nat) (x : V), xs[j]? = some x → ∃ v, vs[j]? = some v ∧ VRel E x v) → onesOf xs = some cs →
    vs.length = cs.length ∧ ∀ (j : Nat) (c : C), cs[j]? = some c → ∃ v, vs[j]? = some v ∧ CRel E c v
  | [], vs, cs, hl, h, ho => by simp [onesOf] at ho; subst ho; simp at hl; simp [hl.symm]
  | x :: xs, vs, cs, hl, h, ho => by
    obtain ⟨v, hv, hx⟩ := h 0 x rfl
    cases vs with
    | nil => simp at hl
    | cons v0 vs =>
      simp at hv; subst hv
      cases x with
      | one c =>
        simp only [onesOf] at ho
        split at ho
        · rename_i cs' hcs
          cases ho
          obtain ⟨h1, h2⟩ := onesOf_ok (E := E) (xs := xs) (vs := vs) (by simpa using hl) (fun j x hj => by simpa using h (j + 1) x (by simpa using hj)) hcs
          refine ⟨by simp [h1], fun j c' hj => ?_⟩
          cases j with
          | zero => simp at hj; subst hj; exact ⟨v0, rfl, one_inv hx⟩
          | succ j => simpa using h2 j c' (by simpa using hj)
        · cases ho
      | agg cs => simp [onesOf] at ho
      | tup vs => simp [onesOf] at ho
      | un => simp [onesOf] at ho

theorem makeFuncF_ok {P : Program} {E : Env} (hE : HRel E) {f : FuncId} {xs : List V} {vs : Array Value} {cs : List C} (hl : xs.length = vs.size) (h : ∀ (j : Nat) (x : V), xs[j]? = some x → ∃ v, vs[j]? = some v ∧ VRel E x v) (ho : onesOf xs = some cs) :
    Good P E (Instr.makeFunc (.func f) #[] vs) (.ok (.one (.fn f cs)) E.H) := by
  obtain ⟨h1, h2⟩ := onesOf_ok (E := E) (vs := vs.toList) (by simpa using hl) (fun j x hj => by simpa using h j x hj) ho
  refine .ok hE ⟨_, rfl, .one (.fn (by simpa using h1) fun j c hj => ?_)⟩
  obtain ⟨v, hv, hr⟩ := h2 j c hj
  have : vs[j]? = some v := by simpa using hv
  simp only [Array.getD_eq_getD_getElem?, this, Option.getD_some]
  exact hr

theorem tAg_con {P : Program} {t : TypeId} {n : Nat} (h : tAg P t = some (true, n)) : (∃ fs, P.underlying t = some (.struct fs)) ∨ ∃ k e, P.underlying t = some (.array k e) := by
  unfold tAg at h
  split at h
  · rename_i fs i hu hi; exact .inl ⟨fs, hu⟩
  · rename_i k e i hu hi; exact .inr ⟨k, e, hu⟩
  · simp at h
  · cases h
theorem makeIfF_ok {P : Program} {E : Env} (hE : HRel E) {t : TypeId} {x : V} {v : Value} (hx : VRel E x v) : Good P E (Instr.makeInterface t v) (makeIfF P t x E.H) := by
  unfold makeIfF
  split
  · rename_i n cs ht
    cases hx with
    | agg hn hv =>
      refine .ok hE ⟨_, ?_, .one (.ifc hn hv)⟩
      rcases tAg_con ht with ⟨fs, hu⟩ | ⟨k, e, hu⟩ <;> simp [Instr.makeInterface, run_underlying hu]
  · exact fun hp => hp.elim
theorem noIfF_ok {P : Program} {E : Env} (hE : HRel E) {a : TypeId} {ok : Bool} {s : Sem Value} (h : ok = true → s.run P E.w = (do pure (.tuple #[← zeroValue a, .bool false]) : Sem Value).run P E.w) : Good P E s (noIfF P a ok E.H) := by
  unfold noIfF
  split
  · rename_i z hz
    obtain ⟨iz, zv, hi1, hzv, rfl⟩ := tZ_spec hz
    refine .ok hE ⟨.tuple #[zv, .bool false], ?_, .tup (by simp) fun j x hj => ?_⟩
    · rw [h rfl]
      simp only [zeroValue, typeInfo, Sem.run_bind, run_program, Result.andThen_ok, hi1, Sem.run_pure, hzv]
    · match j with
      | 0 => simp at hj; subst hj; exact V.ofV_rel E zv
      | 1 => simp at hj; subst hj; exact .one .bool
      | j + 2 => simp at hj
  · exact fun hp => hp.elim
theorem isIfF_ok {P : Program} {E : Env} (hE : HRel E) {ok : Bool} {cs : List C} {vs : Array Value} {s : Sem Value} (hn : vs.size = cs.length) (hv : ∀ j c, cs[j]? = some c → CRel E c (vs.getD j undef)) (h : s.run P E.w = .ok (if ok then .tuple #[.agg vs, .bool true] else .agg vs) E.w) : Good P E s (isIfF ok cs E.H) := by
  unfold isIfF
  refine .ok hE ⟨_, h, ?_⟩
  cases ok with
  | true =>
    refine .tup (by simp) fun j x hj => ?_
    match j with
    | 0 => simp at hj; subst hj; exact .agg hn hv
    | 1 => simp at hj; subst hj; exact .one .bool
    | j + 2 => simp at hj
  | false => exact .agg hn hv
theorem typeAssertF_ok {P : Program} {E : Env} (hE : HRel E) {xt a : TypeId} {ok : Bool} {x : V} {v : Value} (hx : VRel E x v) : Good P E (Instr.typeAssert v xt a ok) (typeAssertF P x a ok E.H) := by
  unfold typeAssertF
  split
  · rename_i n t cs ha
    cases one_inv hx with
    | ifc hn hv =>
      by_cases e : t = a
      · rw [if_pos e]
        refine isIfF_ok hE hn hv ?_
        rcases tAg_con ha with ⟨fs, hu⟩ | ⟨k, el, hu⟩ <;> simp [Instr.typeAssert, run_underlying hu, e]
      · rw [if_neg e]
        refine noIfF_ok hE fun ho => ?_
        rcases tAg_con ha with ⟨fs, hu⟩ | ⟨k, el, hu⟩ <;> simp [Instr.typeAssert, run_underlying hu, e, ho]
  · rename_i n ha
    cases one_inv hx
    refine noIfF_ok hE fun ho => ?_
    rcases tAg_con ha with ⟨fs, hu⟩ | ⟨k, el, hu⟩ <;> simp [Instr.typeAssert, run_underlying hu, ho]
  · exact fun hp => hp.elim

theorem makeMapF_ok {P : Program} {E : Env} (hE : HRel E) {t : TypeId} : Good P E (Instr.makeMap t none) (.ok (.one (.mp E.H.length)) (E.H ++ [.map []])) := by
  intro _
  refine ⟨trivial, ?_⟩
  obtain ⟨tr, hh⟩ := new_obj hE (E.w.alloc (.map #[] 0)) ⟨E.w.heap.size, 0, 0⟩ (.map []) (by simp) rfl rfl rfl (fun b hb => heap_alloc_old E.w _ b hb) _ rfl (fun _ => by simp)
  refine ⟨.map (some E.w.heap.size), _, by simp [Instr.makeMap], rfl, ?_, hh ?_, tr⟩
  · refine .one (.mp (by simp) rfl fun es ho => ?_)
    simp
  · refine ⟨#[], 0, ?_, rfl, by simp⟩
    simp only [if_true]; exact heap_alloc_new E.w _

theorem extractF_ok {P : Program} {E : Env} (hE : HRel E) {xs : List V} {v : Value} {i : Nat} {x : V} (hx : VRel E (.tup xs) v) (hi : xs[i]? = some x) : Good P E (Instr.extract v i) (.ok x E.H) := by
  cases hx with
  | @tup _ vs hn h =>
    have hlt : i < vs.size := by have := (List.getElem?_eq_some_iff.1 hi).1; omega
    refine .ok hE ⟨vs[i], by simp [Instr.extract, hlt], ?_⟩
    simpa [Array.getD_eq_getD_getElem?, hlt] using h i x hi

theorem max_in {k : IntKind} {a b : Int} (ha : k.min ≤ a ∧ a ≤ k.max) (hb : k.min ≤ b ∧ b ≤ k.max) (c : Prop) [Decidable c] : k.min ≤ (if c then b else a) ∧ (if c then b else a) ≤ k.max := by
  split <;> assumption

theorem biF_ok {P : Program} {E : Env} (hE : HRel E) {b : Builtin} {ts : Array TypeId} {ty : TypeId} {xs : List V} {vs : Array Value} {consts : Array Bool} (hl : xs.length = vs.size) (h : ∀ (j : Nat) (x : V), xs[j]? = some x → ∃ v, vs[j]? = some v ∧ VRel E x v)
    (hp : (biF P b ts xs E.H).pre) : ∃ s : Sem Value, Good P E s (biF P b ts xs E.H) ∧ builtin b ts ty consts vs = (do pure (.value (← s))) := by
  unfold biF at hp ⊢
  split at hp
  · rename_i x
    obtain ⟨v, hv, hx⟩ := h 0 x rfl
    have : vs = #[v] := by apply Array.ext'; cases vs with | mk l => cases l with | nil => simp at hl | cons a r => simp at hl hv; simp [hl, hv]
    subst this
    split at hp
    · rename_i t ht
      exact ⟨_, lenF_ok hE hx ty ts ht, rfl⟩
    · exact hp.elim
  · rename_i x y
    obtain ⟨v, hv, hx⟩ := h 0 x rfl
    obtain ⟨u, hu, hy⟩ := h 1 y rfl
    have : vs = #[v, u] := by
      apply Array.ext'; cases vs with | mk l => cases l with | nil => simp at hl | cons a r => cases r with | nil => simp at hl | cons a' r' => simp at hl hv hu; simp [hl, hv, hu]
    subst this
    exact ⟨_, appendF_ok hE hx hy, rfl⟩
  · rename_i x y
    obtain ⟨v, hv, hx⟩ := h 0 x rfl
    obtain ⟨u, hu, hy⟩ := h 1 y rfl
    have : vs = #[v, u] := by
      apply Array.ext'; cases vs with | mk l => cases l with | nil => simp at hl | cons a r => cases r with | nil => simp at hl | cons a' r' => simp at hl hv hu; simp [hl, hv, hu]
    subst this
    exact ⟨_, copyF_ok hE hx hy, rfl⟩
  · rename_i x
    obtain ⟨v, hv, hx⟩ := h 0 x rfl
    have : vs = #[v] := by apply Array.ext'; cases vs with | mk l => cases l with | nil => simp at hl | cons a r => simp at hl hv; simp [hl, hv]
    subst this
    exact ⟨_, clearF_ok hE hx, rfl⟩
  · rename_i k a k' b
    obtain ⟨v, hv, hx⟩ := h 0 _ rfl
    obtain ⟨u, hu, hy⟩ := h 1 _ rfl
    have : vs = #[v, u] := by
      apply Array.ext'; cases vs with | mk l => cases l with | nil => simp at hl | cons a r => cases r with | nil => simp at hl | cons a' r' => simp at hl hv hu; simp [hl, hv, hu]
    subst this
    obtain ⟨rfl, h1⟩ := int_inv (one_inv hx)
    obtain ⟨rfl, h2⟩ := int_inv (one_inv hy)
    split at hp
    · rename_i e
      subst e
      exact ⟨Builtin.max_ ts ty #[.int k a, .int k b], by rw [if_pos rfl]; exact .ok hE ⟨_, run_max_int2 E.w ts ty k k a b, .one (.int (max_in h1 h2 _))⟩, rfl⟩
    · exact hp.elim
  · rename_i k a k' b
    obtain ⟨v, hv, hx⟩ := h 0 _ rfl
    obtain ⟨u, hu, hy⟩ := h 1 _ rfl
    have : vs = #[v, u] := by
      apply Array.ext'; cases vs with | mk l => cases l with | nil => simp at hl | cons a r => cases r with | nil => simp at hl | cons a' r' => simp at hl hv hu; simp [hl, hv, hu]
    subst this
    obtain ⟨rfl, h1⟩ := int_inv (one_inv hx)
    obtain ⟨rfl, h2⟩ := int_inv (one_inv hy)
    split at hp
    · rename_i e
      subst e
      exact ⟨Builtin.min_ ts ty #[.int k a, .int k b], by rw [if_pos rfl]; exact .ok hE ⟨_, run_min_int2 E.w ts ty k k a b, .one (.int (max_in h1 h2 _))⟩, rfl⟩
    · exact hp.elim
  · exact hp.elim

theorem biZ_ok {P : Program} {E : Env} (hE : HRel E) {z : Bool} {b : Builtin} {ts : Array TypeId} {ty : TypeId} {xs : List V} {vs : Array Value} {consts : Array Bool} (hl : xs.length = vs.size) (h : ∀ (j : Nat) (x : V), xs[j]? = some x → ∃ v, vs[j]? = some v ∧ VRel E x v)
    (hp : (biZ P z b ts xs E.H).pre) : ∃ s : Sem Value, Good P E s (biZ P z b ts xs E.H) ∧ builtin b ts ty consts vs = (do pure (.value (← s))) := by
  unfold biZ at hp ⊢
  cases z with
  | false => exact biF_ok hE hl h hp
  | true =>
    simp only at hp ⊢
    split at hp
    · rename_i x y
      obtain ⟨v, hv, hx⟩ := h 0 x rfl
      obtain ⟨u, hu, hy⟩ := h 1 y rfl
      have : vs = #[v, u] := by
        apply Array.ext'; cases vs with | mk l => cases l with | nil => simp at hl | cons a r => cases r with | nil => simp at hl | cons a' r' => simp at hl hv hu; simp [hl, hv, hu]
      subst this
      exact ⟨_, appendZ_ok hE hx hy, rfl⟩
    · exact hp.elim

/-! ### Maps. -/
open Go.MapKept (IsKey run_checkKey run_findKey heap_set bytes_beq)
def kdD : Option IntKind → TypeDesc
  | none => .string
  | some q => .int q
theorem tMp_spec {P : Program} {t k e : TypeId} {kd : Option IntKind} (h : tMp P t = some (k, kd, e)) :
    P.underlying t = some (.map k e) ∧ P.underlying k = some (kdD kd) := by
  unfold tMp at h
  split at h
  · rename_i hu
    split at h
    · rename_i hk; cases h; exact ⟨hu, hk⟩
    · rename_i hk; cases h; exact ⟨hu, hk⟩
    · cases h
  · cases h
theorem key_now {E : Env} {kd : Option IntKind} {a b : C} {va vb : Value} (ha : CRel E a va) (hb : CRel E b vb) (hk : keyB kd a = true) {r : Bool} (h : keyEq a b = some r) :
    Instr.sameNow (kdD kd) va vb = some r := by
  cases a <;> cases b <;> simp only [keyEq] at h <;> try (cases h; done)
  · obtain ⟨rfl, _⟩ := int_inv ha
    obtain ⟨rfl, _⟩ := int_inv hb
    cases kd with
    | none => simp [keyB] at hk
    | some q =>
      split at h
      · rename_i e; subst e; cases h; simp only [kdD, Instr.sameNow, if_true, Option.some.injEq]; exact beq_dec (α := Int) _ _
      · cases h
  · obtain ⟨x, rfl, h1, _⟩ := str_inv ha
    obtain ⟨y, rfl, h2, _⟩ := str_inv hb
    cases kd with
    | some q => simp [keyB] at hk
    | none =>
      cases h
      simp only [kdD, Instr.sameNow, Option.some.injEq]
      subst h1; subst h2
      rw [Bool.eq_iff_iff, decide_eq_true_eq, bytes_beq]
      constructor
      · intro hh; rw [hh]
      · intro hh
        cases x with | mk x => cases y with | mk y =>
        have : x = y := by simpa using hh
        rw [this]
theorem same_bits {E : Env} {kd : Option IntKind} {a b : C} {va vb : Value} (ha : CRel E a va) (hb : CRel E b vb) (h : keyEq a b = some true) : Instr.sameBits 10000 vb va = true := by
  cases a <;> cases b <;> simp only [keyEq] at h <;> try (cases h; done)
  · obtain ⟨rfl, _⟩ := int_inv ha
    obtain ⟨rfl, _⟩ := int_inv hb
    split at h
    · rename_i e; subst e
      simp at h; subst h
      simp [Instr.sameBits]
    · cases h
  · obtain ⟨x, rfl, h1, _⟩ := str_inv ha
    obtain ⟨y, rfl, h2, _⟩ := str_inv hb
    simp at h
    have : x = y := by
      cases x with | mk x => cases y with | mk y =>
      have : x = y := by subst h1; subst h2; simpa using h
      rw [this]
    subst this
    exact (bytes_beq x x).2 rfl
theorem mfind_now {E : Env} {kd : Option IntKind} {a : C} {va : Value} (ha : CRel E a va) (hk : keyB kd a = true) : ∀ {es : List (C × C)} {l : List MapEntry} (i : Nat) {r : Option C}, l.length = es.length →
    (∀ (j : Nat) (k x : C), es[j]? = some (k, x) → ∃ e : MapEntry, l[j]? = some e ∧ CRel E k e.key ∧ CRel E x e.val) → mfind a es = some r →
    (r = none ∧ Instr.findNow (kdD kd) va l i = some none) ∨
    (∃ x v j, r = some x ∧ CRel E x v ∧ Instr.findNow (kdD kd) va l i = some (some (i + j, v)))
  | [], l, i, r, hl, he, h => by
    have : l = [] := List.eq_nil_of_length_eq_zero hl
    subst this
    simp [mfind] at h; subst h
    exact .inl ⟨rfl, rfl⟩
  | (k', v') :: es, l, i, r, hl, he, h => by
    obtain ⟨e, he0, h1, h2⟩ := he 0 k' v' rfl
    cases l with
    | nil => simp at he0
    | cons e0 l =>
      simp at he0; subst he0
      simp only [mfind] at h
      cases hq : keyEq a k' with
      | none => simp [hq] at h
      | some q =>
        have hn := key_now ha h1 hk hq
        cases q with
        | true =>
          simp [hq] at h; subst h
          exact .inr ⟨v', e0.val, 0, rfl, h2, by simp [Instr.findNow, hn]⟩
        | false =>
          simp only [hq] at h
          rcases mfind_now ha hk (i + 1) (es := es) (l := l) (by simpa using hl) (fun j k x hj => by simpa using he (j + 1) k x (by simpa using hj)) h with ⟨h3, h4⟩ | ⟨x, v, j, h3, h4, h5⟩
          · exact .inl ⟨h3, by simp [Instr.findNow, hn, h4]⟩
          · exact .inr ⟨x, v, j + 1, h3, h4, by simp [Instr.findNow, hn, h5]; omega⟩
theorem mput_now {E : Env} {kd : Option IntKind} {a b : C} {va vb : Value} (ha : CRel E a va) (hb : CRel E b vb) (hk : keyB kd a = true) : ∀ {es es' : List (C × C)} {l : List MapEntry} (i : Nat), l.length = es.length →
    (∀ (j : Nat) (k x : C), es[j]? = some (k, x) → ∃ e : MapEntry, l[j]? = some e ∧ CRel E k e.key ∧ CRel E x e.val) → mput a b es = some es' →
    (Instr.findNow (kdD kd) va l i = some none ∧ es' = es ++ [(a, b)]) ∨
    (∃ j e k', Instr.findNow (kdD kd) va l i = some (some (i + j, e.val)) ∧ l[j]? = some e ∧ CRel E k' e.key ∧ keyEq a k' = some true ∧ es' = es.set j (a, b) ∧ j < es.length)
  | [], es', l, i, hl, he, h => by
    have : l = [] := List.eq_nil_of_length_eq_zero hl
    subst this
    simp [mput] at h; subst h
    exact .inl ⟨rfl, rfl⟩
  | (k', v') :: es, es', l, i, hl, he, h => by
    obtain ⟨e, he0, h1, h2⟩ := he 0 k' v' rfl
    cases l with
    | nil => simp at he0
    | cons e0 l =>
      simp at he0; subst he0
      simp only [mput] at h
      cases hq : keyEq a k' with
      | none => simp [hq] at h
      | some q =>
        have hn := key_now ha h1 hk hq
        cases q with
        | true =>
          simp [hq] at h; subst h
          exact .inr ⟨0, e0, k', by simp [Instr.findNow, hn], rfl, h1, hq, by simp, by simp⟩
        | false =>
          simp only [hq] at h
          cases hm : mput a b es with
          | none => simp [hm] at h
          | some l2 =>
            simp [hm] at h; subst h
            rcases mput_now ha hb hk (i + 1) (es := es) (l := l) (by simpa using hl) (fun j k x hj => by simpa using he (j + 1) k x (by simpa using hj)) hm with ⟨h3, h4⟩ | ⟨j, e, k2, h3, h4, h5, h6, h7, h8⟩
            · exact .inl ⟨by simp [Instr.findNow, hn, h3], by simp [h4]⟩
            · exact .inr ⟨j + 1, e, k2, by simp [Instr.findNow, hn, h3]; omega, by simpa using h4, h5, h6, by simp [h7], by simp; omega⟩
theorem key_is {E : Env} {kd : Option IntKind} {a : C} {va : Value} (ha : CRel E a va) (hk : keyB kd a = true) : IsKey (kdD kd) va := by
  cases a <;> simp only [keyB] at hk <;> try (cases hk; done)
  · obtain ⟨rfl, _⟩ := int_inv ha
    cases kd with
    | none => cases hk
    | some q => simp at hk; simp [kdD, IsKey, hk]
  · obtain ⟨x, rfl, h1, _⟩ := str_inv ha
    cases kd with
    | some q => cases hk
    | none => simp [kdD, IsKey]

theorem lookupF_ok {P : Program} {E : Env} (hE : HRel E) {t : TypeId} {m k : V} {vm vk : Value} {ok : Bool} (hm : VRel E m vm) (hk : VRel E k vk) : Good P E (Instr.lookup t vm vk ok) (lookupF P t m k ok E.H) := by
  unfold lookupF lookR
  split
  case h_2 => exact .bad
  rename_i kt kd e id kc ht
  split
  case h_2 => exact .bad
  rename_i es z ho hz hkb
  obtain ⟨hu, hku⟩ := tMp_spec ht
  obtain ⟨iz, zv, hiz, hzv, hzz⟩ := tZ_spec hz
  have hmv : vm = .map (some (E.bd id).blk) := by
    cases one_inv hm with
    | mp hid hc h => exact h es ho
  subst hmv
  obtain ⟨ents, clock, hb, hsz, hent⟩ := hE.obj id _ ho
  have hkr := one_inv hk
  have hzrel : VRel E (.one z) zv := by rw [hzz]; exact V.ofV_rel E zv
  have hzero : (zeroValue e).run P E.w = .ok zv E.w := by simp [zeroValue, typeInfo, hiz, hzv]
  have hchk := run_checkKey (P := P) (w := E.w) hku (key_is hkr hkb) ents.isEmpty 9999
  split
  · rename_i v hf
    rcases mfind_now hkr hkb (l := ents.toList) 0 (by simpa using hsz) (fun j k x hj => by simpa using hent j k x hj) hf with ⟨h1, _⟩ | ⟨x, v', j, h1, h2, h3⟩
    · cases h1
    · cases h1
      have hfk := run_findKey (P := P) (w := E.w) hku h3
      split
      · exact .ok hE ⟨.tuple #[v', .bool true], by simp [Instr.lookup, run_underlying hu, Go.MapKept.run_getObj_map hb, hchk, hfk], .tup rfl (fun j x hj => by
          match j, hj with
          | 0, hj => simp at hj; subst hj; exact .one h2
          | 1, hj => simp at hj; subst hj; exact .one .bool)⟩
      · exact .ok hE ⟨v', by simp [Instr.lookup, run_underlying hu, Go.MapKept.run_getObj_map hb, hchk, hfk], .one h2⟩
  · rename_i hf
    rcases mfind_now hkr hkb (l := ents.toList) 0 (by simpa using hsz) (fun j k x hj => by simpa using hent j k x hj) hf with ⟨_, h2⟩ | ⟨x, v', j, h1, h2, h3⟩
    · have hfk := run_findKey (P := P) (w := E.w) hku h2
      split
      · exact .ok hE ⟨.tuple #[zv, .bool false], by simp [Instr.lookup, run_underlying hu, Go.MapKept.run_getObj_map hb, hchk, hfk, hzero], .tup rfl (fun j x hj => by
          match j, hj with
          | 0, hj => simp at hj; subst hj; exact hzrel
          | 1, hj => simp at hj; subst hj; exact .one .bool)⟩
      · exact .ok hE ⟨zv, by simp [Instr.lookup, run_underlying hu, Go.MapKept.run_getObj_map hb, hchk, hfk, hzero], hzrel⟩
    · cases h1
  · exact .bad

theorem mapPutF_ok {P : Program} {E : Env} (hE : HRel E) {t : TypeId} {m k v : V} {vm vk vv : Value} (hm : VRel E m vm) (hk : VRel E k vk) (hv : VRel E v vv) : GoodU P E (Instr.mapUpdate t vm vk vv) (mapPutF P t m k v E.H) := by
  unfold mapPutF
  split
  case h_2 => exact .bad
  rename_i kt kd e id kc vc ht
  split
  case h_2 => exact .bad
  rename_i es ho hkb
  split
  case h_2 => exact .bad
  rename_i es' hput
  rintro -
  refine ⟨trivial, rfl, ?_⟩
  obtain ⟨hu, hku⟩ := tMp_spec ht
  have hmv : vm = .map (some (E.bd id).blk) := by
    cases one_inv hm with
    | mp hid hc h => exact h es ho
  subst hmv
  obtain ⟨ents, clock, hb, hsz, hent⟩ := hE.obj id _ ho
  have hkr := one_inv hk
  have hvr := one_inv hv
  have hchk := run_checkKey (P := P) (w := E.w) hku (key_is hkr hkb) false 9999
  have hlive : E.live id (.map es) := trivial
  -- what becomes of the object
  have fin : ∀ (ents' : Array MapEntry) (clock' : Nat), ents'.size = es'.length →
      (∀ (E' : Env), Trans E E' → ∀ (i : Nat) (k x : C), es'[i]? = some (k, x) → ∃ e : MapEntry, ents'[i]? = some e ∧ CRel E' k e.key ∧ CRel E' x e.val) →
      (Instr.mapUpdate t (.map (some (E.bd id).blk)) vk vv).run P E.w = .ok () { E.w with heap := E.w.heap.setIfInBounds (E.bd id).blk (.map ents' clock') } →
      ∃ E', (Instr.mapUpdate t (.map (some (E.bd id).blk)) vk vv).run P E.w = .ok () E'.w ∧ E'.H = E.H.set id (.map es') ∧ HRel E' ∧ Trans E E' := by
    intro ents' clock' h1 h2 h3
    obtain ⟨g1, g2⟩ := heap_set (o' := .map ents' clock') hb
    obtain ⟨tr, hh⟩ := upd_obj hE id (.map es) (.map es') { E.w with heap := E.w.heap.setIfInBounds (E.bd id).blk (.map ents' clock') } (E.bd id) ho (by simp) rfl rfl rfl
      (fun b _ hne => g2 b (hne hlive)) (fun _ _ _ e => by cases e) (fun es2 e => ⟨es, rfl, rfl⟩) _ rfl (fun _ => .inl ⟨hlive, rfl⟩)
    refine ⟨_, h3, rfl, hh ?_, tr⟩
    refine ⟨ents', clock', ?_, h1, fun i k x hi => h2 _ tr i k x hi⟩
    simp only [if_true]; exact g1
  rcases mput_now hkr hvr hkb (l := ents.toList) 0 (by simpa using hsz) (fun j k x hj => by simpa using hent j k x hj) hput with ⟨h1, h2⟩ | ⟨j, e0, k2, h1, h2, h3, h4, h5, h6⟩
  · have hfk := run_findKey (P := P) (w := E.w) hku h1
    refine fin (ents.push { key := vk, val := vv, born := clock }) (clock + 1) (by simp [h2, hsz]) (fun E' tr i k x hi => ?_) ?_
    · rw [h2] at hi
      rw [List.getElem?_append] at hi
      split at hi
      · rename_i hlt
        obtain ⟨e1, q1, q2, q3⟩ := hent i k x hi
        exact ⟨e1, by rw [Array.getElem?_push, if_neg (by omega)]; exact q1, q2.trans tr, q3.trans tr⟩
      · rename_i hge
        have hi0 : i = es.length := by
          have := (List.getElem?_eq_some_iff.1 hi).1
          simp at this; omega
        subst hi0
        simp at hi
        obtain ⟨rfl, rfl⟩ := hi
        exact ⟨_, by rw [Array.getElem?_push, if_pos (by omega)], hkr.trans tr, hvr.trans tr⟩
    · simp [Instr.mapUpdate, run_underlying hu, Go.MapKept.run_getObj_map hb, hchk, hfk, Go.MapKept.run_setObj_map _ hb]
  · have hfk := run_findKey (P := P) (w := E.w) hku h1
    have h2' : ents[j]? = some e0 := by simpa using h2
    have hsb := same_bits (kd := kd) hkr h3 h4
    refine fin (ents.modify j fun e => { e with key := vk, val := vv }) clock (by simp [h5, hsz]) (fun E' tr i k x hi => ?_) ?_
    · rw [h5, List.getElem?_set] at hi
      split at hi
      · rename_i e; subst e
        simp [h6] at hi
        obtain ⟨rfl, rfl⟩ := hi
        have hlt : j < ents.size := by omega
        refine ⟨{ ents[j] with key := vk, val := vv }, by rw [Array.getElem?_modify, if_pos rfl, Array.getElem?_eq_getElem hlt]; rfl, hkr.trans tr, hvr.trans tr⟩
      · rename_i hne
        obtain ⟨e1, q1, q2, q3⟩ := hent i k x hi
        exact ⟨e1, by rw [Array.getElem?_modify, if_neg hne]; exact q1, q2.trans tr, q3.trans tr⟩
    · simp [Instr.mapUpdate, run_underlying hu, Go.MapKept.run_getObj_map hb, hchk, hfk, h2', Instr.keyThatStays, hsb, Go.MapKept.run_setObj_map _ hb]

/-! ### One law for all. -/

def WpV (P : Program) (o : Oper) (a : Act) (E : Env) (r : R) : Prop :=
  r.fact ∧ ∀ (K : Act → World → Prop) (Q : Exit → Act → World → Prop), (∀ v E', VRel E' r.v v → E'.H = r.h → HRel E' → Trans E E' → K (a.put o.dst v) E'.w) → o.wp P a E.w K Q

theorem WpV.value {P : Program} {o : Oper} {a : Act} {E : Env} {r : R} {s : Sem Value} (hg : Good P E s r) (hp : r.pre) (he : execOp a.eval o = (do pure (.value (← s)))) : WpV P o a E r := by
  obtain ⟨hf, v, E', hrun, hH, hv, hh, tr⟩ := hg hp
  refine ⟨hf, fun K Q hK => ?_⟩
  unfold Oper.wp
  rw [he]
  simp only [Sem.run_bind, hrun, Result.andThen_ok, Sem.run_pure]
  exact hK v E' hv hH hh tr

theorem WpV.skip {P : Program} {o : Oper} {a : Act} {E : Env} {r : R} {s : Sem Unit} (hg : GoodU P E s r) (hp : r.pre) (he : execOp a.eval o = (do s; pure .skip)) : WpV P o a E r := by
  obtain ⟨hf, hv, E', hrun, hH, hh, tr⟩ := hg hp
  refine ⟨hf, fun K Q hK => ?_⟩
  unfold Oper.wp
  rw [he]
  simp only [Sem.run_bind, hrun, Result.andThen_ok, Sem.run_pure]
  exact hK undef E' (by rw [hv]; exact .un) hH hh tr

theorem parts_rel {E : Env} {a : Act} {ρ : Operand → V} (hρ : ∀ x, VRel E (ρ x) (a.eval x)) (parts : Array (Nat × Operand)) :
    (parts.toList.map fun p => (p.1, ρ p.2)).length = (parts.map fun (i, x) => (i, a.eval x)).size ∧
    ∀ (k : Nat) (i : Nat) (x : V), (parts.toList.map fun p => (p.1, ρ p.2))[k]? = some (i, x) → ∃ v, (parts.map fun (i, x) => (i, a.eval x))[k]? = some (i, v) ∧ VRel E x v := by
  refine ⟨by simp, fun k i x hk => ?_⟩
  simp only [List.getElem?_map, Option.map_eq_some_iff] at hk
  obtain ⟨p, hp, e⟩ := hk
  cases e
  refine ⟨a.eval p.2, ?_, hρ _⟩
  simp only [Array.getElem?_map, Option.map_eq_some_iff]
  exact ⟨p, by simpa using hp, rfl⟩

theorem args_rel {E : Env} {a : Act} {ρ : Operand → V} (hρ : ∀ x, VRel E (ρ x) (a.eval x)) (args : Array Operand) :
    (args.toList.map ρ).length = (args.map a.eval).size ∧ ∀ (j : Nat) (x : V), (args.toList.map ρ)[j]? = some x → ∃ v, (args.map a.eval)[j]? = some v ∧ VRel E x v := by
  refine ⟨by simp, fun j x hj => ?_⟩
  simp only [List.getElem?_map, Option.map_eq_some_iff] at hj
  obtain ⟨p, hp, rfl⟩ := hj
  exact ⟨a.eval p, by simp only [Array.getElem?_map, Option.map_eq_some_iff]; exact ⟨p, by simpa using hp, rfl⟩, hρ _⟩

theorem opt_rel {E : Env} {a : Act} {ρ : Operand → V} (hρ : ∀ x, VRel E (ρ x) (a.eval x)) (x : Option Operand) : ORelV E (x.map ρ) (x.map a.eval) := by
  cases x with
  | none => exact ⟨by simp, fun _ => rfl⟩
  | some y => exact ⟨fun z hz => by simp at hz; exact ⟨_, rfl, hz ▸ hρ y⟩, by simp⟩

theorem step_ok {P : Program} {o : Oper} {a : Act} {E : Env} {ρ : Operand → V} (hE : HRel E) (hρ : ∀ x, VRel E (ρ x) (a.eval x)) (hp : (stepF P o.pos o.op ρ E.H).pre) : WpV P o a E (stepF P o.pos o.op ρ E.H) := by
  cases hop : o.op <;> rw [hop] at hp <;> simp only [stepF] at hp ⊢
  case move x => exact .value (s := pure (a.eval x)) (.ok hE ⟨_, rfl, hρ x⟩) hp (by simp [execOp, hop])
  case assign x => exact .value (s := pure (a.eval x)) (.ok hE ⟨_, rfl, hρ x⟩) hp (by simp [execOp, hop])
  case pick c x y =>
    refine .value (pickF_ok hE (hρ c) (hρ x) (hρ y)) hp ?_
    simp [execOp, hop]
  case alloc t =>
    split at hp
    · rename_i z hz
      split at hp
      · rename_i zs hzs
        exact .value (alloc_ok hE hz hzs (.tuple #[])) hp (by simp [execOp, hop])
      · exact hp.elim
    · exact hp.elim
  case box t x =>
    split at hp
    · rename_i cs hcs
      exact .value (box_ok (t := t) hE (hρ x) hcs) hp (by simp [execOp, hop])
    · exact hp.elim
  case load t x => exact .value (loadF_ok hE (hρ x)) hp (by simp [execOp, hop])
  case store t x y => exact .skip (storeF_ok hE (hρ x) (hρ y)) hp (by simp [execOp, hop])
  case nilCheck x =>
    have hx := hρ x
    split at hp
    · rename_i id ver r off hx0
      rw [hx0] at hx
      split at hp
      · rename_i cur sz rows ho
        have hv := ref_addr (one_inv hx) ho hp
        refine .value (s := pure (a.eval x)) (.same hE fun _ => ⟨trivial, _, rfl, rfl, hx⟩) hp ?_
        simp [execOp, hop, hv]
      · exact hp.elim
    · rename_i r off hx0
      rw [hx0] at hx
      obtain ⟨b, o', hv, _⟩ := rowIn_of_iptr (one_inv hx)
      refine .value (s := pure (a.eval x)) (.ok hE ⟨_, rfl, hx⟩) hp ?_
      simp [execOp, hop, hv]
    · exact hp.elim
  case binOp op t x y yt =>
    have hg := binF_guard (P := P) (hρ x) (hρ y) hp x y
    have hb := binF_ok (P := P) (op := op) (t := t) hE (hρ x) (hρ y)
    refine .value (s := do eqGuard op t x y (a.eval x) (a.eval y); binOp op t (a.eval x) (a.eval y)) (fun hp => ?_) hp (by simp [execOp, hop])
    obtain ⟨hf, v, E', hrun, rest⟩ := hb hp
    exact ⟨hf, v, E', by simp [hg, hrun], rest⟩
  case unOp op t x => exact .value (unF_ok hE (hρ x)) hp (by simp [execOp, hop])
  case convert s d x => exact .value (convZ_ok hE (hρ x)) hp (by simp [execOp, hop])
  case makeInterface t x => exact .value (makeIfF_ok hE (hρ x)) hp (by simp [execOp, hop])
  case typeAssert x xt a ok => exact .value (typeAssertF_ok (xt := xt) hE (hρ x)) hp (by simp [execOp, hop])
  case makeFunc fn first cap =>
    cases fn with
    | func f =>
      simp only at hp ⊢
      split at hp
      · rename_i h0
        rw [if_pos h0]
        split at hp
        · rename_i cs hcs
          obtain ⟨h1, h2⟩ := args_rel hρ cap
          have hf : first = #[] := by simpa using h0
          exact .value (makeFuncF_ok hE h1 h2 hcs) hp (by simp [execOp, hop, hf])
        · exact hp.elim
      · exact hp.elim
    | _ => exact hp.elim
  case makeMap t r =>
    cases r with
    | none => exact .value (makeMapF_ok (t := t) hE) hp (by simp [execOp, hop])
    | some _ => exact hp.elim
  case lookup t x k ok => exact .value (lookupF_ok hE (hρ x) (hρ k)) hp (by simp [execOp, hop])
  case mapUpdate t m k x => exact .skip (mapPutF_ok hE (hρ m) (hρ k) (hρ x)) hp (by simp [execOp, hop])
  case insert t m k x => exact .skip (mapPutF_ok hE (hρ m) (hρ k) (hρ x)) hp (by simp [execOp, hop])
  case makeSlice t l c => exact .value (makeSliceF_ok hE (hρ l) (hρ c)) hp (by simp [execOp, hop])
  case slice t x lo hi mx =>
    split at hp
    · exact hp.elim
    · rename_i hm
      rw [if_neg hm]
      exact .value (sliceF_ok hE (hρ x) (opt_rel hρ lo) (opt_rel hρ hi) (opt_rel hρ mx) (fun h => by cases hi <;> cases mx <;> simp_all)) hp (by simp [execOp, hop])
  case fieldAddr t x f => exact .value (fieldAddrF_ok hE (hρ x)) hp (by simp [execOp, hop])
  case field t x f => exact .value (fieldF_ok hE (hρ x)) hp (by simp [execOp, hop])
  case indexAddr t x i => exact .value (indexAddrF_ok hE (hρ x) (hρ i)) hp (by simp [execOp, hop])
  case index t x i => exact .value (indexF_ok hE (hρ x) (hρ i)) hp (by simp [execOp, hop])
  case extract x i =>
    have hx := hρ x
    split at hp
    · rename_i vs hx0
      rw [hx0] at hx
      split at hp
      · rename_i v hv
        exact .value (extractF_ok hE hx hv) hp (by simp [execOp, hop])
      · exact hp.elim
    · exact hp.elim
  case build t parts =>
    obtain ⟨h1, h2⟩ := parts_rel hρ parts
    exact .value (buildF_ok hE h1 h2) hp (by simp [execOp, hop])
  case buildSlice t n parts =>
    obtain ⟨h1, h2⟩ := parts_rel hρ parts
    exact .value (buildSliceF_ok hE h1 h2) hp (by simp [execOp, hop])
  case call c =>
    obtain ⟨callee, args, ats⟩ := c
    cases callee with
    | builtin b =>
      simp only at hp ⊢
      obtain ⟨h1, h2⟩ := args_rel hρ args
      obtain ⟨s, hg, he⟩ := biZ_ok (P := P) (ty := o.type) (consts := args.map fun | .const _ => true | _ => false) hE h1 h2 hp
      refine .value hg hp ?_
      simp only [execOp, hop, resolve]
      exact he
    | value f => exact hp.elim
    | invoke r m => exact hp.elim
  all_goals exact hp.elim

end Go.Lz

end
