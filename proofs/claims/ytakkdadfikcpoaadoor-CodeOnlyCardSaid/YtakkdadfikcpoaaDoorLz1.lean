/- Lz1: abstract values, how they stand for the model's values, and how that outlives steps of the world. -/
import Derived.Test.YtakkdadfikcpoaaDoorLzG
import Derived.Calls
import Derived.Laws.Sem
import Derived.Laws.World
import Derived.Below
namespace Go.Lz
set_option linter.unusedVariables false
set_option linter.unusedSimpArgs false

/-- The longest slice or string that is spoken of. -/
def lim : Nat := 2 ^ 48

inductive C where
  | int (k : IntKind) (n : Int)
  | bool (b : Bool)
  | str (s : List UInt8)
  | sl (rows : List (List C))
  | slf (rows : List (List C))
  | iptr (row : List C) (off : Nat)
  | fn (f : FuncId) (cap : List C)
  | ifc (t : TypeId) (cs : List C)
  | nilfn | nilif | nilp | nilm
  | ref (id ver row off : Nat)
  | msl (id ver lo hi : Nat)
  | mp (id : Nat)
  deriving Inhabited

inductive O where
  | cells (ver sz : Nat) (rows : List (List C))
  | map (es : List (C × C))
  | dead
  deriving Inhabited

structure Bd where
  blk : Nat
  off : Nat
  cap : Nat

structure Env where
  w : World
  Fr : Nat → Prop
  bd : Nat → Bd
  H : List O

/-- Does an object hold memory? (A slice without any room holds none.) -/
def Env.live (E : Env) (id : Nat) : O → Prop
  | .cells .. => (E.bd id).cap ≠ 0
  | .map _ => True
  | .dead => False

def Env.own (E : Env) (b : Nat) : Prop := ∃ (id : Nat) (o : O), E.H[id]? = some o ∧ E.live id o ∧ (E.bd id).blk = b

/-- A block in which data that never turns may lie. -/
def Env.free (E : Env) (b : Nat) : Prop := b < E.w.heap.size ∧ ¬ E.Fr b ∧ ¬ E.own b

def at2 (rows : List (List C)) (i j : Nat) : Option C := (rows[i]?).bind (·[j]?)

inductive CRel (E : Env) : C → Value → Prop
  | int {k : IntKind} {n : Int} (h : k.min ≤ n ∧ n ≤ k.max) : CRel E (.int k n) (.int k n)
  | bool {b : Bool} : CRel E (.bool b) (.bool b)
  | str {s : List UInt8} {b : ByteArray} (h : b.data.toList = s) (hl : s.length ≤ lim) : CRel E (.str s) (.string b)
  | sl {rows : List (List C)} {a : Option Addr} {n cap : Nat} (vals : Nat → Nat → Value) (sz : Nat) (hn : n = rows.length) (hcap : rows.length ≤ cap) (hlim : rows.length ≤ lim)
      (hsz : ∀ r ∈ rows, r.length = sz)
      (hb : rows ≠ [] → ∃ b off, a = some ⟨b, off, none⟩ ∧ E.free b ∧ ∀ i j c, at2 rows i j = some c → E.w.cell? ⟨b, off + (i * sz + j), none⟩ = some (vals i j))
      (hv : ∀ i j c, at2 rows i j = some c → CRel E c (vals i j)) : CRel E (.sl rows) (.slice a n cap)
  | slf {rows : List (List C)} {v : Value} (h : CRel E (.sl rows) v) (hf : ∃ a, v = .slice a rows.length rows.length) : CRel E (.slf rows) v
  | iptr {row : List C} {off b o : Nat} {v : Value} (vals : Nat → Value) (he : v = .pointer (some ⟨b, o + off, none⟩)) (hb : E.free b) (hc : ∀ j c, row[j]? = some c → E.w.cell? ⟨b, o + j, none⟩ = some (vals j))
      (hv : ∀ j c, row[j]? = some c → CRel E c (vals j)) : CRel E (.iptr row off) v
  | fn {f : FuncId} {cap : List C} {vs : Array Value} (hn : vs.size = cap.length) (hv : ∀ j c, cap[j]? = some c → CRel E c (vs.getD j undef)) : CRel E (.fn f cap) (.func (.func f) #[] vs)
  | ifc {t : TypeId} {cs : List C} {vs : Array Value} (hn : vs.size = cs.length) (hv : ∀ j c, cs[j]? = some c → CRel E c (vs.getD j undef)) : CRel E (.ifc t cs) (.iface t (.agg vs))
  | nilfn : CRel E .nilfn .nilFunc
  | nilif : CRel E .nilif .nilIface
  | nilp : CRel E .nilp (.pointer none)
  | nilm : CRel E .nilm (.map none)
  | ref {id ver row off : Nat} {v : Value} (hid : id < E.H.length) (hc : v.oneCell' = true)
      (h : ∀ cur sz rows, E.H[id]? = some (.cells cur sz rows) → ver ≤ cur ∧ (ver = cur → v = .pointer (some ⟨(E.bd id).blk, (E.bd id).off + (row * sz + off), none⟩))) : CRel E (.ref id ver row off) v
  | msl {id ver lo hi : Nat} {v : Value} (hid : id < E.H.length) (hc : v.oneCell' = true)
      (h : ∀ cur sz rows, E.H[id]? = some (.cells cur sz rows) → ver ≤ cur ∧ (ver = cur → lo ≤ hi ∧ hi ≤ rows.length ∧ ∃ (a : Option Addr) (cap : Nat), v = .slice a (hi - lo) cap ∧ lo + cap = (E.bd id).cap ∧
        (0 < cap → a = some ⟨(E.bd id).blk, (E.bd id).off + lo * sz, none⟩))) : CRel E (.msl id ver lo hi) v
  | mp {id : Nat} {v : Value} (hid : id < E.H.length) (hc : v.oneCell' = true)
      (h : ∀ es, E.H[id]? = some (.map es) → v = .map (some (E.bd id).blk)) : CRel E (.mp id) v

theorem CRel.cell {E : Env} {c : C} {v : Value} (h : CRel E c v) : v.oneCell' = true := by
  induction h with
  | slf h hf ih => exact ih
  | iptr vals he => subst he; rfl
  | ref _ hc => exact hc
  | msl _ hc => exact hc
  | mp _ hc => exact hc
  | _ => rfl

inductive V where
  | one (c : C)
  | agg (cs : List C)
  | tup (vs : List V)
  | un
  deriving Inhabited

inductive VRel (E : Env) : V → Value → Prop
  | one {c : C} {v : Value} (h : CRel E c v) : VRel E (.one c) v
  | agg {cs : List C} {vs : Array Value} (hn : vs.size = cs.length) (h : ∀ j c, cs[j]? = some c → CRel E c (vs.getD j undef)) : VRel E (.agg cs) (.agg vs)
  | tup {Vs : List V} {vs : Array Value} (hn : vs.size = Vs.length) (h : ∀ j x, Vs[j]? = some x → VRel E x (vs.getD j undef)) : VRel E (.tup Vs) (.tuple vs)
  | un {v : Value} : VRel E .un v

/-- A row of memory whose mark, if it bears one, lies behind its cells. -/
def RowAt (w : World) (b : Nat) (arr : Array Value) (ty : TypeId) : Prop := ∃ fz : Nat × Nat, w.heap[b]? = some (.cells arr ty fz) ∧ (fz = (0, 0) ∨ arr.size ≤ fz.1)
theorem RowAt.lt {w : World} {b : Nat} {arr : Array Value} {ty : TypeId} (h : RowAt w b arr ty) : b < w.heap.size := by
  obtain ⟨fz, h, _⟩ := h
  exact (Array.getElem?_eq_some_iff.1 h).1
theorem RowAt.cell? {w : World} {b : Nat} {arr : Array Value} {ty : TypeId} (h : RowAt w b arr ty) (i : Nat) : w.cell? ⟨b, i, none⟩ = arr[i]? := by
  obtain ⟨fz, h, _⟩ := h
  simp [World.cell?, h]
theorem RowAt.congr {w w' : World} {b : Nat} {arr : Array Value} {ty : TypeId} (h : RowAt w b arr ty) (e : w'.heap[b]? = w.heap[b]?) : RowAt w' b arr ty := by
  obtain ⟨fz, h, h2⟩ := h
  exact ⟨fz, by rw [e]; exact h, h2⟩
theorem RowAt.mk0 {w : World} {b : Nat} {arr : Array Value} {ty : TypeId} (h : w.heap[b]? = some (.cells arr ty (0, 0))) : RowAt w b arr ty := ⟨(0, 0), h, .inl rfl⟩
/-- What an own object is in memory. -/
def ORel (E : Env) (id : Nat) : O → Prop
  | .cells _ sz rows => rows.length ≤ (E.bd id).cap ∧ rows.length ≤ lim ∧ (∀ r ∈ rows, r.length = sz) ∧
      ((E.bd id).cap ≠ 0 → ∃ arr ty, RowAt E.w (E.bd id).blk arr ty ∧ (E.bd id).off + (E.bd id).cap * sz ≤ arr.size ∧
      (∀ i j c, at2 rows i j = some c → ∃ v, arr[(E.bd id).off + (i * sz + j)]? = some v ∧ CRel E c v))
  | .map es => ∃ ents clock, E.w.heap[(E.bd id).blk]? = some (.map ents clock) ∧ ents.size = es.length ∧
      (∀ (i : Nat) (k x : C), es[i]? = some (k, x) → ∃ e : MapEntry, ents[i]? = some e ∧ CRel E k e.key ∧ CRel E x e.val)
  | .dead => True

/-- The tables that lie ready are as they were laid, and nobody's own. -/
def Env.gl (E : Env) : Prop := ∀ p ∈ GT, E.free p.1 ∧ ∀ (j : Nat) (v : Value), p.2[j]? = some v → E.w.cell? ⟨p.1, j, none⟩ = some v
theorem Env.gl.of {E E' : Env} (h : E.gl) (hf : ∀ b, E.free b → E'.free b) (hw : ∀ b o, E.free b → E'.w.cell? ⟨b, o, none⟩ = E.w.cell? ⟨b, o, none⟩) : E'.gl :=
  fun p hp => ⟨hf _ (h p hp).1, fun j v hj => by rw [hw _ _ (h p hp).1]; exact (h p hp).2 j v hj⟩

structure HRel (E : Env) : Prop where
  obj : ∀ (id : Nat) (o : O), E.H[id]? = some o → ORel E id o
  dist : ∀ (i j : Nat) (x y : O), E.H[i]? = some x → E.H[j]? = some y → E.live i x → E.live j y → i ≠ j → (E.bd i).blk ≠ (E.bd j).blk
  nofr : ∀ (i : Nat) (x : O), E.H[i]? = some x → E.live i x → ¬ E.Fr (E.bd i).blk
  frlt : ∀ b, E.Fr b → b < E.w.heap.size
  glob : E.gl

theorem HRel.own_lt {E : Env} (h : HRel E) {b : Nat} (hb : E.own b) : b < E.w.heap.size := by
  obtain ⟨id, o, ho, hl, rfl⟩ := hb
  have := h.obj id o ho
  cases o with
  | cells ver sz rows =>
    obtain ⟨_, _, _, hh⟩ := this
    obtain ⟨arr, ty, hh, _⟩ := hh hl
    exact hh.lt
  | map es =>
    obtain ⟨ents, clock, hh, _⟩ := this
    rcases Nat.lt_or_ge (E.bd id).blk E.w.heap.size with h' | h'
    · exact h'
    · simp [Array.getElem?_eq_none h'] at hh
  | dead => exact hl.elim

structure Trans (E E' : Env) : Prop where
  fr : E'.Fr = E.Fr
  size : E.w.heap.size ≤ E'.w.heap.size
  os : E'.w.os = E.w.os
  tape : E'.w.tape = E.w.tape
  output : E'.w.output = E.w.output
  keep : ∀ b, b < E.w.heap.size → ¬ E.own b → E'.w.heap[b]? = E.w.heap[b]?
  own : ∀ b, b < E.w.heap.size → E'.own b → E.own b
  len : E.H.length ≤ E'.H.length
  objC : ∀ id ver' sz' rows', id < E.H.length → E'.H[id]? = some (.cells ver' sz' rows') → ∃ ver sz rows, E.H[id]? = some (.cells ver sz rows) ∧ ver ≤ ver' ∧
    (ver = ver' → sz = sz' ∧ rows.length = rows'.length ∧ E'.bd id = E.bd id)
  objM : ∀ id es', id < E.H.length → E'.H[id]? = some (.map es') → ∃ es, E.H[id]? = some (.map es) ∧ (E'.bd id).blk = (E.bd id).blk

theorem Trans.refl (E : Env) : Trans E E :=
  ⟨rfl, Nat.le_refl _, rfl, rfl, rfl, fun _ _ _ => rfl, fun _ _ h => h, Nat.le_refl _, fun _ ver sz rows _ h => ⟨ver, sz, rows, h, Nat.le_refl _, fun _ => ⟨rfl, rfl, rfl⟩⟩, fun _ es _ h => ⟨es, h, rfl⟩⟩

theorem Trans.trans {a b c : Env} (h : Trans a b) (k : Trans b c) : Trans a c where
  fr := k.fr.trans h.fr
  size := Nat.le_trans h.size k.size
  os := k.os.trans h.os
  tape := k.tape.trans h.tape
  output := k.output.trans h.output
  keep := fun n hn ho => (k.keep n (Nat.lt_of_lt_of_le hn h.size) (fun hb => ho (h.own n hn hb))).trans (h.keep n hn ho)
  own := fun n hn ho => h.own n hn (k.own n (Nat.lt_of_lt_of_le hn h.size) ho)
  len := Nat.le_trans h.len k.len
  objC := fun id ver' sz' rows' hid ho => by
    obtain ⟨ver1, sz1, rows1, h1, l1, e1⟩ := k.objC id ver' sz' rows' (Nat.lt_of_lt_of_le hid h.len) ho
    obtain ⟨ver, sz, rows, h0, l0, e0⟩ := h.objC id ver1 sz1 rows1 hid h1
    refine ⟨ver, sz, rows, h0, Nat.le_trans l0 l1, fun e => ?_⟩
    obtain ⟨a1, a2, a3⟩ := e1 (by omega)
    obtain ⟨b1, b2, b3⟩ := e0 (by omega)
    exact ⟨b1.trans a1, b2.trans a2, a3.trans b3⟩
  objM := fun id es' hid ho => by
    obtain ⟨es1, h1, e1⟩ := k.objM id es' (Nat.lt_of_lt_of_le hid h.len) ho
    obtain ⟨es, h0, e0⟩ := h.objM id es1 hid h1
    exact ⟨es, h0, e1.trans e0⟩

theorem Trans.free {E E' : Env} (t : Trans E E') {b : Nat} (h : E.free b) : E'.free b :=
  ⟨Nat.lt_of_lt_of_le h.1 t.size, by rw [t.fr]; exact h.2.1, fun ho => h.2.2 (t.own b h.1 ho)⟩

theorem Trans.cell? {E E' : Env} (t : Trans E E') {b : Nat} (h : E.free b) (o : Nat) : E'.w.cell? ⟨b, o, none⟩ = E.w.cell? ⟨b, o, none⟩ := by
  simp only [World.cell?, t.keep b h.1 h.2.2]

theorem HRel.gl {E E' : Env} (h : HRel E) (t : Trans E E') : E'.gl := h.glob.of (fun _ hb => t.free hb) (fun _ o hb => t.cell? hb o)

theorem CRel.trans {E E' : Env} (t : Trans E E') {c : C} {v : Value} (h : CRel E c v) : CRel E' c v := by
  induction h with
  | int h => exact .int h
  | bool => exact .bool
  | str h hl => exact .str h hl
  | @sl rows a n cap vals sz hn hcap hlim hsz hb hv ih =>
    refine .sl vals sz hn hcap hlim hsz (fun hne => ?_) ih
    obtain ⟨b, off, ha, hf, hc⟩ := hb hne
    exact ⟨b, off, ha, t.free hf, fun i j c hij => by rw [t.cell? hf]; exact hc i j c hij⟩
  | slf h hf ih => exact .slf ih hf
  | iptr vals he hb hc hv ih => exact .iptr vals he (t.free hb) (fun j c hj => by rw [t.cell? hb]; exact hc j c hj) ih
  | fn hn hv ih => exact .fn hn ih
  | ifc hn hv ih => exact .ifc hn ih
  | nilfn => exact .nilfn
  | nilif => exact .nilif
  | nilp => exact .nilp
  | nilm => exact .nilm
  | @ref id ver row off v hid hc h =>
    refine .ref (Nat.lt_of_lt_of_le hid t.len) hc fun cur' sz' rows' ho => ?_
    obtain ⟨cur, sz, rows, h0, hle, he⟩ := t.objC id cur' sz' rows' hid ho
    obtain ⟨h1, h2⟩ := h cur sz rows h0
    refine ⟨Nat.le_trans h1 hle, fun e => ?_⟩
    obtain ⟨e1, _, e2⟩ := he (by omega)
    rw [e2, ← e1]; exact h2 (by omega)
  | @msl id ver lo hi v hid hc h =>
    refine .msl (Nat.lt_of_lt_of_le hid t.len) hc fun cur' sz' rows' ho => ?_
    obtain ⟨cur, sz, rows, h0, hle, he⟩ := t.objC id cur' sz' rows' hid ho
    obtain ⟨h1, h2⟩ := h cur sz rows h0
    refine ⟨Nat.le_trans h1 hle, fun e => ?_⟩
    obtain ⟨e1, e3, e2⟩ := he (by omega)
    rw [e2, ← e1, ← e3]; exact h2 (by omega)
  | @mp id v hid hc h =>
    refine .mp (Nat.lt_of_lt_of_le hid t.len) hc fun es' ho => ?_
    obtain ⟨es, h0, he⟩ := t.objM id es' hid ho
    rw [he]; exact h es h0

theorem VRel.trans {E E' : Env} (t : Trans E E') {x : V} {v : Value} (h : VRel E x v) : VRel E' x v := by
  induction h with
  | one h => exact .one (h.trans t)
  | agg hn h => exact .agg hn fun j c hj => (h j c hj).trans t
  | tup hn h ih => exact .tup hn ih
  | un => exact .un

/-- The cells of a value, as the model has them. -/
def V.cs : V → Option (List C)
  | .one c => some [c]
  | .agg cs => some cs
  | _ => none

theorem VRel.cells {E : Env} {x : V} {v : Value} {cs : List C} (h : VRel E x v) (hx : x.cs = some cs) :
    v.cells.size = cs.length ∧ ∀ (j : Nat) (c : C), cs[j]? = some c → ∃ y, v.cells[j]? = some y ∧ CRel E c y := by
  cases h with
  | one h =>
    simp only [V.cs, Option.some.injEq] at hx
    subst hx
    have hv : v.cells = #[v] := by
      have := h.cell
      cases v <;> simp [Value.oneCell'] at this <;> rfl
    rw [hv]
    refine ⟨rfl, fun j c hj => ?_⟩
    cases j with
    | zero => simp at hj; subst hj; exact ⟨v, rfl, h⟩
    | succ j => simp at hj
  | agg hn h =>
    simp only [V.cs, Option.some.injEq] at hx
    subst hx
    refine ⟨hn, fun j c hj => ?_⟩
    have hlt : j < _ := (List.getElem?_eq_some_iff.1 hj).1
    rename_i vs
    have hlt' : j < vs.size := by omega
    refine ⟨vs[j], by simp [Value.cells, hlt'], ?_⟩
    have := h j c hj
    simpa [Array.getD, hlt'] using this
  | tup hn h => simp [V.cs] at hx
  | un => simp [V.cs] at hx

end Go.Lz
