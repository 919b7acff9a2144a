/- Lz11: the weakest precondition of code over abstract states, and that it is sound. -/
import Derived.Test.YtakkdadfikcpoaaDoorLzI
import Derived.Scope
import Derived.Orders
namespace Go.Lz
set_option linter.unusedVariables false
set_option linter.unusedSimpArgs false

structure St where
  t : List (Nat × V)
  H : List O

def look : List (Nat × V) → Nat → V
  | [], _ => .un
  | (k, v) :: r, i => if k = i then v else look r i

def St.ρ (st : St) : Operand → V
  | .tmp i => look st.t i
  | .const v => V.ofV v
  | .func f => .one (.fn f [])
  | .global _ => .un

def St.put (st : St) (d : Option Nat) (v : V) (H : List O) : St :=
  match d with
  | some d => ⟨(d, v) :: st.t, H⟩
  | none => ⟨st.t, H⟩

inductive Ex where
  | normal
  | exit (id : Nat)
  | ret
  | goto (l : Nat)

def Ex.toExit : Ex → Exit
  | .normal => .normal
  | .exit id => .exit id
  | .ret => .ret
  | .goto l => .goto l

/-- A frame's number of slots; how many objects there were when the call began. -/
structure Cf where
  n : Nat
  m : Nat

structure SR (ctx : Env) (n : Cf) (st : St) (a : Act) (E : Env) : Prop where
  len : n.n ≤ a.tmps.size
  hm : ctx.H.length ≤ n.m
  defers : a.defers = []
  tm : ∀ i, VRel E (look st.t i) (a.tmps.getD i undef)
  H : E.H = st.H
  rel : HRel E
  tr : Trans ctx E

/-- A call: whatever memory the objects and the arguments lie in, it returns, and K holds of the result and the objects behind it. -/
def Ct (P : Program) (f : FuncId) (args : List V) (H : List O) (K : V → List O → Prop) : Prop :=
  (∃ fn, P.funcs[f]? = some fn ∧ (fn.name == "runtime.NumGoroutine") = false ∧ fn.body.isNone = false) ∧
  ∀ (E : Env) (vs : Array Value), HRel E → E.H = H → vs.size = args.length → (∀ (j : Nat) (x : V), args[j]? = some x → VRel E x (vs.getD j undef)) →
    Calls P f vs E.w fun e w' => ∃ v x E', e = .returned v ∧ E'.w = w' ∧ K x E'.H ∧ VRel E' x v ∧ HRel E' ∧ Trans E E'

theorem Ct.mono {P : Program} {f : FuncId} {args : List V} {H : List O} {K K' : V → List O → Prop} (h : Ct P f args H K) (hk : ∀ x H', K x H' → K' x H') : Ct P f args H K' :=
  ⟨h.1, fun E vs h1 h2 h3 h4 => Calls.mono (h.2 E vs h1 h2 h3 h4) fun e w' ⟨v, x, E', a, b, c, d⟩ => ⟨v, x, E', a, b, hk _ _ c, d⟩⟩

def bindR (r : R) (K : V → List O → Prop) : Prop := r.pre ∧ (r.fact → K r.v r.h)

def awpOp (P : Program) (o : Oper) (st : St) (K : St → Prop) : Prop :=
  match o.op with
  | .call { callee := .value f, args, argTypes := _ } => match st.ρ f with
    | .one (.fn g cap) => Ct P g (args.toList.map st.ρ ++ cap.map V.one) st.H fun v H' => K (st.put o.dst v H')
    | _ => False
  | op => bindR (stepF P o.pos op st.ρ st.H) fun v H' => K (st.put o.dst v H')

/-- An operation of a region that draws its order: it turns no object. -/
def awpQ (P : Program) (o : Oper) (st : St) (K : St → Prop) : Prop :=
  match o.op with
  | .call { callee := .value f, args, argTypes := _ } => match st.ρ f with
    | .one (.fn g cap) => ∃ x, Ct P g (args.toList.map st.ρ ++ cap.map V.one) st.H (fun v H' => v = x ∧ H' = st.H) ∧ K (st.put o.dst x st.H)
    | _ => False
  | op => bindR (stepF P o.pos op st.ρ st.H) fun v H' => H' = st.H ∧ K (st.put o.dst v H')

def guarded (all : Array Oper) (o : Oper) (st : St) (X : St → Prop) (Y : St → Prop) : Prop :=
  match o.guard with
  | none => X st
  | some (j, want) => match (all[j]?).bind (·.dst) with
    | some d => match look st.t d with
      | .one (.bool b) => (b = want → X ⟨(d, .one (.bool want)) :: st.t, st.H⟩) ∧ (b = (!want) → Y ⟨(d, .one (.bool (!want))) :: st.t, st.H⟩)
      | _ => False
    | none => False

/-- A guard whose own operation may have been skipped. -/
def guarded2 (all : Array Oper) (o : Oper) (st : St) (X : St → Prop) (Y : St → Prop) : Prop :=
  match o.guard with
  | none => X st
  | some (j, want) => match (all[j]?).bind (·.dst) with
    | some d => match look st.t d with
      | .one (.bool b) => (b = want → X ⟨(d, .one (.bool want)) :: st.t, st.H⟩) ∧ (b = (!want) → Y ⟨(d, .one (.bool (!want))) :: st.t, st.H⟩)
      | .tup [] => Y st
      | _ => False
    | none => False

def awpOps (P : Program) (all : Array Oper) : List Oper → St → (St → Prop) → Prop
  | [], st, K => K st
  | o :: rest, st, K => guarded2 all o st (fun st => awpOp P o st fun st' => awpOps P all rest st' K) (fun st => awpOps P all rest (st.put o.dst (.tup []) st.H) K)

/-- A new object within a region that draws its order: as it is, whether it was written, the slot that bears its place. -/
structure Fo where
  o : O
  w : Bool
  d : Nat

/-- What an operation of such a region does to new objects: a new one, or the first write to one. -/
def freshV (P : Program) (o : Oper) (st : St) (N : List Fo) : Option (Prop × V × List Fo) :=
  match o.guard, o.dst, o.op with
  | none, some d, .alloc t => match tZ P t with
    | some z => match z.cs with
      | some cs => some (True, .one (.ref (st.H.length + N.length) 1 0 0), N ++ [⟨.cells 1 cs.length [cs], false, d⟩])
      | none => none
    | none => none
  | none, some d, .box _ x => match (st.ρ x).cs with
    | some cs => some (True, .one (.ref (st.H.length + N.length) 1 0 0), N ++ [⟨.cells 1 cs.length [cs], false, d⟩])
    | none => none
  | none, none, .store t (.tmp s) x => match look st.t s, (st.ρ x).cs, tAg P t with
    | .one (.ref id 1 0 off), some cs, some (_, n) => if st.H.length ≤ id then (match N[id - st.H.length]? with
      | some ⟨.cells 1 sz [row], false, d⟩ => some (d = s ∧ off + cs.length ≤ row.length ∧ cs.length = n, .un, N.set (id - st.H.length) ⟨.cells 1 sz [splice row off cs], true, d⟩)
      | _ => none) else none
    | _, _, _ => none
  | _, _, _ => none

/-- Operations that write. -/
def effO : Op → Bool
  | .store _ _ _ => true
  | .makeSlice _ _ _ => true
  | .makeMap _ _ => true
  | .mapUpdate _ _ _ _ => true
  | .insert _ _ _ _ => true
  | .alloc _ => true
  | .box _ _ => true
  | .call ⟨.builtin .append, _, _⟩ => true
  | .call ⟨.builtin .copy, _, _⟩ => true
  | _ => false

/-- What stands ahead of each operation of a region, whatever the order. -/
def unionN (a b : List Nat) : List Nat := a ++ b.filter fun x => !a.contains x
def preStep (tab : List (List Nat)) (o : Oper) : List (List Nat) :=
  tab ++ [(o.after.toList.filter (Region.binds .any)).foldl (fun acc e => unionN acc (e.on :: tab.getD e.on [])) []]
def preTab (ops : List Oper) : List (List Nat) := ops.foldl preStep []
/-- From place k on the order is the text's. -/
def tailB (ops : Array Oper) (k : Nat) : Bool :=
  (List.range ops.size).all fun j => decide (j < k) || (List.range j).all fun i => ((preTab ops.toList).getD j []).contains i

def namesOf (o : Oper) : List Nat := o.op.operands.toList.filterMap fun | .tmp t => some t | _ => none
/-- Ahead of place k: those that need not stand ahead of all from k on. -/
def lateSet (ops : Array Oper) (k : Nat) : List Nat :=
  (List.range k).filter fun i => (List.range ops.size).any fun j => decide (k ≤ j) && !((preTab ops.toList).getD j []).contains i
def notDst (o : Oper) (oj : Oper) : Bool := match oj.dst with | some d => !(namesOf o).contains d | none => true
def lateOk (ops : Array Oper) (i : Nat) : Bool := match ops[i]? with
  | none => false
  | some o => o.guard.isNone && !effO o.op && o.dst.isSome && (List.range ops.size).all fun j => match ops[j]? with
    | none => false
    | some oj => (decide (j = i) || !(oj.dst == o.dst)) && (decide (j < i) || notDst o oj)
def lateB (ops : Array Oper) (k : Nat) : Bool :=
  ((List.range ops.size).all fun j => decide (j < k) || (List.range j).all fun i => (lateSet ops k).contains i || ((preTab ops.toList).getD j []).contains i) && (lateSet ops k).all (lateOk ops)
/-- A quiet operation that comes to the same whatever the objects are. -/
def lateAt (P : Program) (all : Array Oper) (t : List (Nat × V)) (i : Nat) : Prop := match all[i]? with
  | some o => ∀ H : List O, (stepF P o.pos o.op (St.ρ ⟨t, H⟩) H).pre ∧ (stepF P o.pos o.op (St.ρ ⟨t, H⟩) H).h = H ∧ (stepF P o.pos o.op (St.ρ ⟨t, H⟩) H).v = look t (o.dst.getD 0)
  | none => False
def lateAll (P : Program) (all : Array Oper) (t : List (Nat × V)) : List Nat → Prop
  | [] => True
  | i :: L => lateAt P all t i ∧ lateAll P all t L
def LateP (P : Program) (all : Array Oper) (k : Nat) (t : List (Nat × V)) : Prop := lateB all k = true ∧ lateAll P all t (lateSet all k)
def tailP (P : Program) (all : Array Oper) (k : Nat) (t : List (Nat × V)) : Prop := tailB all k = true ∨ LateP P all k t
/-! Regions in which calls turn objects. -/
def isUser : Op → Bool
  | .call ⟨.value _, _, _⟩ => true
  | _ => false
def effF (op : Op) : Bool := effO op || isUser op
/-- Calls (by their place in the text) that turn objects and stand last in such a region. -/
def tailPos : List String := ["ref.go:130", "ref.go:134", "ref.go:148"]
def effT (pos : String) (op : Op) : Bool := effO op || (isUser op && tailPos.contains pos)
def agree (S : List Nat) (H H' : List O) : Prop := ∀ i ∈ S, H'[i]? = H[i]?
def effAt (all : Array Oper) (i : Nat) : Bool := match all[i]? with | some o => effF o.op | none => false
/-- Is an operation free of some effect: neither ahead of it nor behind it? -/
def floQ (all : Array Oper) (i : Nat) : Bool := (List.range all.size).any fun e => effAt all e && !(((preTab all.toList).getD i []).contains e) && !(((preTab all.toList).getD e []).contains i)
/-- No guards; each effect stands ahead of the next one. -/
def floB (all : Array Oper) : Bool := (List.range all.size).all fun j => (match all[j]? with | some o => o.guard.isNone | none => false) && (!effAt all j || (List.range j).all fun i => !effAt all i || ((preTab all.toList).getD j []).contains i)
/-- An operation that comes to the same in all memories that agree on some objects. -/
def stableQ (P : Program) (pos : String) (op : Op) (ρ : Operand → V) (H : List O) (S : List Nat) : Prop :=
  ∀ H', agree S H H' → (stepF P pos op ρ H').pre ∧ (stepF P pos op ρ H').h = H' ∧ (stepF P pos op ρ H').v = (stepF P pos op ρ H).v
/-- Is an effect free of some quiet operation? -/
def floE (all : Array Oper) (e : Nat) : Bool := (List.range all.size).any fun i => !effAt all i && !(((preTab all.toList).getD i []).contains e) && !(((preTab all.toList).getD e []).contains i)
/-- Fl: all quiet operations that are free of some effect; FE: all effects that are free of some. -/
def floL (all : Array Oper) (Fl FE : List Nat) : Bool := (List.range all.size).all fun i => if effAt all i then !floE all i || FE.contains i else !floQ all i || Fl.contains i
def awpF (P : Program) (S Fl FE : List Nat) : Nat → List Oper → St → (St → Prop) → Prop
  | _, [], st, K => K st
  | k, o :: rest, st, K => match effF o.op with
    | true => match o.op with
      | .call { callee := .value f, args, argTypes := _ } => match st.ρ f with
        | .one (.fn g cap) => ∃ x H1, Ct P g (args.toList.map st.ρ ++ cap.map V.one) st.H (fun v H' => v = x ∧ H' = H1) ∧ (FE.contains k = true → agree S st.H H1) ∧ awpF P S Fl FE (k + 1) rest (st.put o.dst x H1) K
        | _ => False
      | op => (stepF P o.pos op st.ρ st.H).pre ∧ (FE.contains k = true → agree S st.H (stepF P o.pos op st.ρ st.H).h) ∧ awpF P S Fl FE (k + 1) rest (st.put o.dst (stepF P o.pos op st.ρ st.H).v (stepF P o.pos op st.ρ st.H).h) K
    | false => (stepF P o.pos o.op st.ρ st.H).pre ∧ (stepF P o.pos o.op st.ρ st.H).h = st.H ∧ (Fl.contains k = true → stableQ P o.pos o.op st.ρ st.H S) ∧ awpF P S Fl FE (k + 1) rest (st.put o.dst (stepF P o.pos o.op st.ρ st.H).v st.H) K
/-- The statements whose regions are reckoned so (by their place in the text). -/
def floPos : List String := ["ref.go:208", "ref.go:211", "ref.go:214", "ref.go:222", "ref.go:227", "code.go:81", "image.go:147", "image.go:194", "image.go:197", "image.go:200", "image.go:204", "image.go:207", "image.go:212"]
def floatAt (ops : Array Oper) : Bool := match ops[0]? with | some o => floPos.contains o.pos | none => false
def unmet (o : Oper) (N : List Fo) : Bool := N.all fun x => !(namesOf o).contains x.d

def awpDraw (P : Program) (all : Array Oper) : List Oper → List Fo → St → (St → Prop) → Prop
  | [], N, st, K => K ⟨st.t, st.H ++ N.map Fo.o⟩
  | o :: rest, N, st, K => match freshV P o st N with
    | some (p, v, N') => p ∧ awpDraw P all rest N' (st.put o.dst v st.H) K
    | none => match effT o.pos o.op with
      | true => tailP P all (all.size - (rest.length + 1)) st.t ∧ awpOps P all (o :: rest) ⟨st.t, st.H ++ N.map Fo.o⟩ K
      | false => unmet o N = true ∧ guarded2 all o st (fun st => awpQ P o st fun st' => awpDraw P all rest N st' K) (fun st => awpDraw P all rest N (st.put o.dst (.tup []) st.H) K)

/-- All slots that code writes lie in the frame. -/
def okC (n : Nat) : Code → Bool
  | .region _ ops _ => ops.toList.all fun o => match o.dst with | some d => decide (d < n) | none => true
  | .seq a b => okC n a && okC n b
  | .cond _ a b => okC n a && okC n b
  | .block _ c => okC n c
  | .loop c => okC n c
  | .scope c => okC n c
  | _ => true

def Reaches (P : Program) (n : Cf) (Q : Ex → St → Prop) (ctx : Env) : Exit → Act → World → Prop := fun e a' w' => ∃ x st' E', e = x.toExit ∧ E'.w = w' ∧ Q x st' ∧ SR ctx n st' a' E'

def Sem' (P : Program) (n : Cf) (c : Code) (st : St) (Q : Ex → St → Prop) : Prop :=
  okC n.n c = true → ∀ ctx a E, SR ctx n st a E → c.wp P (Reaches P n Q ctx) a E.w

/-- From a loop's head on. -/
def LoopSem (P : Program) (n : Cf) (body : Code) (st : St) (Q : Ex → St → Prop) : Prop :=
  okC n.n body = true → ∀ ctx a E, SR ctx n st a E → ∀ (b : Frame) (k : List Item) (cs : List Frame),
    ∃ e a' w', Reaches P n Q ctx e a' w' ∧ Arrives P (lone (b.at a (.code body :: .inLoop body :: k)) cs E.w) b k cs e a' w'

def thenQ (Q1 : St → Prop) (Q : Ex → St → Prop) : Ex → St → Prop
  | .normal, st => Q1 st
  | e, st => Q e st

/-- From a label of a scope on. -/
def ScopeSem (P : Program) (n : Cf) (c rest : Code) (st : St) (Q : Ex → St → Prop) : Prop :=
  ∀ ctx a E, SR ctx n st a E → ∀ (b : Frame) (k : List Item) (cs : List Frame),
    ∃ e a' w', Reaches P n Q ctx e a' w' ∧ Arrives P (lone (b.at a (.code rest :: .inScope c :: k)) cs E.w) b k cs e a' w'

def gotoQ (P : Program) (n : Cf) (c : Code) (Q : Ex → St → Prop) : Ex → St → Prop
  | .goto l, st => ∃ rest, findLabel c l = some rest ∧ okC n.n rest = true ∧ ScopeSem P n c rest st Q
  | e, st => Q e st

def blockQ (id : Nat) (Q : Ex → St → Prop) : Ex → St → Prop
  | .exit i, st => if i = id then Q .normal st else Q (.exit i) st
  | e, st => Q e st

def condK (c : V) (X Y : Prop) : Prop :=
  match c with
  | .one (.bool b) => (b = true → X) ∧ (b = false → Y)
  | _ => False

/-- What a region that draws must keep (a check by reckoning). -/
def directB (ops : Array Oper) (i j : Nat) : Bool := match ops[j]? with | some o => o.after.toList.any fun e => Region.binds .any e && e.on == i | none => false
def drawB (ops : Array Oper) : Bool :=
  (List.range ops.size).all fun j => match ops[j]? with
    | none => false
    | some oj => oj.after.toList.all (fun e => !Region.binds .any e || decide (e.on < j)) &&
      (match oj.guard with | none => true | some (g, _) => decide (g < j) && directB ops g j) &&
      (List.range j).all fun i => match ops[i]? with
        | none => false
        | some oi => (match oi.dst with | some d => !((namesOf oj).contains d || oj.dst == some d) | none => true) && (match oi.dst, oj.guard with | some d, some (g, _) => !((ops[g]?).bind (·.dst) == some d) | _, _ => true) && (match oj.dst with | some d => !(namesOf oi).contains d | none => true) && (match oj.dst, oi.guard with | some d, some (g, _) => !((ops[g]?).bind (·.dst) == some d) | _, _ => true) || directB ops i j

def awp (P : Program) (n : Cf) : Code → St → (Ex → St → Prop) → Prop
  | .skip, st, Q => Q .normal st
  | .label _, st, Q => Q .normal st
  | .region _ ops draw, st, Q => match draw with
    | true => match floatAt ops with
      | true => P.follows .mixedOrders = true ∧ drawB ops = true ∧ floB ops = true ∧ ∃ S Fl FE, floL ops Fl FE = true ∧ awpF P S Fl FE 0 ops.toList st (Q .normal)
      | false => P.follows .mixedOrders = true ∧ drawB ops = true ∧ awpDraw P ops ops.toList [] st (Q .normal)
    | false => awpOps P ops ops.toList st (Q .normal)
  | .seq a b, st, Q => awp P n a st (thenQ (fun st' => awp P n b st' Q) Q)
  | .cond c x y, st, Q => condK (st.ρ c) (awp P n x st Q) (awp P n y st Q)
  | .block id c, st, Q => awp P n c st (blockQ id Q)
  | .loop c, st, Q => LoopSem P n c st Q
  | .scope c, st, Q => awp P n c st (gotoQ P n c Q)
  | .goto l, st, Q => Q (.goto l) st
  | .exit id, st, Q => Q (.exit id) st
  | .ret, st, Q => Q .ret st
  | _, _, _ => False

theorem look_cons (k : Nat) (v : V) (r : List (Nat × V)) (i : Nat) : look ((k, v) :: r) i = if k = i then v else look r i := rfl

theorem SR.ρ {ctx : Env} {n : Cf} {st : St} {a : Act} {E : Env} (h : SR ctx n st a E) (x : Operand) : VRel E (st.ρ x) (a.eval x) := by
  cases x with
  | tmp t => exact h.tm t
  | const v => exact V.ofV_rel E v
  | global g => exact .un
  | func f => exact .one (.fn rfl (by simp))

theorem getD_put {a : Act} {d i : Nat} {v : Value} (hd : d < a.tmps.size) : (a.put (some d) v).tmps.getD i undef = if d = i then v else a.tmps.getD i undef := by
  simp only [Act.put, Array.getD_eq_getD_getElem?, Array.getElem?_setIfInBounds]
  split
  · rename_i e; subst e; simp [hd]
  · rfl

/-- Behind an operation. -/
theorem SR.put {ctx : Env} {n : Cf} {st : St} {a : Act} {E E' : Env} (h : SR ctx n st a E) {o : Oper} (ho : ∀ d, o.dst = some d → d < n.n) {x : V} {v : Value} {H' : List O} (hx : VRel E' x v) (hH : E'.H = H') (hh : HRel E') (tr : Trans E E') :
    SR ctx n (st.put o.dst x H') (a.put o.dst v) E' := by
  cases hd : o.dst with
  | none => exact ⟨h.len, h.hm, h.defers, fun i => (h.tm i).trans tr, hH, hh, h.tr.trans tr⟩
  | some d =>
    have hdn := ho d hd
    refine ⟨by simpa [Act.put] using h.len, h.hm, h.defers, fun i => ?_, hH, hh, h.tr.trans tr⟩
    rw [getD_put (Nat.lt_of_lt_of_le hdn h.len)]
    simp only [St.put, look_cons]
    split
    · exact hx
    · exact (h.tm i).trans tr

theorem opnds_rel {E : Env} {st : St} {a : Act} (hρ : ∀ x, VRel E (st.ρ x) (a.eval x)) (args : Array Operand) (cap : List C) (vs : Array Value) (hn : vs.size = cap.length) (hv : ∀ (j : Nat) (c : C), cap[j]? = some c → CRel E c (vs.getD j undef)) :
    (args.map a.eval ++ vs).size = (args.toList.map st.ρ ++ cap.map V.one).length ∧
    ∀ (j : Nat) (x : V), (args.toList.map st.ρ ++ cap.map V.one)[j]? = some x → VRel E x ((args.map a.eval ++ vs).getD j undef) := by
  refine ⟨by simp [hn], fun j x hj => ?_⟩
  rw [List.getElem?_append] at hj
  split at hj
  · rename_i hlt
    simp at hlt
    simp only [List.getElem?_map, Option.map_eq_some_iff] at hj
    obtain ⟨p, hp, rfl⟩ := hj
    have : (args.map a.eval ++ vs).getD j undef = a.eval p := by
      have hp' : args[j]? = some p := by simpa using hp
      rw [Array.getD_eq_getD_getElem?, Array.getElem?_append_left (by simpa using hlt), Array.getElem?_map, hp']; rfl
    rw [this]; exact hρ p
  · rename_i hlt
    simp at hlt
    simp only [List.getElem?_map, Option.map_eq_some_iff, List.length_map, Array.length_toList] at hj
    obtain ⟨c, hc, rfl⟩ := hj
    have : (args.map a.eval ++ vs).getD j undef = vs.getD (j - args.size) undef := by
      rw [Array.getD_eq_getD_getElem?, Array.getD_eq_getD_getElem?, Array.getElem?_append_right (by simpa using hlt)]; simp
    rw [this]; exact .one (hv _ c hc)

theorem callee_run {P : Program} {o : Oper} {a : Act} {w : World} {f : Operand} {args : Array Operand} {ats : Array TypeId} (hop : o.op = .call { callee := .value f, args, argTypes := ats }) {g : FuncId} {vs : Array Value} (hf : a.eval f = .func (.func g) #[] vs)
    (hfn : ∃ fn, P.funcs[g]? = some fn ∧ (fn.name == "runtime.NumGoroutine") = false ∧ fn.body.isNone = false) : (execOp a.eval o).run P w = .ok (.enter g (args.map a.eval ++ vs)) w := by
  obtain ⟨fn, h1, h2, h3⟩ := hfn
  have h2' : ¬ fn.name = "runtime.NumGoroutine" := by simpa using h2
  have h3' : ¬ fn.body = none := by intro e; simp [e] at h3
  simp [execOp, hop, resolve, hf, Deferred.ofValue, invoke, callFunc, h1, h2', h3']

theorem fn_inv {E : Env} {g : FuncId} {cap : List C} {v : Value} (h : VRel E (.one (.fn g cap)) v) : ∃ vs, v = .func (.func g) #[] vs ∧ vs.size = cap.length ∧ ∀ (j : Nat) (c : C), cap[j]? = some c → CRel E c (vs.getD j undef) := by
  cases (one_inv h) with
  | fn hn hv => exact ⟨_, rfl, hn, hv⟩

theorem awpOp_ok {P : Program} {o : Oper} {ctx : Env} {n : Cf} {st : St} {a : Act} {E : Env} {K : St → Prop} (h : SR ctx n st a E) (ho : ∀ d, o.dst = some d → d < n.n) (hw : awpOp P o st K)
    (Q : Exit → Act → World → Prop) (next : Act → World → Prop) (hn : ∀ st' a' E', K st' → SR ctx n st' a' E' → next a' E'.w) : o.wp P a E.w next Q := by
  unfold awpOp at hw
  split at hw
  · rename_i f args ats hop
    split at hw
    · rename_i g cap hf
      have hfr := h.ρ f
      rw [hf] at hfr
      obtain ⟨vs, hv, hvn, hvr⟩ := fn_inv hfr
      obtain ⟨h1, h2⟩ := opnds_rel h.ρ args cap vs hvn hvr
      unfold Oper.wp
      rw [callee_run hop hv hw.1]
      refine Calls.mono (hw.2 E _ h.rel h.H h1 h2) ?_
      rintro e w' ⟨v, x, E', rfl, rfl, hK, hx, hh, tr⟩
      exact hn _ _ E' hK (h.put ho hx rfl hh tr)
    · exact hw.elim
  · obtain ⟨hp, hk⟩ := hw
    rw [← h.H] at hp hk
    obtain ⟨hf, hwp⟩ := step_ok (P := P) (o := o) h.rel h.ρ hp
    have hk' := hk hf
    rw [h.H] at hwp hk'
    exact hwp next Q fun v E' hv hH hh tr => hn _ _ E' hk' (h.put ho hv hH hh tr)

theorem yielded_of {ops : Array Oper} {a : Act} {j d : Nat} {b : Bool} (hd : (ops[j]?).bind (·.dst) = some d) (hb : a.tmps.getD d undef = .bool b) : yielded ops a.tmps j = some b := by
  unfold yielded
  rw [hd, Option.bind_some]
  rw [Array.getD_eq_getD_getElem?] at hb
  cases ht : a.tmps[d]? with
  | none => simp [ht, undef] at hb
  | some v => simp [ht] at hb; subst hb; rfl

theorem SR.assume {ctx : Env} {n : Cf} {st : St} {a : Act} {E : Env} (h : SR ctx n st a E) {d : Nat} {x : V} (hx : VRel E x (a.tmps.getD d undef)) : SR ctx n ⟨(d, x) :: st.t, st.H⟩ a E := by
  refine ⟨h.len, h.hm, h.defers, fun i => ?_, h.H, h.rel, h.tr⟩
  simp only [look_cons]
  split
  · rename_i e; exact e ▸ hx
  · exact h.tm i

theorem guarded_ok {all : Array Oper} {o : Oper} {ctx : Env} {n : Cf} {st : St} {a : Act} {E : Env} {X Y : St → Prop} (h : SR ctx n st a E) (hg : guarded all o st X Y) :
    ∃ st', SR ctx n st' a E ∧ ((Region.wanted o (yielded all a.tmps) = true ∧ X st') ∨ (Region.wanted o (yielded all a.tmps) = false ∧ Y st')) := by
  unfold guarded at hg
  split at hg
  · rename_i h0; exact ⟨st, h, .inl ⟨by simp [Region.wanted, h0], hg⟩⟩
  · rename_i j want h0
    split at hg
    · rename_i d hd
      split at hg
      · rename_i b hb
        have ht := h.tm d
        rw [hb] at ht
        have hv := bool_inv (one_inv ht)
        have hy := yielded_of hd hv
        by_cases hbw : b = want
        · refine ⟨_, h.assume (d := d) (x := .one (.bool want)) (by rw [hv, hbw]; exact .one .bool), .inl ⟨?_, hg.1 hbw⟩⟩
          simp [Region.wanted, h0, hy, hbw]
        · have hbn : b = !want := by cases b <;> cases want <;> simp_all
          refine ⟨_, h.assume (d := d) (x := .one (.bool (!want))) (by rw [hv, hbn]; exact .one .bool), .inr ⟨?_, hg.2 hbn⟩⟩
          simp only [Region.wanted, h0, hy]
          simp [hbw]
      · exact hg.elim
    · exact hg.elim

theorem yielded_skip {ops : Array Oper} {a : Act} {j d : Nat} (hd : (ops[j]?).bind (·.dst) = some d) (hb : a.tmps.getD d undef = .tuple #[]) : yielded ops a.tmps j = none := by
  unfold yielded
  rw [hd, Option.bind_some]
  rw [Array.getD_eq_getD_getElem?] at hb
  cases ht : a.tmps[d]? with
  | none => rfl
  | some v => simp [ht] at hb; subst hb; rfl

theorem guarded2_ok {all : Array Oper} {o : Oper} {ctx : Env} {n : Cf} {st : St} {a : Act} {E : Env} {X Y : St → Prop} (h : SR ctx n st a E) (hg : guarded2 all o st X Y) :
    ∃ st', SR ctx n st' a E ∧ ((Region.wanted o (yielded all a.tmps) = true ∧ X st') ∨ (Region.wanted o (yielded all a.tmps) = false ∧ Y st')) := by
  by_cases hs : ∃ j want d, o.guard = some (j, want) ∧ (all[j]?).bind (·.dst) = some d ∧ look st.t d = .tup []
  · obtain ⟨j, want, d, h0, hd, hl⟩ := hs
    simp only [guarded2, h0, hd, hl] at hg
    have ht := h.tm d
    rw [hl] at ht
    have hv : a.tmps.getD d undef = .tuple #[] := by
      generalize a.tmps.getD d undef = v at ht
      cases ht with
      | tup hn _ => congr 1; exact Array.eq_empty_of_size_eq_zero (by simpa using hn)
    exact ⟨st, h, .inr ⟨by simp [Region.wanted, h0, yielded_skip hd hv], hg⟩⟩
  · refine guarded_ok h ?_
    unfold guarded2 at hg
    unfold guarded
    cases h0 : o.guard with
    | none => simpa only [h0] using hg
    | some jw =>
      obtain ⟨j, want⟩ := jw
      rw [h0] at hg
      cases hd : (all[j]?).bind (·.dst) with
      | none => simp only [hd] at hg
      | some d =>
        simp only [hd] at hg ⊢
        cases hl : look st.t d with
        | one c =>
          rw [hl] at hg
          cases c with
          | bool b => exact hg
          | _ => exact hg.elim
        | agg c => simp only [hl] at hg
        | un => simp only [hl] at hg
        | tup l =>
          cases l with
          | nil => exact (hs ⟨j, want, d, h0, hd, hl⟩).elim
          | cons x l => simp only [hl] at hg

theorem SR.skip2 {ctx : Env} {n : Cf} {st : St} {a : Act} {E : Env} (h : SR ctx n st a E) {o : Oper} (ho : ∀ d, o.dst = some d → d < n.n) : SR ctx n (st.put o.dst (.tup []) st.H) (a.put o.dst undef) E :=
  h.put ho (.tup rfl (by simp)) h.H h.rel (Trans.refl E)

theorem SR.skip {ctx : Env} {n : Cf} {st : St} {a : Act} {E : Env} (h : SR ctx n st a E) {o : Oper} (ho : ∀ d, o.dst = some d → d < n.n) : SR ctx n (st.put o.dst .un st.H) (a.put o.dst undef) E :=
  h.put ho .un h.H h.rel (Trans.refl E)

theorem awpOps_ok {P : Program} {all : Array Oper} {ctx : Env} {n : Cf} {K : St → Prop} (Q : Exit → Act → World → Prop) (hQ : ∀ st' a' E', K st' → SR ctx n st' a' E' → Q .normal a' E'.w) (hok : ∀ o ∈ all.toList, ∀ d, o.dst = some d → d < n.n) :
    ∀ (l : List Nat) (rest : List Oper), rest.length = l.length → (∀ (k i : Nat), l[k]? = some i → all[i]? = rest[k]?) → ∀ (st : St) (a : Act) (E : Env), SR ctx n st a E → awpOps P all rest st K → wpOps P all Q l a E.w
  | [], rest, hl, hi, st, a, E, h, hw => by
    have : rest = [] := List.eq_nil_of_length_eq_zero (by simpa using hl)
    subst this
    exact hQ st a E hw h
  | i :: l, rest, hl, hi, st, a, E, h, hw => by
    cases rest with
    | nil => simp at hl
    | cons o rest =>
      have ho : all[i]? = some o := by simpa using hi 0 i rfl
      have hmem : o ∈ all.toList := List.mem_of_getElem? (by simpa using ho)
      simp only [wpOps, ho]
      obtain ⟨st', hs, hh⟩ := guarded2_ok h hw
      have hrec := awpOps_ok (P := P) (all := all) (K := K) Q hQ hok l rest (by simpa using hl) (fun k j hk => by simpa using hi (k + 1) j (by simpa using hk))
      rcases hh with ⟨hwant, hx⟩ | ⟨hwant, hy⟩
      · simp only [hwant, if_true]
        exact .inl (awpOp_ok hs (hok o hmem) hx Q _ fun st2 a2 E2 hK hs2 => hrec _ _ _ hs2 hK)
      · simp only [hwant, Bool.false_eq_true, if_false]
        exact hrec _ _ _ (hs.skip2 (hok o hmem)) hy

end Go.Lz
