/- Lz15: the reckoning as rewrite rules over what is still to do (a list of frames). -/
import Derived.Test.YtakkdadfikcpoaaDoorLz14
namespace Go.Lz
set_option linter.unusedVariables false
set_option linter.unusedSimpArgs false

def rhoL (t : List (Nat × V)) : Operand → V
  | .tmp i => look t i
  | .const v => V.ofV v
  | .func f => .one (.fn f [])
  | .global _ => .un
theorem rho_eq (t : List (Nat × V)) (H : List O) : (⟨t, H⟩ : St).ρ = rhoL t := by funext x; cases x <;> rfl
theorem rhoL_tmp {t : List (Nat × V)} {i : Nat} : rhoL t (.tmp i) = look t i := of_eq_true (eq_self (look t i))
theorem rhoL_const {t : List (Nat × V)} {v : Value} : rhoL t (.const v) = V.ofV v := of_eq_true (eq_self (V.ofV v))
theorem rhoL_func {t : List (Nat × V)} {f : FuncId} : rhoL t (.func f) = .one (.fn f []) := of_eq_true (eq_self (V.one (C.fn f [])))
theorem look_hd {k : Nat} {v : V} {r : List (Nat × V)} : look ((k, v) :: r) k = v := by simp [look]
theorem look_tl {k i : Nat} {v : V} {r : List (Nat × V)} (h : k ≠ i) : look ((k, v) :: r) i = look r i := by simp [look, h]
theorem look_if {k i : Nat} {v : V} {r : List (Nat × V)} : look ((k, v) :: r) i = if k = i then v else look r i := rfl

/-- What is still to do. -/
inductive Fr where
  | code (c : Code)
  | blk (id : Nat)
  | scp (c : Code)
  | ops (all : Array Oper) (rest : List Oper)
  | draw (all : Array Oper) (rest : List Oper) (N : List Fo)
  | flo (S Fl FE : List Nat) (k : Nat) (rest : List Oper)

def qF (P : Program) (n : Cf) (Q : Ex → St → Prop) : List Fr → Ex → St → Prop
  | [] => Q
  | .code c :: F => thenQ (fun st => awp P n c st (qF P n Q F)) (qF P n Q F)
  | .blk id :: F => blockQ id (qF P n Q F)
  | .scp c :: F => gotoQ P n c (qF P n Q F)
  | .ops all rest :: F => thenQ (fun st => awpOps P all rest st (qF P n Q F .normal)) (qF P n Q F)
  | .draw all rest N :: F => thenQ (fun st => awpDraw P all rest N st (qF P n Q F .normal)) (qF P n Q F)
  | .flo S Fl FE k rest :: F => thenQ (fun st => awpF P S Fl FE k rest st (qF P n Q F .normal)) (qF P n Q F)

def awpS (P : Program) (n : Cf) (F : List Fr) (st : St) (Q : Ex → St → Prop) : Prop := qF P n Q F .normal st
def exitS (P : Program) (n : Cf) (id : Nat) (F : List Fr) (st : St) (Q : Ex → St → Prop) : Prop := qF P n Q F (.exit id) st
def LoopS (P : Program) (n : Cf) (c : Code) (F : List Fr) (st : St) (Q : Ex → St → Prop) : Prop := LoopSem P n c st (qF P n Q F)

theorem awp_of_S {P : Program} {n : Cf} {c : Code} {st : St} {Q : Ex → St → Prop} (h : awpS P n [.code c] st Q) : awp P n c st Q := h

section
variable {P : Program} {n : Cf} {F : List Fr} {st : St} {Q : Ex → St → Prop}

theorem s_nil : awpS P n [] st Q = Q .normal st := rfl
theorem s_skip : awpS P n (.code .skip :: F) st Q = awpS P n F st Q := rfl
theorem s_label {l : Nat} : awpS P n (.code (.label l) :: F) st Q = awpS P n F st Q := rfl
theorem s_seq {a b : Code} : awpS P n (.code (.seq a b) :: F) st Q = awpS P n (.code a :: .code b :: F) st Q := rfl
theorem s_block {id : Nat} {c : Code} : awpS P n (.code (.block id c) :: F) st Q = awpS P n (.code c :: .blk id :: F) st Q := rfl
theorem s_scope {c : Code} : awpS P n (.code (.scope c) :: F) st Q = awpS P n (.code c :: .scp c :: F) st Q := rfl
theorem s_scp {c : Code} : awpS P n (.scp c :: F) st Q = awpS P n F st Q := rfl
theorem s_loop {c : Code} : awpS P n (.code (.loop c) :: F) st Q = LoopS P n c F st Q := rfl
theorem s_blk {id : Nat} : awpS P n (.blk id :: F) st Q = awpS P n F st Q := rfl
def gotoS (P : Program) (n : Cf) (l : Nat) (F : List Fr) (st : St) (Q : Ex → St → Prop) : Prop := qF P n Q F (.goto l) st
/-- A jump to label l of the scope c. -/
def ScopeS (P : Program) (n : Cf) (l : Nat) (c : Code) (F : List Fr) (st : St) (Q : Ex → St → Prop) : Prop := gotoQ P n c (qF P n Q F) (.goto l) st
theorem s_goto {l : Nat} : awpS P n (.code (.goto l) :: F) st Q = gotoS P n l F st Q := rfl
theorem j_nil {l : Nat} : gotoS P n l [] st Q = Q (.goto l) st := rfl
theorem j_code {l : Nat} {c : Code} : gotoS P n l (.code c :: F) st Q = gotoS P n l F st Q := rfl
theorem j_ops {l : Nat} {all : Array Oper} {rest : List Oper} : gotoS P n l (.ops all rest :: F) st Q = gotoS P n l F st Q := rfl
theorem j_draw {l : Nat} {all : Array Oper} {rest : List Oper} {N : List Fo} : gotoS P n l (.draw all rest N :: F) st Q = gotoS P n l F st Q := rfl
theorem j_flo {l k : Nat} {rest : List Oper} {S Fl FE : List Nat} : gotoS P n l (.flo S Fl FE k rest :: F) st Q = gotoS P n l F st Q := rfl
theorem j_blk {l id : Nat} : gotoS P n l (.blk id :: F) st Q = gotoS P n l F st Q := rfl
theorem j_scp {l : Nat} {c : Code} : gotoS P n l (.scp c :: F) st Q = ScopeS P n l c F st Q := rfl
theorem s_exit {id : Nat} : awpS P n (.code (.exit id) :: F) st Q = exitS P n id F st Q := rfl
theorem qF_ret : ∀ (F : List Fr), qF P n Q F .ret = Q .ret
  | [] => rfl
  | .code _ :: F => by funext st; simp only [qF, thenQ]; rw [qF_ret F]
  | .blk _ :: F => by funext st; simp only [qF, blockQ]; rw [qF_ret F]
  | .scp _ :: F => by funext st; simp only [qF, gotoQ]; rw [qF_ret F]
  | .ops _ _ :: F => by funext st; simp only [qF, thenQ]; rw [qF_ret F]
  | .draw _ _ _ :: F => by funext st; simp only [qF, thenQ]; rw [qF_ret F]
  | .flo _ _ _ _ _ :: F => by funext st; simp only [qF, thenQ]; rw [qF_ret F]
theorem s_ret : awpS P n (.code .ret :: F) st Q = Q .ret st := by
  show qF P n Q F .ret st = _
  rw [qF_ret]
theorem x_nil {id : Nat} : exitS P n id [] st Q = Q (.exit id) st := rfl
theorem x_scp {id : Nat} {c : Code} : exitS P n id (.scp c :: F) st Q = exitS P n id F st Q := rfl
theorem x_code {id : Nat} {c : Code} : exitS P n id (.code c :: F) st Q = exitS P n id F st Q := rfl
theorem x_ops {id : Nat} {all : Array Oper} {rest : List Oper} : exitS P n id (.ops all rest :: F) st Q = exitS P n id F st Q := rfl
theorem x_draw {id : Nat} {all : Array Oper} {rest : List Oper} {N : List Fo} : exitS P n id (.draw all rest N :: F) st Q = exitS P n id F st Q := rfl
theorem x_flo {id k : Nat} {rest : List Oper} {S Fl FE : List Nat} : exitS P n id (.flo S Fl FE k rest :: F) st Q = exitS P n id F st Q := rfl
theorem x_blk {id i : Nat} : exitS P n id (.blk i :: F) st Q = if id = i then awpS P n F st Q else exitS P n id F st Q := rfl
theorem s_region {id : Nat} {ops : Array Oper} : awpS P n (.code (.region id ops false) :: F) st Q = awpS P n (.ops ops ops.toList :: F) st Q := rfl
theorem s_draw {id : Nat} {ops : Array Oper} (h : floatAt ops = false) : awpS P n (.code (.region id ops true) :: F) st Q = (P.follows .mixedOrders = true ∧ drawB ops = true ∧ awpS P n (.draw ops ops.toList [] :: F) st Q) := by
  simp only [awpS, qF, thenQ, awp, h]
theorem s_flo {id : Nat} {ops : Array Oper} (h : floatAt ops = true) : awpS P n (.code (.region id ops true) :: F) st Q = (P.follows .mixedOrders = true ∧ drawB ops = true ∧ floB ops = true ∧ ∃ S Fl FE, floL ops Fl FE = true ∧ awpS P n (.flo S Fl FE 0 ops.toList :: F) st Q) := by
  simp only [awpS, qF, thenQ, awp, h]

def condS (c : V) (X Y : Prop) : Prop := condK c X Y
theorem s_cond {c : Operand} {x y : Code} {t : List (Nat × V)} {H : List O} : awpS P n (.code (.cond c x y) :: F) ⟨t, H⟩ Q = condS (rhoL t c) (awpS P n (.code x :: F) ⟨t, H⟩ Q) (awpS P n (.code y :: F) ⟨t, H⟩ Q) := by
  show condK _ _ _ = condK _ _ _
  rw [rho_eq]
  rfl
theorem condS_congr {c c' : V} {X Y : Prop} (h : c = c') : condS c X Y = condS c' X Y := by rw [h]
attribute [congr] condS_congr
theorem q_cond {b : Bool} {X Y : Prop} : condS (.one (.bool b)) X Y = ((b = true → X) ∧ (b = false → Y)) := rfl
theorem q_condT {X Y : Prop} : condS (.one (.bool true)) X Y = X := by simp [condS, condK]
theorem q_condF {X Y : Prop} : condS (.one (.bool false)) X Y = Y := by simp [condS, condK]

theorem o_nil {all : Array Oper} : awpS P n (.ops all [] :: F) st Q = awpS P n F st Q := rfl

/-- Behind an operation. -/
def stepS (P : Program) (n : Cf) (r : R) (d : Option Nat) (all : Array Oper) (rest : List Oper) (F : List Fr) (t : List (Nat × V)) (Q : Ex → St → Prop) : Prop :=
  r.pre ∧ (r.fact → awpS P n (.ops all rest :: F) (St.put ⟨t, r.h⟩ d r.v r.h) Q)
theorem st_mk {p f : Prop} {v : V} {h : List O} {d : Nat} {all : Array Oper} {rest : List Oper} {t : List (Nat × V)} : stepS P n ⟨p, f, v, h⟩ (some d) all rest F t Q = (p ∧ (f → awpS P n (.ops all rest :: F) ⟨(d, v) :: t, h⟩ Q)) := rfl
theorem st_t {p : Prop} {v : V} {h : List O} {d : Nat} {all : Array Oper} {rest : List Oper} {t : List (Nat × V)} : stepS P n ⟨p, True, v, h⟩ (some d) all rest F t Q = (p ∧ awpS P n (.ops all rest :: F) ⟨(d, v) :: t, h⟩ Q) := by simp [stepS, St.put]
theorem st_ok {v : V} {h : List O} {d : Nat} {all : Array Oper} {rest : List Oper} {t : List (Nat × V)} : stepS P n (R.ok v h) (some d) all rest F t Q = awpS P n (.ops all rest :: F) ⟨(d, v) :: t, h⟩ Q := by simp [stepS, St.put, R.ok]
theorem st_mkN {p f : Prop} {v : V} {h : List O} {all : Array Oper} {rest : List Oper} {t : List (Nat × V)} : stepS P n ⟨p, f, v, h⟩ none all rest F t Q = (p ∧ (f → awpS P n (.ops all rest :: F) ⟨t, h⟩ Q)) := rfl
theorem st_tN {p : Prop} {v : V} {h : List O} {all : Array Oper} {rest : List Oper} {t : List (Nat × V)} : stepS P n ⟨p, True, v, h⟩ none all rest F t Q = (p ∧ awpS P n (.ops all rest :: F) ⟨t, h⟩ Q) := by simp [stepS, St.put]
theorem st_okN {v : V} {h : List O} {all : Array Oper} {rest : List Oper} {t : List (Nat × V)} : stepS P n (R.ok v h) none all rest F t Q = awpS P n (.ops all rest :: F) ⟨t, h⟩ Q := by simp [stepS, St.put, R.ok]

/-- A call of a function value, and what is behind it. -/
def callS (P : Program) (n : Cf) (f : V) (args : List V) (H : List O) (d : Option Nat) (all : Array Oper) (rest : List Oper) (F : List Fr) (t : List (Nat × V)) (Q : Ex → St → Prop) : Prop :=
  match f with
  | .one (.fn g cap) => Ct P g (args ++ cap.map V.one) H fun v H' => awpS P n (.ops all rest :: F) (St.put ⟨t, H'⟩ d v H') Q
  | _ => False
/-- A call of function g with these arguments. -/
def CtS (P : Program) (n : Cf) (g : FuncId) (args : List V) (H : List O) (d : Option Nat) (all : Array Oper) (rest : List Oper) (F : List Fr) (t : List (Nat × V)) (Q : Ex → St → Prop) : Prop :=
  Ct P g args H fun v H' => awpS P n (.ops all rest :: F) (St.put ⟨t, H'⟩ d v H') Q
theorem callS_fn {g : FuncId} {cap : List C} {args : List V} {H : List O} {d : Option Nat} {all : Array Oper} {rest : List Oper} {t : List (Nat × V)} : callS P n (.one (.fn g cap)) args H d all rest F t Q = CtS P n g (args ++ cap.map V.one) H d all rest F t Q := rfl

def Op.fnOf : Op → Option (Operand × Array Operand)
  | .call ⟨.value f, args, _⟩ => some (f, args)
  | .call ⟨.invoke _ _, _, _⟩ => none
  | .call ⟨.builtin _, _, _⟩ => none
  | .move _ => none
  | .assign _ => none
  | .pick _ _ _ => none
  | .alloc _ => none
  | .box _ _ => none
  | .build _ _ => none
  | .buildSlice _ _ _ => none
  | .insert _ _ _ _ => none
  | .load _ _ => none
  | .store _ _ _ => none
  | .ready _ => none
  | .waits _ => none
  | .nilCheck _ => none
  | .binOp _ _ _ _ _ => none
  | .unOp _ _ _ => none
  | .convert _ _ _ => none
  | .sliceToArrayPointer _ _ => none
  | .makeInterface _ _ => none
  | .makeFunc _ _ _ => none
  | .makeMap _ _ => none
  | .makeChan _ _ => none
  | .makeSlice _ _ _ => none
  | .slice _ _ _ _ _ => none
  | .fieldAddr _ _ _ => none
  | .field _ _ _ => none
  | .indexAddr _ _ _ => none
  | .index _ _ _ => none
  | .lookup _ _ _ _ => none
  | .mapUpdate _ _ _ _ => none
  | .mapEntry _ _ _ => none
  | .entryStore _ _ _ _ => none
  | .range _ _ => none
  | .next _ _ => none
  | .entry _ => none
  | .typeAssert _ _ _ _ => none
  | .extract _ _ => none
  | .go _ => none
  | .defer _ => none
  | .panic _ => none
  | .send _ _ => none
  | .recv _ _ _ => none
  | .select _ _ => none

def opS (P : Program) (n : Cf) (d : Option Nat) (pos : String) (op : Op) (t : List (Nat × V)) (H : List O) (all : Array Oper) (rest : List Oper) (F : List Fr) (Q : Ex → St → Prop) : Prop :=
  match Op.fnOf op with
  | some (f, args) => callS P n (rhoL t f) (args.toList.map (rhoL t)) H d all rest F t Q
  | none => stepS P n (stepF P pos op (rhoL t) H) d all rest F t Q

theorem awpOp_eq {d : Option Nat} {op : Op} {ty : TypeId} {pos : String} {aft : Array Edge} {g : Option (Nat × Bool)} {t : List (Nat × V)} {H : List O} {all : Array Oper} {rest : List Oper} :
    awpOp P ⟨d, op, ty, pos, aft, g⟩ ⟨t, H⟩ (fun st' => awpOps P all rest st' (qF P n Q F .normal)) = opS P n d pos op t H all rest F Q := by
  unfold awpOp opS
  split
  · rename_i f args ats h0
    simp only at h0
    subst h0
    simp only [Op.fnOf, callS, rho_eq]
    split <;> simp_all [St.put, awpS, qF, thenQ] <;> rfl
  · rename_i h0
    have : Op.fnOf op = none := by
      cases op with
      | call c =>
        obtain ⟨cl, args, ats⟩ := c
        cases cl with
        | value f => exact (h0 f args ats rfl).elim
        | invoke r m => rfl
        | builtin b => rfl
      | _ => rfl
    rw [this, rho_eq]
    rfl

theorem o_cons {all : Array Oper} {d : Option Nat} {op : Op} {ty : TypeId} {pos : String} {aft : Array Edge} {rest : List Oper} {t : List (Nat × V)} {H : List O} :
    awpS P n (.ops all (⟨d, op, ty, pos, aft, none⟩ :: rest) :: F) ⟨t, H⟩ Q = opS P n d pos op t H all rest F Q := by
  rw [← awpOp_eq (ty := ty) (pos := pos) (aft := aft) (g := none)]
  rfl

def gdst (all : Array Oper) (j : Nat) : Nat := ((all[j]?).bind (·.dst)).getD 0
def gval (all : Array Oper) (j : Nat) (t : List (Nat × V)) : Option V := ((all[j]?).bind (·.dst)).map (look t)

/-- An operation under a guard, its guard's value known as far as it is. -/
def guardS (P : Program) (n : Cf) (c : Option V) (g : Nat) (want : Bool) (d : Nat) (pos : String) (op : Op) (t : List (Nat × V)) (H : List O) (all : Array Oper) (rest : List Oper) (F : List Fr) (Q : Ex → St → Prop) : Prop :=
  match c with
  | some (.one (.bool b)) => (b = want → opS P n (some d) pos op ((g, .one (.bool want)) :: t) H all rest F Q) ∧ (b = (!want) → awpS P n (.ops all rest :: F) ⟨(d, .tup []) :: (g, .one (.bool (!want))) :: t, H⟩ Q)
  | some (.tup []) => awpS P n (.ops all rest :: F) ⟨(d, .tup []) :: t, H⟩ Q
  | _ => False
theorem o_guard {all : Array Oper} {d : Nat} {op : Op} {ty : TypeId} {pos : String} {aft : Array Edge} {j : Nat} {want : Bool} {rest : List Oper} {t : List (Nat × V)} {H : List O} :
    awpS P n (.ops all (⟨some d, op, ty, pos, aft, some (j, want)⟩ :: rest) :: F) ⟨t, H⟩ Q = guardS P n (gval all j t) (gdst all j) want d pos op t H all rest F Q := by
  simp only [awpS, qF, thenQ, awpOps, guarded2, gval, gdst, guardS]
  cases h : (all[j]?).bind (·.dst) with
  | none => simp
  | some g =>
    simp only [Option.map_some, Option.getD_some]
    cases look t g with
    | one c =>
      cases c with
      | bool b =>
        simp only
        rw [awpOp_eq]
        rfl
      | _ => rfl
    | tup l => cases l <;> rfl
    | _ => rfl
theorem g_un {want : Bool} {g d : Nat} {pos : String} {op : Op} {t : List (Nat × V)} {H : List O} {all : Array Oper} {rest : List Oper} : guardS P n (some (.tup [])) g want d pos op t H all rest F Q = awpS P n (.ops all rest :: F) ⟨(d, .tup []) :: t, H⟩ Q := rfl
theorem g_b {b want : Bool} {g d : Nat} {pos : String} {op : Op} {t : List (Nat × V)} {H : List O} {all : Array Oper} {rest : List Oper} : guardS P n (some (.one (.bool b))) g want d pos op t H all rest F Q =
    ((b = want → opS P n (some d) pos op ((g, .one (.bool want)) :: t) H all rest F Q) ∧ (b = (!want) → awpS P n (.ops all rest :: F) ⟨(d, .tup []) :: (g, .one (.bool (!want))) :: t, H⟩ Q)) := rfl
theorem g_same {b : Bool} {g d : Nat} {pos : String} {op : Op} {t : List (Nat × V)} {H : List O} {all : Array Oper} {rest : List Oper} (ht : look t g = .one (.bool b)) : True := trivial
theorem g_tt {g d : Nat} {pos : String} {op : Op} {t : List (Nat × V)} {H : List O} {all : Array Oper} {rest : List Oper} : guardS P n (some (.one (.bool true))) g true d pos op t H all rest F Q = opS P n (some d) pos op ((g, .one (.bool true)) :: t) H all rest F Q := by simp [guardS]
theorem g_ff {g d : Nat} {pos : String} {op : Op} {t : List (Nat × V)} {H : List O} {all : Array Oper} {rest : List Oper} : guardS P n (some (.one (.bool false))) g false d pos op t H all rest F Q = opS P n (some d) pos op ((g, .one (.bool false)) :: t) H all rest F Q := by simp [guardS]
theorem g_tf {g d : Nat} {pos : String} {op : Op} {t : List (Nat × V)} {H : List O} {all : Array Oper} {rest : List Oper} : guardS P n (some (.one (.bool true))) g false d pos op t H all rest F Q = awpS P n (.ops all rest :: F) ⟨(d, .tup []) :: (g, .one (.bool true)) :: t, H⟩ Q := by simp [guardS]
theorem g_ft {g d : Nat} {pos : String} {op : Op} {t : List (Nat × V)} {H : List O} {all : Array Oper} {rest : List Oper} : guardS P n (some (.one (.bool false))) g true d pos op t H all rest F Q = awpS P n (.ops all rest :: F) ⟨(d, .tup []) :: (g, .one (.bool false)) :: t, H⟩ Q := by simp [guardS]

/-! Regions that draw. -/
theorem d_nil {all : Array Oper} {N : List Fo} {t : List (Nat × V)} {H : List O} : awpS P n (.draw all [] N :: F) ⟨t, H⟩ Q = awpS P n F ⟨t, H ++ N.map Fo.o⟩ Q := rfl
def stepD (P : Program) (n : Cf) (r : R) (H : List O) (d : Option Nat) (all : Array Oper) (rest : List Oper) (N : List Fo) (F : List Fr) (t : List (Nat × V)) (Q : Ex → St → Prop) : Prop :=
  r.pre ∧ (r.fact → r.h = H ∧ awpS P n (.draw all rest N :: F) (St.put ⟨t, H⟩ d r.v H) Q)
theorem sd_mk {p f : Prop} {v : V} {h : List O} {d : Nat} {all : Array Oper} {rest : List Oper} {N : List Fo} {t : List (Nat × V)} : stepD P n ⟨p, f, v, h⟩ h (some d) all rest N F t Q = (p ∧ (f → awpS P n (.draw all rest N :: F) ⟨(d, v) :: t, h⟩ Q)) := by simp [stepD, St.put]
theorem sd_t {p : Prop} {v : V} {h : List O} {d : Nat} {all : Array Oper} {rest : List Oper} {N : List Fo} {t : List (Nat × V)} : stepD P n ⟨p, True, v, h⟩ h (some d) all rest N F t Q = (p ∧ awpS P n (.draw all rest N :: F) ⟨(d, v) :: t, h⟩ Q) := by simp [stepD, St.put]
theorem sd_ok {v : V} {h : List O} {d : Nat} {all : Array Oper} {rest : List Oper} {N : List Fo} {t : List (Nat × V)} : stepD P n (R.ok v h) h (some d) all rest N F t Q = awpS P n (.draw all rest N :: F) ⟨(d, v) :: t, h⟩ Q := by simp [stepD, St.put, R.ok]
/-- A call of function g in such a region. -/
def CtD (P : Program) (n : Cf) (g : FuncId) (args : List V) (H : List O) (d : Option Nat) (all : Array Oper) (rest : List Oper) (N : List Fo) (F : List Fr) (t : List (Nat × V)) (Q : Ex → St → Prop) : Prop :=
  ∃ x, Ct P g args H (fun v H' => v = x ∧ H' = H) ∧ awpS P n (.draw all rest N :: F) (St.put ⟨t, H⟩ d x H) Q
def callD (P : Program) (n : Cf) (f : V) (args : List V) (H : List O) (d : Option Nat) (all : Array Oper) (rest : List Oper) (N : List Fo) (F : List Fr) (t : List (Nat × V)) (Q : Ex → St → Prop) : Prop :=
  match f with
  | .one (.fn g cap) => CtD P n g (args ++ cap.map V.one) H d all rest N F t Q
  | _ => False
theorem callD_fn {g : FuncId} {cap : List C} {args : List V} {H : List O} {d : Option Nat} {all : Array Oper} {rest : List Oper} {N : List Fo} {t : List (Nat × V)} : callD P n (.one (.fn g cap)) args H d all rest N F t Q = CtD P n g (args ++ cap.map V.one) H d all rest N F t Q := rfl
def quietD (P : Program) (n : Cf) (d : Option Nat) (pos : String) (op : Op) (t : List (Nat × V)) (H : List O) (all : Array Oper) (rest : List Oper) (N : List Fo) (F : List Fr) (Q : Ex → St → Prop) : Prop :=
  match Op.fnOf op with
  | some (f, args) => callD P n (rhoL t f) (args.toList.map (rhoL t)) H d all rest N F t Q
  | none => stepD P n (stepF P pos op (rhoL t) H) H d all rest N F t Q
theorem put_h {t : List (Nat × V)} {H1 H2 H : List O} {d : Option Nat} {x : V} : St.put ⟨t, H1⟩ d x H = St.put ⟨t, H2⟩ d x H := by cases d <;> rfl
theorem awpQ_eq {d : Option Nat} {op : Op} {ty : TypeId} {pos : String} {aft : Array Edge} {g : Option (Nat × Bool)} {t : List (Nat × V)} {H : List O} {all : Array Oper} {rest : List Oper} {N : List Fo} :
    awpQ P ⟨d, op, ty, pos, aft, g⟩ ⟨t, H⟩ (fun st' => awpDraw P all rest N st' (qF P n Q F .normal)) = quietD P n d pos op t H all rest N F Q := by
  unfold awpQ quietD
  split
  · rename_i f args ats h0
    simp only at h0
    subst h0
    simp only [Op.fnOf, callD, CtD, rho_eq]
    split <;> simp_all [awpS, qF, thenQ] <;> rfl
  · rename_i h0
    have : Op.fnOf op = none := by
      cases op with
      | call c =>
        obtain ⟨cl, args, ats⟩ := c
        cases cl with
        | value f => exact (h0 f args ats rfl).elim
        | invoke r m => rfl
        | builtin b => rfl
      | _ => rfl
    rw [this, rho_eq]
    simp only [bindR, stepD]
    apply propext
    constructor
    · rintro ⟨h1, h2⟩; refine ⟨h1, fun hf => ?_⟩; obtain ⟨a, b⟩ := h2 hf; rw [a] at b; exact ⟨a, b⟩
    · rintro ⟨h1, h2⟩; refine ⟨h1, fun hf => ?_⟩; obtain ⟨a, b⟩ := h2 hf; rw [a]; exact ⟨rfl, b⟩
/-- The slots that an operation reads bear no new object. -/
def unmetO (op : Op) (N : List Fo) : Prop := N = [] ∨ unmet ⟨none, op, 0, "", #[], none⟩ N = true
theorem um_nil {op : Op} : unmetO op [] = True := by simp [unmetO]
theorem um_cons {op : Op} {x : Fo} {N : List Fo} : unmetO op (x :: N) = (unmet ⟨none, op, 0, "", #[], none⟩ (x :: N) = true) := by simp [unmetO]
theorem unmet_eq {d : Option Nat} {op : Op} {ty : TypeId} {pos : String} {aft : Array Edge} {g : Option (Nat × Bool)} {N : List Fo} : (unmet ⟨d, op, ty, pos, aft, g⟩ N = true) = unmetO op N := by
  unfold unmetO
  apply propext
  constructor
  · intro h; exact .inr h
  · rintro (rfl | h)
    · rfl
    · exact h

/-- New objects within such a region. -/
def freshL (P : Program) (d : Option Nat) (op : Op) (t : List (Nat × V)) (m : Nat) (N : List Fo) : Option (Prop × V × List Fo) :=
  match d, op with
  | some d, .alloc ty => match tZ P ty with
    | some z => match z.cs with
      | some cs => some (True, .one (.ref (m + N.length) 1 0 0), N ++ [⟨.cells 1 cs.length [cs], false, d⟩])
      | none => none
    | none => none
  | some d, .box _ x => match (rhoL t x).cs with
    | some cs => some (True, .one (.ref (m + N.length) 1 0 0), N ++ [⟨.cells 1 cs.length [cs], false, d⟩])
    | none => none
  | none, .store ty (.tmp s) x => match look t s, (rhoL t x).cs, tAg P ty with
    | .one (.ref id 1 0 off), some cs, some (_, n) => if m ≤ id then (match N[id - m]? with
      | some ⟨.cells 1 sz [row], false, d⟩ => some (d = s ∧ off + cs.length ≤ row.length ∧ cs.length = n, .un, N.set (id - m) ⟨.cells 1 sz [splice row off cs], true, d⟩)
      | _ => none) else none
    | _, _, _ => none
  | _, _ => none
theorem fresh_eq {d : Option Nat} {op : Op} {ty : TypeId} {pos : String} {aft : Array Edge} {t : List (Nat × V)} {H : List O} {N : List Fo} : freshV P ⟨d, op, ty, pos, aft, none⟩ ⟨t, H⟩ N = freshL P d op t H.length N := by
  unfold freshV freshL
  cases d <;> cases op <;> simp only [rho_eq] <;> try rfl
  rename_i ty a x
  cases a <;> rfl
theorem fresh_g {d : Option Nat} {op : Op} {ty : TypeId} {pos : String} {aft : Array Edge} {g : Nat × Bool} {st : St} {N : List Fo} : freshV P ⟨d, op, ty, pos, aft, some g⟩ st N = none := by
  unfold freshV; rfl

def freshS (P : Program) (n : Cf) (r : Option (Prop × V × List Fo)) (d : Option Nat) (pos : String) (op : Op) (t : List (Nat × V)) (H : List O) (all : Array Oper) (here rest : List Oper) (N : List Fo) (F : List Fr) (Q : Ex → St → Prop) : Prop :=
  match r with
  | some (p, v, N') => p ∧ awpS P n (.draw all rest N' :: F) (St.put ⟨t, H⟩ d v H) Q
  | none => match effT pos op with
    | true => tailP P all (all.size - here.length) t ∧ awpS P n (.ops all here :: F) ⟨t, H ++ N.map Fo.o⟩ Q
    | false => unmetO op N ∧ quietD P n d pos op t H all rest N F Q
theorem fs_some {p : Prop} {v : V} {N N' : List Fo} {d : Nat} {pos : String} {op : Op} {t : List (Nat × V)} {H : List O} {all : Array Oper} {here rest : List Oper} : freshS P n (some (p, v, N')) (some d) pos op t H all here rest N F Q = (p ∧ awpS P n (.draw all rest N' :: F) ⟨(d, v) :: t, H⟩ Q) := rfl
theorem fs_someN {p : Prop} {v : V} {N N' : List Fo} {pos : String} {op : Op} {t : List (Nat × V)} {H : List O} {all : Array Oper} {here rest : List Oper} : freshS P n (some (p, v, N')) none pos op t H all here rest N F Q = (p ∧ awpS P n (.draw all rest N' :: F) ⟨t, H⟩ Q) := rfl
theorem fs_none {N : List Fo} {d : Option Nat} {pos : String} {op : Op} {t : List (Nat × V)} {H : List O} {all : Array Oper} {here rest : List Oper} : freshS P n none d pos op t H all here rest N F Q = (match effT pos op with
    | true => tailP P all (all.size - here.length) t ∧ awpS P n (.ops all here :: F) ⟨t, H ++ N.map Fo.o⟩ Q
    | false => unmetO op N ∧ quietD P n d pos op t H all rest N F Q) := rfl
theorem d_cons {all : Array Oper} {d : Option Nat} {op : Op} {ty : TypeId} {pos : String} {aft : Array Edge} {rest : List Oper} {N : List Fo} {t : List (Nat × V)} {H : List O} :
    awpS P n (.draw all (⟨d, op, ty, pos, aft, none⟩ :: rest) N :: F) ⟨t, H⟩ Q = freshS P n (freshL P d op t H.length N) d pos op t H all (⟨d, op, ty, pos, aft, none⟩ :: rest) rest N F Q := by
  show awpDraw P all _ N _ _ = _
  rw [awpDraw, fresh_eq]
  cases freshL P d op t H.length N with
  | some r => obtain ⟨p, v, N'⟩ := r; rfl
  | none =>
    rw [fs_none]
    simp only
    cases effT pos op with
    | true => rfl
    | false => simp only [unmet_eq]; rw [← awpQ_eq (ty := ty) (aft := aft) (g := none)]; rfl
def guardD (P : Program) (n : Cf) (c : Option V) (g : Nat) (want : Bool) (d : Nat) (pos : String) (op : Op) (t : List (Nat × V)) (H : List O) (all : Array Oper) (rest : List Oper) (N : List Fo) (F : List Fr) (Q : Ex → St → Prop) : Prop :=
  match c with
  | some (.one (.bool b)) => (b = want → quietD P n (some d) pos op ((g, .one (.bool want)) :: t) H all rest N F Q) ∧ (b = (!want) → awpS P n (.draw all rest N :: F) ⟨(d, .tup []) :: (g, .one (.bool (!want))) :: t, H⟩ Q)
  | some (.tup []) => awpS P n (.draw all rest N :: F) ⟨(d, .tup []) :: t, H⟩ Q
  | _ => False
/-- An operation under a guard. -/
def guardE (P : Program) (n : Cf) (e : Bool) (c : Option V) (g : Nat) (want : Bool) (d : Nat) (pos : String) (op : Op) (t : List (Nat × V)) (H : List O) (all : Array Oper) (here rest : List Oper) (N : List Fo) (F : List Fr) (Q : Ex → St → Prop) : Prop :=
  match e with
  | true => tailP P all (all.size - here.length) t ∧ awpS P n (.ops all here :: F) ⟨t, H ++ N.map Fo.o⟩ Q
  | false => unmetO op N ∧ guardD P n c g want d pos op t H all rest N F Q
theorem d_guard {all : Array Oper} {d : Nat} {op : Op} {ty : TypeId} {pos : String} {aft : Array Edge} {j : Nat} {want : Bool} {rest : List Oper} {N : List Fo} {t : List (Nat × V)} {H : List O} :
    awpS P n (.draw all (⟨some d, op, ty, pos, aft, some (j, want)⟩ :: rest) N :: F) ⟨t, H⟩ Q = guardE P n (effT pos op) (gval all j t) (gdst all j) want d pos op t H all (⟨some d, op, ty, pos, aft, some (j, want)⟩ :: rest) rest N F Q := by
  show awpDraw P all _ N _ _ = _
  rw [awpDraw, fresh_g]
  simp only [guardE]
  cases effT pos op with
  | true => rfl
  | false =>
    simp only [unmet_eq, awpS, qF, thenQ, guarded2, gval, gdst, guardD]
    cases h : (all[j]?).bind (·.dst) with
    | none => simp
    | some g =>
      simp only [Option.map_some, Option.getD_some]
      cases look t g with
      | one c =>
        cases c with
        | bool b =>
          simp only
          rw [awpQ_eq]
          rfl
        | _ => rfl
      | tup l => cases l <;> rfl
      | _ => rfl
theorem gd_un {want : Bool} {g d : Nat} {pos : String} {op : Op} {t : List (Nat × V)} {H : List O} {all : Array Oper} {rest : List Oper} {N : List Fo} : guardD P n (some (.tup [])) g want d pos op t H all rest N F Q = awpS P n (.draw all rest N :: F) ⟨(d, .tup []) :: t, H⟩ Q := rfl
theorem gd_b {b want : Bool} {g d : Nat} {pos : String} {op : Op} {t : List (Nat × V)} {H : List O} {all : Array Oper} {rest : List Oper} {N : List Fo} : guardD P n (some (.one (.bool b))) g want d pos op t H all rest N F Q =
    ((b = want → quietD P n (some d) pos op ((g, .one (.bool want)) :: t) H all rest N F Q) ∧ (b = (!want) → awpS P n (.draw all rest N :: F) ⟨(d, .tup []) :: (g, .one (.bool (!want))) :: t, H⟩ Q)) := rfl
theorem gd_tt {g d : Nat} {pos : String} {op : Op} {t : List (Nat × V)} {H : List O} {all : Array Oper} {rest : List Oper} {N : List Fo} : guardD P n (some (.one (.bool true))) g true d pos op t H all rest N F Q = quietD P n (some d) pos op ((g, .one (.bool true)) :: t) H all rest N F Q := by simp [guardD]
theorem gd_ff {g d : Nat} {pos : String} {op : Op} {t : List (Nat × V)} {H : List O} {all : Array Oper} {rest : List Oper} {N : List Fo} : guardD P n (some (.one (.bool false))) g false d pos op t H all rest N F Q = quietD P n (some d) pos op ((g, .one (.bool false)) :: t) H all rest N F Q := by simp [guardD]
theorem gd_tf {g d : Nat} {pos : String} {op : Op} {t : List (Nat × V)} {H : List O} {all : Array Oper} {rest : List Oper} {N : List Fo} : guardD P n (some (.one (.bool true))) g false d pos op t H all rest N F Q = awpS P n (.draw all rest N :: F) ⟨(d, .tup []) :: (g, .one (.bool true)) :: t, H⟩ Q := by simp [guardD]
theorem gd_ft {g d : Nat} {pos : String} {op : Op} {t : List (Nat × V)} {H : List O} {all : Array Oper} {rest : List Oper} {N : List Fo} : guardD P n (some (.one (.bool false))) g true d pos op t H all rest N F Q = awpS P n (.draw all rest N :: F) ⟨(d, .tup []) :: (g, .one (.bool false)) :: t, H⟩ Q := by simp [guardD]

/-! Regions in which calls turn objects. -/
theorem f_nil {S Fl FE : List Nat} {k : Nat} : awpS P n (.flo S Fl FE k [] :: F) st Q = awpS P n F st Q := rfl
/-- A free operation comes to the same at any time. -/
def flS (P : Program) (b : Bool) (pos : String) (op : Op) (t : List (Nat × V)) (H : List O) (S : List Nat) : Prop := match b with
  | true => stableQ P pos op (rhoL t) H S
  | false => True
def flA (b : Bool) (S : List Nat) (H H1 : List O) : Prop := match b with
  | true => agree S H H1
  | false => True
theorem flS_f {pos : String} {op : Op} {t : List (Nat × V)} {H : List O} {S : List Nat} : flS P false pos op t H S = True := rfl
theorem flA_f {S : List Nat} {H H1 : List O} : flA false S H H1 = True := rfl
theorem flA_t {S : List Nat} {H H1 : List O} : flA true S H H1 = agree S H H1 := rfl
theorem agree_n {H H1 : List O} : agree [] H H1 = True := by simp [agree]
theorem agree_c {i : Nat} {S : List Nat} {H H1 : List O} : agree (i :: S) H H1 = (H1[i]? = H[i]? ∧ agree S H H1) := by simp [agree]
def qStepF (P : Program) (n : Cf) (r : R) (H : List O) (fl : Prop) (d : Option Nat) (S Fl FE : List Nat) (k : Nat) (rest : List Oper) (F : List Fr) (t : List (Nat × V)) (Q : Ex → St → Prop) : Prop :=
  r.pre ∧ r.h = H ∧ fl ∧ awpS P n (.flo S Fl FE (k + 1) rest :: F) (St.put ⟨t, H⟩ d r.v H) Q
theorem qf_mk {p f fl : Prop} {v : V} {h : List O} {d : Nat} {S Fl FE : List Nat} {k : Nat} {rest : List Oper} {t : List (Nat × V)} : qStepF P n ⟨p, f, v, h⟩ h fl (some d) S Fl FE k rest F t Q = (p ∧ fl ∧ awpS P n (.flo S Fl FE (k + 1) rest :: F) ⟨(d, v) :: t, h⟩ Q) := by simp [qStepF, St.put]
theorem qf_ok {fl : Prop} {v : V} {h : List O} {d : Nat} {S Fl FE : List Nat} {k : Nat} {rest : List Oper} {t : List (Nat × V)} : qStepF P n (R.ok v h) h fl (some d) S Fl FE k rest F t Q = (fl ∧ awpS P n (.flo S Fl FE (k + 1) rest :: F) ⟨(d, v) :: t, h⟩ Q) := by simp [qStepF, St.put, R.ok]
def eStepF (P : Program) (n : Cf) (r : R) (H : List O) (d : Option Nat) (S Fl FE : List Nat) (k : Nat) (rest : List Oper) (F : List Fr) (t : List (Nat × V)) (Q : Ex → St → Prop) : Prop :=
  r.pre ∧ flA (FE.contains k) S H r.h ∧ awpS P n (.flo S Fl FE (k + 1) rest :: F) (St.put ⟨t, H⟩ d r.v r.h) Q
theorem ef_mk {p f : Prop} {v : V} {h H : List O} {d : Nat} {S Fl FE : List Nat} {k : Nat} {rest : List Oper} {t : List (Nat × V)} : eStepF P n ⟨p, f, v, h⟩ H (some d) S Fl FE k rest F t Q = (p ∧ flA (FE.contains k) S H h ∧ awpS P n (.flo S Fl FE (k + 1) rest :: F) ⟨(d, v) :: t, h⟩ Q) := by simp [eStepF, St.put]
theorem ef_mkN {p f : Prop} {v : V} {h H : List O} {S Fl FE : List Nat} {k : Nat} {rest : List Oper} {t : List (Nat × V)} : eStepF P n ⟨p, f, v, h⟩ H none S Fl FE k rest F t Q = (p ∧ flA (FE.contains k) S H h ∧ awpS P n (.flo S Fl FE (k + 1) rest :: F) ⟨t, h⟩ Q) := by simp [eStepF, St.put]
theorem ef_ok {v : V} {h H : List O} {d : Nat} {S Fl FE : List Nat} {k : Nat} {rest : List Oper} {t : List (Nat × V)} : eStepF P n (R.ok v h) H (some d) S Fl FE k rest F t Q = (flA (FE.contains k) S H h ∧ awpS P n (.flo S Fl FE (k + 1) rest :: F) ⟨(d, v) :: t, h⟩ Q) := by simp [eStepF, St.put, R.ok]
theorem ef_okN {v : V} {h H : List O} {S Fl FE : List Nat} {k : Nat} {rest : List Oper} {t : List (Nat × V)} : eStepF P n (R.ok v h) H none S Fl FE k rest F t Q = (flA (FE.contains k) S H h ∧ awpS P n (.flo S Fl FE (k + 1) rest :: F) ⟨t, h⟩ Q) := by simp [eStepF, St.put, R.ok]
/-- A call in such a region. -/
def CtF (P : Program) (n : Cf) (g : FuncId) (args : List V) (H : List O) (d : Option Nat) (S Fl FE : List Nat) (k : Nat) (rest : List Oper) (F : List Fr) (t : List (Nat × V)) (Q : Ex → St → Prop) : Prop :=
  ∃ x H1, Ct P g args H (fun v H' => v = x ∧ H' = H1) ∧ flA (FE.contains k) S H H1 ∧ awpS P n (.flo S Fl FE (k + 1) rest :: F) (St.put ⟨t, H⟩ d x H1) Q
def callF (P : Program) (n : Cf) (f : V) (args : List V) (H : List O) (d : Option Nat) (S Fl FE : List Nat) (k : Nat) (rest : List Oper) (F : List Fr) (t : List (Nat × V)) (Q : Ex → St → Prop) : Prop :=
  match f with
  | .one (.fn g cap) => CtF P n g (args ++ cap.map V.one) H d S Fl FE k rest F t Q
  | _ => False
theorem callF_fn {g : FuncId} {cap : List C} {args : List V} {H : List O} {d : Option Nat} {S Fl FE : List Nat} {k : Nat} {rest : List Oper} {t : List (Nat × V)} : callF P n (.one (.fn g cap)) args H d S Fl FE k rest F t Q = CtF P n g (args ++ cap.map V.one) H d S Fl FE k rest F t Q := rfl
def floStep (P : Program) (n : Cf) (e : Bool) (fo : Option (Operand × Array Operand)) (d : Option Nat) (pos : String) (op : Op) (t : List (Nat × V)) (H : List O) (S Fl FE : List Nat) (k : Nat) (rest : List Oper) (F : List Fr) (Q : Ex → St → Prop) : Prop :=
  match e with
  | true => match fo with
    | some (f, args) => callF P n (rhoL t f) (args.toList.map (rhoL t)) H d S Fl FE k rest F t Q
    | none => eStepF P n (stepF P pos op (rhoL t) H) H d S Fl FE k rest F t Q
  | false => qStepF P n (stepF P pos op (rhoL t) H) H (flS P (Fl.contains k) pos op t H S) d S Fl FE k rest F t Q
theorem isUser_eq (op : Op) : isUser op = (Op.fnOf op).isSome := by
  cases op with
  | call c =>
    obtain ⟨cl, args, ats⟩ := c
    cases cl <;> rfl
  | _ => rfl
theorem flS_eq {b : Bool} {pos : String} {op : Op} {t : List (Nat × V)} {H : List O} {S : List Nat} : (b = true → stableQ P pos op (rhoL t) H S) = flS P b pos op t H S := by cases b <;> simp [flS]
theorem flA_eq {b : Bool} {S : List Nat} {H H1 : List O} : (b = true → agree S H H1) = flA b S H H1 := by cases b <;> simp [flA]
theorem f_cons {S Fl FE : List Nat} {k : Nat} {d : Option Nat} {op : Op} {ty : TypeId} {pos : String} {aft : Array Edge} {rest : List Oper} {t : List (Nat × V)} {H : List O} :
    awpS P n (.flo S Fl FE k (⟨d, op, ty, pos, aft, none⟩ :: rest) :: F) ⟨t, H⟩ Q = floStep P n (effO op || (Op.fnOf op).isSome) (Op.fnOf op) d pos op t H S Fl FE k rest F Q := by
  show awpF P S Fl FE k _ _ _ = _
  rw [awpF]
  simp only [effF, isUser_eq, floStep, rho_eq, flS_eq, flA_eq]
  cases he : (effO op || (Op.fnOf op).isSome) with
  | false => rfl
  | true =>
    simp only
    split
    · rename_i f args ats
      simp only [Op.fnOf, callF]
      split
      · rename_i hf; rw [hf]; rfl
      · rename_i hf
        split
        · rename_i hf2; exact (hf _ _ hf2).elim
        · rfl
    · rename_i h0
      have : Op.fnOf op = none := by
        cases op with
        | call c =>
          obtain ⟨cl, args, ats⟩ := c
          cases cl with
          | value f => exact (h0 f args ats rfl).elim
          | invoke r m => rfl
          | builtin b => rfl
        | _ => rfl
      rw [this]
      rfl

/-! The end. -/
theorem q_end {rs : List ResultVar} {K : V → List O → Prop} : endK P rs K .normal st = resK P rs st K := rfl
theorem q_endR {rs : List ResultVar} {K : V → List O → Prop} : endK P rs K .ret st = resK P rs st K := rfl
theorem r_one {i : Nat} {t : List (Nat × V)} {H : List O} {K : V → List O → Prop} : resK P [.tmp i] ⟨t, H⟩ K = K (look t i) H := by simp [resK, resOf]
theorem r_none {t : List (Nat × V)} {H : List O} {K : V → List O → Prop} : resK P [] ⟨t, H⟩ K = K (.tup []) H := by simp [resK]
theorem r_two {i j : Nat} {t : List (Nat × V)} {H : List O} {K : V → List O → Prop} : resK P [.tmp i, .tmp j] ⟨t, H⟩ K = K (.tup [look t i, look t j]) H := by simp [resK, resOf]
theorem r_three {i j k : Nat} {t : List (Nat × V)} {H : List O} {K : V → List O → Prop} : resK P [.tmp i, .tmp j, .tmp k] ⟨t, H⟩ K = K (.tup [look t i, look t j, look t k]) H := by simp [resK, resOf]

/-! Calls of functions that only compute; loops. -/
theorem call_S {f : FuncId} {args args' : List V} {H : List O} {d : Nat} {all : Array Oper} {rest : List Oper} {t : List (Nat × V)} {x : V} (h : Pu P f args' x) (ha : args.map (V.view H) = args') (hl : ltVs 0 args' = true) (hx : x.lt 0 = true)
    (hb : args.all (fun a => !a.own) = true ∨ x.scalar = true) (hk : awpS P n (.ops all rest :: F) ⟨(d, x) :: t, H⟩ Q) : CtS P n f args H (some d) all rest F t Q := call_pure h ha hl hx hb hk
theorem call_D {f : FuncId} {args args' : List V} {H : List O} {d : Nat} {all : Array Oper} {rest : List Oper} {N : List Fo} {t : List (Nat × V)} {x : V} (h : Pu P f args' x) (ha : args.map (V.view H) = args') (hl : ltVs 0 args' = true) (hx : x.lt 0 = true)
    (hb : args.all (fun a => !a.own) = true ∨ x.scalar = true) (hk : awpS P n (.draw all rest N :: F) ⟨(d, x) :: t, H⟩ Q) : CtD P n f args H (some d) all rest N F t Q := ⟨x, call_pure h ha hl hx hb ⟨rfl, rfl⟩, hk⟩

/-- What is behind a round of a loop: the frame that stands for the loop. -/
def loopQ (P : Program) (n : Cf) (c : Code) (F : List Fr) (Q : Ex → St → Prop) : Ex → St → Prop := thenQ (fun st => LoopS P n c F st Q) (qF P n Q F)
theorem q_loop {c : Code} : loopQ P n c F Q .normal st = LoopS P n c F st Q := rfl
theorem q_loopE {c : Code} {id : Nat} : loopQ P n c F Q (.exit id) st = exitS P n id F st Q := rfl
theorem q_loopG {c : Code} {l : Nat} : loopQ P n c F Q (.goto l) st = gotoS P n l F st Q := rfl
theorem q_loopR {c : Code} : loopQ P n c F Q .ret st = Q .ret st := by show qF P n Q F .ret st = _; rw [qF_ret]

theorem loop_S {body : Code} {α : Type} (s : α → St) (μ : α → Nat) (I : α → Prop)
    (step : ∀ x, I x → (∀ y, I y → μ y < μ x → LoopS P n body F (s y) Q) → awpS P n [.code body] (s x) (loopQ P n body F Q)) (x : α) (h : I x) : LoopS P n body F (s x) Q :=
  loop_rec s μ I (fun x hx ih => step x hx ih) x h
theorem scope_S {c rest : Code} {l : Nat} (hf : findLabel c l = some rest) (hok : okC n.n rest = true) (h : awpS P n (.code rest :: .scp c :: F) st Q) : ScopeS P n l c F st Q :=
  ⟨rest, hf, hok, scope_unroll hok (awp.mono (c := rest) h fun e s hs => by cases e <;> exact hs)⟩
theorem scopeLoop_S {c rest : Code} {l : Nat} {α : Type} (s : α → St) (μ : α → Nat) (I : α → Prop) (hf : findLabel c l = some rest) (hok : okC n.n rest = true)
    (step : ∀ x, I x → (∀ y, I y → μ y < μ x → ScopeS P n l c F (s y) Q) → awpS P n (.code rest :: .scp c :: F) (s x) Q) (x : α) (h : I x) : ScopeS P n l c F (s x) Q := by
  have key : ∀ k x, I x → μ x = k → ScopeS P n l c F (s x) Q := by
    intro k
    induction k using Nat.strongRecOn with
    | _ k ih =>
      intro x hx hk
      exact scope_S hf hok (step x hx fun y hy hlt => ih (μ y) (hk ▸ hlt) y hy rfl)
  exact key _ x h rfl
theorem unroll_S {body : Code} (h : awpS P n [.code body] st (loopQ P n body F Q)) : LoopS P n body F st Q := loop_unroll h
theorem purge_to {body : Code} (ks : List Nat) (m : Nat) (s' : St) (hm : n.m ≤ m) (hk : keepLt m ks st.t = true) (ho : ((st.H.take m).all (O.lt m)) = true) (e : (⟨keepT ks st.t, st.H.take m⟩ : St) = s') (h : LoopS P n body F s' Q) : LoopS P n body F st Q :=
  LoopSem.purge ks m hm hk ho (e ▸ h)
theorem purge_S {body : Code} (ks : List Nat) (m : Nat) (hm : n.m ≤ m) (hk : keepLt m ks st.t = true) (ho : ((st.H.take m).all (O.lt m)) = true) (h : LoopS P n body F ⟨keepT ks st.t, st.H.take m⟩ Q) : LoopS P n body F st Q :=
  LoopSem.purge ks m hm hk ho h
end

theorem wrap_succ {k n : Nat} (h : k < n) (hn : n ≤ lim) : IntKind.i64.wrap ((k : Int) + 1) = ((k + 1 : Nat) : Int) := by
  have : n ≤ 281474976710656 := hn
  rw [wrap_of]
  · simp
  · simp [loK]; omega
  · simp [hiK]; omega

theorem ltRows_set {m : Nat} {rows : List (List C)} {i : Nat} {r : List C} (h : ltRows m rows = true) (hr : ltRow m r = true) : ltRows m (rows.set i r) = true := by
  rw [ltRows_iff] at *; intro x hx; rcases List.mem_or_eq_of_mem_set hx with hx | rfl; exact h x hx; exact hr
theorem ltRows_rep {m n : Nat} {r : List C} (hr : ltRow m r = true) : ltRows m (List.replicate n r) = true := by
  rw [ltRows_iff]; intro x hx; rw [List.eq_of_mem_replicate hx]; exact hr
theorem ltRows_app {m : Nat} {a b : List (List C)} : ltRows m (a ++ b) = (ltRows m a && ltRows m b) := by
  rw [Bool.eq_iff_iff, Bool.and_eq_true]; simp only [ltRows_iff, List.mem_append]
  exact ⟨fun h => ⟨fun r hr => h r (.inl hr), fun r hr => h r (.inr hr)⟩, fun h r hr => hr.elim (h.1 r) (h.2 r)⟩
theorem ltRows_drop {m k : Nat} {a : List (List C)} (h : ltRows m a = true) : ltRows m (a.drop k) = true := by
  rw [ltRows_iff] at *; exact fun r hr => h r (List.mem_of_mem_drop hr)
theorem ltRows_map {m : Nat} {α : Type} (f : α → List C) (hf : ∀ a, ltRow m (f a) = true) (l : List α) : ltRows m (l.map f) = true := by
  rw [ltRows_iff]; intro r hr; obtain ⟨a, _, rfl⟩ := List.mem_map.1 hr; exact hf a
theorem ltRows_iffm {m : Nat} {α : Type} (f : α → List C) (l : List α) : ltRows m (l.map f) = true ↔ ∀ a ∈ l, ltRow m (f a) = true := by
  rw [ltRows_iff]; simp

attribute [irreducible] guardS guardD condS
end Go.Lz
