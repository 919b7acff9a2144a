/- The parts of a proof: Lz15, Lz16, LzE, Lp1, Lw1, Lw2, LzL, Lw3, Lw4, Lw5, Lw6, Lw7 -/
import Derived.Test.YtcceddpmmgabjaaGreatQ2
import Derived.SizedLaws
import Derived.ProofKit
import Derived.OpenShut
section
/- Lz15: the reckoning as rewrite rules over what is still to do (a list of frames). -/
namespace Go.Lz
set_option linter.unusedVariables false
set_option linter.unusedSimpArgs false

def rhoL (t : List (Nat × V)) : Operand → V
  | .tmp i => look t i
  | .const v => V.ofV v
  | .func f => .one (.fn f [])
  | .global _ => .un
theorem rho_eq (t : List (Nat × V)) (H : List O) : (⟨t, H⟩ : St).ρ = rhoL t := by funext x; cases x <;> rfl
theorem rhoL_tmp {t : List (Nat × V)} {i : Nat} : rhoL t (.tmp i) = look t i := of_eq_true (eq_self (look t i))
theorem rhoL_const {t : List (Nat × V)} {v : Value} : rhoL t (.const v) = V.ofV v := of_eq_true (eq_self (V.ofV v))
theorem rhoL_func {t : List (Nat × V)} {f : FuncId} : rhoL t (.func f) = .one (.fn f []) := of_eq_true (eq_self (V.one (C.fn f [])))
theorem look_if {k i : Nat} {v : V} {r : List (Nat × V)} : look ((k, v) :: r) i = if k = i then v else look r i := rfl

/-- What is still to do. -/
inductive Fr where
  | code (c : Code)
  | blk (id : Nat)
  | scp (c : Code)
  | ops (all : Array Oper) (rest : List Oper)
  | draw (all : Array Oper) (rest : List Oper) (N : List Fo)
  | flo (S Fl FE : List Nat) (k : Nat) (rest : List Oper)

def qF (P : Program) (n : Cf) (Q : Ex → St → Prop) : List Fr → Ex → St → Prop
  | [] => Q
  | .code c :: F => thenQ (fun st => awp P n c st (qF P n Q F)) (qF P n Q F)
  | .blk id :: F => blockQ id (qF P n Q F)
  | .scp c :: F => gotoQ P n c (qF P n Q F)
  | .ops all rest :: F => thenQ (fun st => awpOps P all rest st (qF P n Q F .normal)) (qF P n Q F)
  | .draw all rest N :: F => thenQ (fun st => awpDraw P all rest N st (qF P n Q F .normal)) (qF P n Q F)
  | .flo S Fl FE k rest :: F => thenQ (fun st => awpF P S Fl FE k rest st (qF P n Q F .normal)) (qF P n Q F)

def awpS (P : Program) (n : Cf) (F : List Fr) (st : St) (Q : Ex → St → Prop) : Prop := qF P n Q F .normal st
def exitS (P : Program) (n : Cf) (id : Nat) (F : List Fr) (st : St) (Q : Ex → St → Prop) : Prop := qF P n Q F (.exit id) st
def LoopS (P : Program) (n : Cf) (c : Code) (F : List Fr) (st : St) (Q : Ex → St → Prop) : Prop := LoopSem P n c st (qF P n Q F)

theorem awp_of_S {P : Program} {n : Cf} {c : Code} {st : St} {Q : Ex → St → Prop} (h : awpS P n [.code c] st Q) : awp P n c st Q := h

section
variable {P : Program} {n : Cf} {F : List Fr} {st : St} {Q : Ex → St → Prop}

theorem s_nil : awpS P n [] st Q = Q .normal st := rfl
theorem s_skip : awpS P n (.code .skip :: F) st Q = awpS P n F st Q := rfl
theorem s_label {l : Nat} : awpS P n (.code (.label l) :: F) st Q = awpS P n F st Q := rfl
theorem s_seq {a b : Code} : awpS P n (.code (.seq a b) :: F) st Q = awpS P n (.code a :: .code b :: F) st Q := rfl
theorem s_block {id : Nat} {c : Code} : awpS P n (.code (.block id c) :: F) st Q = awpS P n (.code c :: .blk id :: F) st Q := rfl
theorem s_scope {c : Code} : awpS P n (.code (.scope c) :: F) st Q = awpS P n (.code c :: .scp c :: F) st Q := rfl
theorem s_scp {c : Code} : awpS P n (.scp c :: F) st Q = awpS P n F st Q := rfl
theorem s_loop {c : Code} : awpS P n (.code (.loop c) :: F) st Q = LoopS P n c F st Q := rfl
theorem s_blk {id : Nat} : awpS P n (.blk id :: F) st Q = awpS P n F st Q := rfl
def gotoS (P : Program) (n : Cf) (l : Nat) (F : List Fr) (st : St) (Q : Ex → St → Prop) : Prop := qF P n Q F (.goto l) st
/-- A jump to label l of the scope c. -/
def ScopeS (P : Program) (n : Cf) (l : Nat) (c : Code) (F : List Fr) (st : St) (Q : Ex → St → Prop) : Prop := gotoQ P n c (qF P n Q F) (.goto l) st
theorem s_goto {l : Nat} : awpS P n (.code (.goto l) :: F) st Q = gotoS P n l F st Q := rfl
theorem j_nil {l : Nat} : gotoS P n l [] st Q = Q (.goto l) st := rfl
theorem j_code {l : Nat} {c : Code} : gotoS P n l (.code c :: F) st Q = gotoS P n l F st Q := rfl
theorem j_ops {l : Nat} {all : Array Oper} {rest : List Oper} : gotoS P n l (.ops all rest :: F) st Q = gotoS P n l F st Q := rfl
theorem j_draw {l : Nat} {all : Array Oper} {rest : List Oper} {N : List Fo} : gotoS P n l (.draw all rest N :: F) st Q = gotoS P n l F st Q := rfl
theorem j_flo {l k : Nat} {rest : List Oper} {S Fl FE : List Nat} : gotoS P n l (.flo S Fl FE k rest :: F) st Q = gotoS P n l F st Q := rfl
theorem j_blk {l id : Nat} : gotoS P n l (.blk id :: F) st Q = gotoS P n l F st Q := rfl
theorem j_scp {l : Nat} {c : Code} : gotoS P n l (.scp c :: F) st Q = ScopeS P n l c F st Q := rfl
theorem s_exit {id : Nat} : awpS P n (.code (.exit id) :: F) st Q = exitS P n id F st Q := rfl
theorem qF_ret : ∀ (F : List Fr), qF P n Q F .ret = Q .ret
  | [] => rfl
  | .code _ :: F => by funext st; simp only [qF, thenQ]; rw [qF_ret F]
  | .blk _ :: F => by funext st; simp only [qF, blockQ]; rw [qF_ret F]
  | .scp _ :: F => by funext st; simp only [qF, gotoQ]; rw [qF_ret F]
  | .ops _ _ :: F => by funext st; simp only [qF, thenQ]; rw [qF_ret F]
  | .draw _ _ _ :: F => by funext st; simp only [qF, thenQ]; rw [qF_ret F]
  | .flo _ _ _ _ _ :: F => by funext st; simp only [qF, thenQ]; rw [qF_ret F]
theorem s_ret : awpS P n (.code .ret :: F) st Q = Q .ret st := by
  show qF P n Q F .ret st = _
  rw [qF_ret]
theorem x_nil {id : Nat} : exitS P n id [] st Q = Q (.exit id) st := rfl
theorem x_scp {id : Nat} {c : Code} : exitS P n id (.scp c :: F) st Q = exitS P n id F st Q := rfl
theorem x_code {id : Nat} {c : Code} : exitS P n id (.code c :: F) st Q = exitS P n id F st Q := rfl
theorem x_ops {id : Nat} {all : Array Oper} {rest : List Oper} : exitS P n id (.ops all rest :: F) st Q = exitS P n id F st Q := rfl
theorem x_draw {id : Nat} {all : Array Oper} {rest : List Oper} {N : List Fo} : exitS P n id (.draw all rest N :: F) st Q = exitS P n id F st Q := rfl
theorem x_flo {id k : Nat} {rest : List Oper} {S Fl FE : List Nat} : exitS P n id (.flo S Fl FE k rest :: F) st Q = exitS P n id F st Q := rfl
theorem x_blk {id i : Nat} : exitS P n id (.blk i :: F) st Q = if id = i then awpS P n F st Q else exitS P n id F st Q := rfl
theorem s_region {id : Nat} {ops : Array Oper} : awpS P n (.code (.region id ops false) :: F) st Q = awpS P n (.ops ops ops.toList :: F) st Q := rfl
theorem s_draw {id : Nat} {ops : Array Oper} (h : floatAt ops = false) : awpS P n (.code (.region id ops true) :: F) st Q = (P.follows .mixedOrders = true ∧ drawB ops = true ∧ awpS P n (.draw ops ops.toList [] :: F) st Q) := by
  simp only [awpS, qF, thenQ, awp, h]
theorem s_flo {id : Nat} {ops : Array Oper} (h : floatAt ops = true) : awpS P n (.code (.region id ops true) :: F) st Q = (P.follows .mixedOrders = true ∧ drawB ops = true ∧ floB ops = true ∧ ∃ S Fl FE, floL ops Fl FE = true ∧ awpS P n (.flo S Fl FE 0 ops.toList :: F) st Q) := by
  simp only [awpS, qF, thenQ, awp, h]

def condS (c : V) (X Y : Prop) : Prop := condK c X Y
theorem s_cond {c : Operand} {x y : Code} {t : List (Nat × V)} {H : List O} : awpS P n (.code (.cond c x y) :: F) ⟨t, H⟩ Q = condS (rhoL t c) (awpS P n (.code x :: F) ⟨t, H⟩ Q) (awpS P n (.code y :: F) ⟨t, H⟩ Q) := by
  show condK _ _ _ = condK _ _ _
  rw [rho_eq]
  rfl
theorem condS_congr {c c' : V} {X Y : Prop} (h : c = c') : condS c X Y = condS c' X Y := by rw [h]
attribute [congr] condS_congr
theorem q_cond {b : Bool} {X Y : Prop} : condS (.one (.bool b)) X Y = ((b = true → X) ∧ (b = false → Y)) := rfl
theorem q_condT {X Y : Prop} : condS (.one (.bool true)) X Y = X := by simp [condS, condK]
theorem q_condF {X Y : Prop} : condS (.one (.bool false)) X Y = Y := by simp [condS, condK]

theorem o_nil {all : Array Oper} : awpS P n (.ops all [] :: F) st Q = awpS P n F st Q := rfl

/-- Behind an operation. -/
def stepS (P : Program) (n : Cf) (r : R) (d : Option Nat) (all : Array Oper) (rest : List Oper) (F : List Fr) (t : List (Nat × V)) (Q : Ex → St → Prop) : Prop :=
  r.pre ∧ (r.fact → awpS P n (.ops all rest :: F) (St.put ⟨t, r.h⟩ d r.v r.h) Q)
theorem st_mk {p f : Prop} {v : V} {h : List O} {d : Nat} {all : Array Oper} {rest : List Oper} {t : List (Nat × V)} : stepS P n ⟨p, f, v, h⟩ (some d) all rest F t Q = (p ∧ (f → awpS P n (.ops all rest :: F) ⟨(d, v) :: t, h⟩ Q)) := rfl
theorem st_t {p : Prop} {v : V} {h : List O} {d : Nat} {all : Array Oper} {rest : List Oper} {t : List (Nat × V)} : stepS P n ⟨p, True, v, h⟩ (some d) all rest F t Q = (p ∧ awpS P n (.ops all rest :: F) ⟨(d, v) :: t, h⟩ Q) := by simp [stepS, St.put]
theorem st_ok {v : V} {h : List O} {d : Nat} {all : Array Oper} {rest : List Oper} {t : List (Nat × V)} : stepS P n (R.ok v h) (some d) all rest F t Q = awpS P n (.ops all rest :: F) ⟨(d, v) :: t, h⟩ Q := by simp [stepS, St.put, R.ok]
theorem st_mkN {p f : Prop} {v : V} {h : List O} {all : Array Oper} {rest : List Oper} {t : List (Nat × V)} : stepS P n ⟨p, f, v, h⟩ none all rest F t Q = (p ∧ (f → awpS P n (.ops all rest :: F) ⟨t, h⟩ Q)) := rfl
theorem st_tN {p : Prop} {v : V} {h : List O} {all : Array Oper} {rest : List Oper} {t : List (Nat × V)} : stepS P n ⟨p, True, v, h⟩ none all rest F t Q = (p ∧ awpS P n (.ops all rest :: F) ⟨t, h⟩ Q) := by simp [stepS, St.put]
theorem st_okN {v : V} {h : List O} {all : Array Oper} {rest : List Oper} {t : List (Nat × V)} : stepS P n (R.ok v h) none all rest F t Q = awpS P n (.ops all rest :: F) ⟨t, h⟩ Q := by simp [stepS, St.put, R.ok]

/-- A call of a function value, and what is behind it. -/
def callS (P : Program) (n : Cf) (f : V) (args : List V) (H : List O) (d : Option Nat) (all : Array Oper) (rest : List Oper) (F : List Fr) (t : List (Nat × V)) (Q : Ex → St → Prop) : Prop :=
  match f with
  | .one (.fn g cap) => Ct P g (args ++ cap.map V.one) H fun v H' => awpS P n (.ops all rest :: F) (St.put ⟨t, H'⟩ d v H') Q
  | _ => False
/-- A call of function g with these arguments. -/
def CtS (P : Program) (n : Cf) (g : FuncId) (args : List V) (H : List O) (d : Option Nat) (all : Array Oper) (rest : List Oper) (F : List Fr) (t : List (Nat × V)) (Q : Ex → St → Prop) : Prop :=
  Ct P g args H fun v H' => awpS P n (.ops all rest :: F) (St.put ⟨t, H'⟩ d v H') Q
theorem callS_fn {g : FuncId} {cap : List C} {args : List V} {H : List O} {d : Option Nat} {all : Array Oper} {rest : List Oper} {t : List (Nat × V)} : callS P n (.one (.fn g cap)) args H d all rest F t Q = CtS P n g (args ++ cap.map V.one) H d all rest F t Q := rfl

def Op.fnOf : Op → Option (Operand × Array Operand)
  | .call ⟨.value f, args, _⟩ => some (f, args)
  | .call ⟨.invoke _ _, _, _⟩ => none
  | .call ⟨.builtin _, _, _⟩ => none
  | .move _ => none
  | .assign _ => none
  | .pick _ _ _ => none
  | .alloc _ => none
  | .box _ _ => none
  | .build _ _ => none
  | .buildSlice _ _ _ => none
  | .insert _ _ _ _ => none
  | .load _ _ => none
  | .store _ _ _ => none
  | .ready _ => none
  | .waits _ => none
  | .nilCheck _ => none
  | .binOp _ _ _ _ _ => none
  | .unOp _ _ _ => none
  | .convert _ _ _ => none
  | .sliceToArrayPointer _ _ => none
  | .makeInterface _ _ => none
  | .makeFunc _ _ _ => none
  | .makeMap _ _ => none
  | .makeChan _ _ => none
  | .makeSlice _ _ _ => none
  | .slice _ _ _ _ _ => none
  | .fieldAddr _ _ _ => none
  | .field _ _ _ => none
  | .indexAddr _ _ _ => none
  | .index _ _ _ => none
  | .lookup _ _ _ _ => none
  | .mapUpdate _ _ _ _ => none
  | .mapEntry _ _ _ => none
  | .entryStore _ _ _ _ => none
  | .range _ _ => none
  | .next _ _ => none
  | .entry _ => none
  | .typeAssert _ _ _ _ => none
  | .extract _ _ => none
  | .go _ => none
  | .defer _ => none
  | .panic _ => none
  | .send _ _ => none
  | .recv _ _ _ => none
  | .select _ _ => none

def opS (P : Program) (n : Cf) (d : Option Nat) (pos : String) (op : Op) (t : List (Nat × V)) (H : List O) (all : Array Oper) (rest : List Oper) (F : List Fr) (Q : Ex → St → Prop) : Prop :=
  match Op.fnOf op with
  | some (f, args) => callS P n (rhoL t f) (args.toList.map (rhoL t)) H d all rest F t Q
  | none => stepS P n (stepF P pos op (rhoL t) H) d all rest F t Q

theorem awpOp_eq {d : Option Nat} {op : Op} {ty : TypeId} {pos : String} {aft : Array Edge} {g : Option (Nat × Bool)} {t : List (Nat × V)} {H : List O} {all : Array Oper} {rest : List Oper} :
    awpOp P ⟨d, op, ty, pos, aft, g⟩ ⟨t, H⟩ (fun st' => awpOps P all rest st' (qF P n Q F .normal)) = opS P n d pos op t H all rest F Q := by
  unfold awpOp opS
  split
  · rename_i f args ats h0
    simp only at h0
    subst h0
    simp only [Op.fnOf, callS, rho_eq]
    split <;> simp_all [St.put, awpS, qF, thenQ] <;> rfl
  · rename_i h0
    have : Op.fnOf op = none := by
      cases op with
      | call c =>
        obtain ⟨cl, args, ats⟩ := c
        cases cl with
        | value f => exact (h0 f args ats rfl).elim
        | invoke r m => rfl
        | builtin b => rfl
      | _ => rfl
    rw [this, rho_eq]
    rfl

theorem o_cons {all : Array Oper} {d : Option Nat} {op : Op} {ty : TypeId} {pos : String} {aft : Array Edge} {rest : List Oper} {t : List (Nat × V)} {H : List O} :
    awpS P n (.ops all (⟨d, op, ty, pos, aft, none⟩ :: rest) :: F) ⟨t, H⟩ Q = opS P n d pos op t H all rest F Q := by
  rw [← awpOp_eq (ty := ty) (pos := pos) (aft := aft) (g := none)]
  rfl

def gdst (all : Array Oper) (j : Nat) : Nat := ((all[j]?).bind (·.dst)).getD 0
def gval (all : Array Oper) (j : Nat) (t : List (Nat × V)) : Option V := ((all[j]?).bind (·.dst)).map (look t)

/-- An operation under a guard, its guard's value known as far as it is. -/
def guardS (P : Program) (n : Cf) (c : Option V) (g : Nat) (want : Bool) (d : Nat) (pos : String) (op : Op) (t : List (Nat × V)) (H : List O) (all : Array Oper) (rest : List Oper) (F : List Fr) (Q : Ex → St → Prop) : Prop :=
  match c with
  | some (.one (.bool b)) => (b = want → opS P n (some d) pos op ((g, .one (.bool want)) :: t) H all rest F Q) ∧ (b = (!want) → awpS P n (.ops all rest :: F) ⟨(d, .tup []) :: (g, .one (.bool (!want))) :: t, H⟩ Q)
  | some (.tup []) => awpS P n (.ops all rest :: F) ⟨(d, .tup []) :: t, H⟩ Q
  | _ => False
theorem o_guard {all : Array Oper} {d : Nat} {op : Op} {ty : TypeId} {pos : String} {aft : Array Edge} {j : Nat} {want : Bool} {rest : List Oper} {t : List (Nat × V)} {H : List O} :
    awpS P n (.ops all (⟨some d, op, ty, pos, aft, some (j, want)⟩ :: rest) :: F) ⟨t, H⟩ Q = guardS P n (gval all j t) (gdst all j) want d pos op t H all rest F Q := by
  simp only [awpS, qF, thenQ, awpOps, guarded2, gval, gdst, guardS]
  cases h : (all[j]?).bind (·.dst) with
  | none => simp
  | some g =>
    simp only [Option.map_some, Option.getD_some]
    cases look t g with
    | one c =>
      cases c with
      | bool b =>
        simp only
        rw [awpOp_eq]
        rfl
      | _ => rfl
    | tup l => cases l <;> rfl
    | _ => rfl
theorem g_un {want : Bool} {g d : Nat} {pos : String} {op : Op} {t : List (Nat × V)} {H : List O} {all : Array Oper} {rest : List Oper} : guardS P n (some (.tup [])) g want d pos op t H all rest F Q = awpS P n (.ops all rest :: F) ⟨(d, .tup []) :: t, H⟩ Q := rfl
theorem g_b {b want : Bool} {g d : Nat} {pos : String} {op : Op} {t : List (Nat × V)} {H : List O} {all : Array Oper} {rest : List Oper} : guardS P n (some (.one (.bool b))) g want d pos op t H all rest F Q =
    ((b = want → opS P n (some d) pos op ((g, .one (.bool want)) :: t) H all rest F Q) ∧ (b = (!want) → awpS P n (.ops all rest :: F) ⟨(d, .tup []) :: (g, .one (.bool (!want))) :: t, H⟩ Q)) := rfl
theorem g_tt {g d : Nat} {pos : String} {op : Op} {t : List (Nat × V)} {H : List O} {all : Array Oper} {rest : List Oper} : guardS P n (some (.one (.bool true))) g true d pos op t H all rest F Q = opS P n (some d) pos op ((g, .one (.bool true)) :: t) H all rest F Q := by simp [guardS]
theorem g_ff {g d : Nat} {pos : String} {op : Op} {t : List (Nat × V)} {H : List O} {all : Array Oper} {rest : List Oper} : guardS P n (some (.one (.bool false))) g false d pos op t H all rest F Q = opS P n (some d) pos op ((g, .one (.bool false)) :: t) H all rest F Q := by simp [guardS]
theorem g_tf {g d : Nat} {pos : String} {op : Op} {t : List (Nat × V)} {H : List O} {all : Array Oper} {rest : List Oper} : guardS P n (some (.one (.bool true))) g false d pos op t H all rest F Q = awpS P n (.ops all rest :: F) ⟨(d, .tup []) :: (g, .one (.bool true)) :: t, H⟩ Q := by simp [guardS]
theorem g_ft {g d : Nat} {pos : String} {op : Op} {t : List (Nat × V)} {H : List O} {all : Array Oper} {rest : List Oper} : guardS P n (some (.one (.bool false))) g true d pos op t H all rest F Q = awpS P n (.ops all rest :: F) ⟨(d, .tup []) :: (g, .one (.bool false)) :: t, H⟩ Q := by simp [guardS]

/-! Regions that draw. -/
theorem d_nil {all : Array Oper} {N : List Fo} {t : List (Nat × V)} {H : List O} : awpS P n (.draw all [] N :: F) ⟨t, H⟩ Q = awpS P n F ⟨t, H ++ N.map Fo.o⟩ Q := rfl
def stepD (P : Program) (n : Cf) (r : R) (H : List O) (d : Option Nat) (all : Array Oper) (rest : List Oper) (N : List Fo) (F : List Fr) (t : List (Nat × V)) (Q : Ex → St → Prop) : Prop :=
  r.pre ∧ (r.fact → r.h = H ∧ awpS P n (.draw all rest N :: F) (St.put ⟨t, H⟩ d r.v H) Q)
theorem sd_mk {p f : Prop} {v : V} {h : List O} {d : Nat} {all : Array Oper} {rest : List Oper} {N : List Fo} {t : List (Nat × V)} : stepD P n ⟨p, f, v, h⟩ h (some d) all rest N F t Q = (p ∧ (f → awpS P n (.draw all rest N :: F) ⟨(d, v) :: t, h⟩ Q)) := by simp [stepD, St.put]
theorem sd_t {p : Prop} {v : V} {h : List O} {d : Nat} {all : Array Oper} {rest : List Oper} {N : List Fo} {t : List (Nat × V)} : stepD P n ⟨p, True, v, h⟩ h (some d) all rest N F t Q = (p ∧ awpS P n (.draw all rest N :: F) ⟨(d, v) :: t, h⟩ Q) := by simp [stepD, St.put]
theorem sd_ok {v : V} {h : List O} {d : Nat} {all : Array Oper} {rest : List Oper} {N : List Fo} {t : List (Nat × V)} : stepD P n (R.ok v h) h (some d) all rest N F t Q = awpS P n (.draw all rest N :: F) ⟨(d, v) :: t, h⟩ Q := by simp [stepD, St.put, R.ok]
/-- A call of function g in such a region. -/
def CtD (P : Program) (n : Cf) (g : FuncId) (args : List V) (H : List O) (d : Option Nat) (all : Array Oper) (rest : List Oper) (N : List Fo) (F : List Fr) (t : List (Nat × V)) (Q : Ex → St → Prop) : Prop :=
  ∃ x, Ct P g args H (fun v H' => v = x ∧ H' = H) ∧ awpS P n (.draw all rest N :: F) (St.put ⟨t, H⟩ d x H) Q
def callD (P : Program) (n : Cf) (f : V) (args : List V) (H : List O) (d : Option Nat) (all : Array Oper) (rest : List Oper) (N : List Fo) (F : List Fr) (t : List (Nat × V)) (Q : Ex → St → Prop) : Prop :=
  match f with
  | .one (.fn g cap) => CtD P n g (args ++ cap.map V.one) H d all rest N F t Q
  | _ => False
theorem callD_fn {g : FuncId} {cap : List C} {args : List V} {H : List O} {d : Option Nat} {all : Array Oper} {rest : List Oper} {N : List Fo} {t : List (Nat × V)} : callD P n (.one (.fn g cap)) args H d all rest N F t Q = CtD P n g (args ++ cap.map V.one) H d all rest N F t Q := rfl
def quietD (P : Program) (n : Cf) (d : Option Nat) (pos : String) (op : Op) (t : List (Nat × V)) (H : List O) (all : Array Oper) (rest : List Oper) (N : List Fo) (F : List Fr) (Q : Ex → St → Prop) : Prop :=
  match Op.fnOf op with
  | some (f, args) => callD P n (rhoL t f) (args.toList.map (rhoL t)) H d all rest N F t Q
  | none => stepD P n (stepF P pos op (rhoL t) H) H d all rest N F t Q
theorem awpQ_eq {d : Option Nat} {op : Op} {ty : TypeId} {pos : String} {aft : Array Edge} {g : Option (Nat × Bool)} {t : List (Nat × V)} {H : List O} {all : Array Oper} {rest : List Oper} {N : List Fo} :
    awpQ P ⟨d, op, ty, pos, aft, g⟩ ⟨t, H⟩ (fun st' => awpDraw P all rest N st' (qF P n Q F .normal)) = quietD P n d pos op t H all rest N F Q := by
  unfold awpQ quietD
  split
  · rename_i f args ats h0
    simp only at h0
    subst h0
    simp only [Op.fnOf, callD, CtD, rho_eq]
    split <;> simp_all [awpS, qF, thenQ] <;> rfl
  · rename_i h0
    have : Op.fnOf op = none := by
      cases op with
      | call c =>
        obtain ⟨cl, args, ats⟩ := c
        cases cl with
        | value f => exact (h0 f args ats rfl).elim
        | invoke r m => rfl
        | builtin b => rfl
      | _ => rfl
    rw [this, rho_eq]
    simp only [bindR, stepD]
    apply propext
    constructor
    · rintro ⟨h1, h2⟩; refine ⟨h1, fun hf => ?_⟩; obtain ⟨a, b⟩ := h2 hf; rw [a] at b; exact ⟨a, b⟩
    · rintro ⟨h1, h2⟩; refine ⟨h1, fun hf => ?_⟩; obtain ⟨a, b⟩ := h2 hf; rw [a]; exact ⟨rfl, b⟩
/-- The slots that an operation reads bear no new object. -/
def unmetO (op : Op) (N : List Fo) : Prop := N = [] ∨ unmet ⟨none, op, 0, "", #[], none⟩ N = true
theorem um_nil {op : Op} : unmetO op [] = True := by simp [unmetO]
theorem um_cons {op : Op} {x : Fo} {N : List Fo} : unmetO op (x :: N) = (unmet ⟨none, op, 0, "", #[], none⟩ (x :: N) = true) := by simp [unmetO]
theorem unmet_eq {d : Option Nat} {op : Op} {ty : TypeId} {pos : String} {aft : Array Edge} {g : Option (Nat × Bool)} {N : List Fo} : (unmet ⟨d, op, ty, pos, aft, g⟩ N = true) = unmetO op N := by
  unfold unmetO
  apply propext
  constructor
  · intro h; exact .inr h
  · rintro (rfl | h)
    · rfl
    · exact h

/-- New objects within such a region. -/
def freshL (P : Program) (d : Option Nat) (op : Op) (t : List (Nat × V)) (m : Nat) (N : List Fo) : Option (Prop × V × List Fo) :=
  match d, op with
  | some d, .alloc ty => match tZ P ty with
    | some z => match z.cs with
      | some cs => some (True, .one (.ref (m + N.length) 1 0 0), N ++ [⟨.cells 1 cs.length [cs], false, d⟩])
      | none => none
    | none => none
  | some d, .box _ x => match (rhoL t x).cs with
    | some cs => some (True, .one (.ref (m + N.length) 1 0 0), N ++ [⟨.cells 1 cs.length [cs], false, d⟩])
    | none => none
  | none, .store ty (.tmp s) x => match look t s, (rhoL t x).cs, tAg P ty with
    | .one (.ref id 1 0 off), some cs, some (_, n) => if m ≤ id then (match N[id - m]? with
      | some ⟨.cells 1 sz [row], false, d⟩ => some (d = s ∧ off + cs.length ≤ row.length ∧ cs.length = n, .un, N.set (id - m) ⟨.cells 1 sz [splice row off cs], true, d⟩)
      | _ => none) else none
    | _, _, _ => none
  | _, _ => none
theorem fresh_eq {d : Option Nat} {op : Op} {ty : TypeId} {pos : String} {aft : Array Edge} {t : List (Nat × V)} {H : List O} {N : List Fo} : freshV P ⟨d, op, ty, pos, aft, none⟩ ⟨t, H⟩ N = freshL P d op t H.length N := by
  unfold freshV freshL
  cases d <;> cases op <;> simp only [rho_eq] <;> try rfl
  rename_i ty a x
  cases a <;> rfl
theorem fresh_g {d : Option Nat} {op : Op} {ty : TypeId} {pos : String} {aft : Array Edge} {g : Nat × Bool} {st : St} {N : List Fo} : freshV P ⟨d, op, ty, pos, aft, some g⟩ st N = none := by
  unfold freshV; rfl

def freshS (P : Program) (n : Cf) (r : Option (Prop × V × List Fo)) (d : Option Nat) (pos : String) (op : Op) (t : List (Nat × V)) (H : List O) (all : Array Oper) (here rest : List Oper) (N : List Fo) (F : List Fr) (Q : Ex → St → Prop) : Prop :=
  match r with
  | some (p, v, N') => p ∧ awpS P n (.draw all rest N' :: F) (St.put ⟨t, H⟩ d v H) Q
  | none => match effT pos op with
    | true => tailP P all (all.size - here.length) t ∧ awpS P n (.ops all here :: F) ⟨t, H ++ N.map Fo.o⟩ Q
    | false => unmetO op N ∧ quietD P n d pos op t H all rest N F Q
theorem fs_some {p : Prop} {v : V} {N N' : List Fo} {d : Nat} {pos : String} {op : Op} {t : List (Nat × V)} {H : List O} {all : Array Oper} {here rest : List Oper} : freshS P n (some (p, v, N')) (some d) pos op t H all here rest N F Q = (p ∧ awpS P n (.draw all rest N' :: F) ⟨(d, v) :: t, H⟩ Q) := rfl
theorem fs_someN {p : Prop} {v : V} {N N' : List Fo} {pos : String} {op : Op} {t : List (Nat × V)} {H : List O} {all : Array Oper} {here rest : List Oper} : freshS P n (some (p, v, N')) none pos op t H all here rest N F Q = (p ∧ awpS P n (.draw all rest N' :: F) ⟨t, H⟩ Q) := rfl
theorem fs_none {N : List Fo} {d : Option Nat} {pos : String} {op : Op} {t : List (Nat × V)} {H : List O} {all : Array Oper} {here rest : List Oper} : freshS P n none d pos op t H all here rest N F Q = (match effT pos op with
    | true => tailP P all (all.size - here.length) t ∧ awpS P n (.ops all here :: F) ⟨t, H ++ N.map Fo.o⟩ Q
    | false => unmetO op N ∧ quietD P n d pos op t H all rest N F Q) := rfl
theorem d_cons {all : Array Oper} {d : Option Nat} {op : Op} {ty : TypeId} {pos : String} {aft : Array Edge} {rest : List Oper} {N : List Fo} {t : List (Nat × V)} {H : List O} :
    awpS P n (.draw all (⟨d, op, ty, pos, aft, none⟩ :: rest) N :: F) ⟨t, H⟩ Q = freshS P n (freshL P d op t H.length N) d pos op t H all (⟨d, op, ty, pos, aft, none⟩ :: rest) rest N F Q := by
  show awpDraw P all _ N _ _ = _
  rw [awpDraw, fresh_eq]
  cases freshL P d op t H.length N with
  | some r => obtain ⟨p, v, N'⟩ := r; rfl
  | none =>
    rw [fs_none]
    simp only
    cases effT pos op with
    | true => rfl
    | false => simp only [unmet_eq]; rw [← awpQ_eq (ty := ty) (aft := aft) (g := none)]; rfl
def guardD (P : Program) (n : Cf) (c : Option V) (g : Nat) (want : Bool) (d : Nat) (pos : String) (op : Op) (t : List (Nat × V)) (H : List O) (all : Array Oper) (rest : List Oper) (N : List Fo) (F : List Fr) (Q : Ex → St → Prop) : Prop :=
  match c with
  | some (.one (.bool b)) => (b = want → quietD P n (some d) pos op ((g, .one (.bool want)) :: t) H all rest N F Q) ∧ (b = (!want) → awpS P n (.draw all rest N :: F) ⟨(d, .tup []) :: (g, .one (.bool (!want))) :: t, H⟩ Q)
  | some (.tup []) => awpS P n (.draw all rest N :: F) ⟨(d, .tup []) :: t, H⟩ Q
  | _ => False
/-- An operation under a guard. -/
def guardE (P : Program) (n : Cf) (e : Bool) (c : Option V) (g : Nat) (want : Bool) (d : Nat) (pos : String) (op : Op) (t : List (Nat × V)) (H : List O) (all : Array Oper) (here rest : List Oper) (N : List Fo) (F : List Fr) (Q : Ex → St → Prop) : Prop :=
  match e with
  | true => tailP P all (all.size - here.length) t ∧ awpS P n (.ops all here :: F) ⟨t, H ++ N.map Fo.o⟩ Q
  | false => unmetO op N ∧ guardD P n c g want d pos op t H all rest N F Q
theorem d_guard {all : Array Oper} {d : Nat} {op : Op} {ty : TypeId} {pos : String} {aft : Array Edge} {j : Nat} {want : Bool} {rest : List Oper} {N : List Fo} {t : List (Nat × V)} {H : List O} :
    awpS P n (.draw all (⟨some d, op, ty, pos, aft, some (j, want)⟩ :: rest) N :: F) ⟨t, H⟩ Q = guardE P n (effT pos op) (gval all j t) (gdst all j) want d pos op t H all (⟨some d, op, ty, pos, aft, some (j, want)⟩ :: rest) rest N F Q := by
  show awpDraw P all _ N _ _ = _
  rw [awpDraw, fresh_g]
  simp only [guardE]
  cases effT pos op with
  | true => rfl
  | false =>
    simp only [unmet_eq, awpS, qF, thenQ, guarded2, gval, gdst, guardD]
    cases h : (all[j]?).bind (·.dst) with
    | none => simp
    | some g =>
      simp only [Option.map_some, Option.getD_some]
      cases look t g with
      | one c =>
        cases c with
        | bool b =>
          simp only
          rw [awpQ_eq]
          rfl
        | _ => rfl
      | tup l => cases l <;> rfl
      | _ => rfl
theorem gd_un {want : Bool} {g d : Nat} {pos : String} {op : Op} {t : List (Nat × V)} {H : List O} {all : Array Oper} {rest : List Oper} {N : List Fo} : guardD P n (some (.tup [])) g want d pos op t H all rest N F Q = awpS P n (.draw all rest N :: F) ⟨(d, .tup []) :: t, H⟩ Q := rfl
theorem gd_b {b want : Bool} {g d : Nat} {pos : String} {op : Op} {t : List (Nat × V)} {H : List O} {all : Array Oper} {rest : List Oper} {N : List Fo} : guardD P n (some (.one (.bool b))) g want d pos op t H all rest N F Q =
    ((b = want → quietD P n (some d) pos op ((g, .one (.bool want)) :: t) H all rest N F Q) ∧ (b = (!want) → awpS P n (.draw all rest N :: F) ⟨(d, .tup []) :: (g, .one (.bool (!want))) :: t, H⟩ Q)) := rfl
theorem gd_tt {g d : Nat} {pos : String} {op : Op} {t : List (Nat × V)} {H : List O} {all : Array Oper} {rest : List Oper} {N : List Fo} : guardD P n (some (.one (.bool true))) g true d pos op t H all rest N F Q = quietD P n (some d) pos op ((g, .one (.bool true)) :: t) H all rest N F Q := by simp [guardD]
theorem gd_ff {g d : Nat} {pos : String} {op : Op} {t : List (Nat × V)} {H : List O} {all : Array Oper} {rest : List Oper} {N : List Fo} : guardD P n (some (.one (.bool false))) g false d pos op t H all rest N F Q = quietD P n (some d) pos op ((g, .one (.bool false)) :: t) H all rest N F Q := by simp [guardD]
theorem gd_tf {g d : Nat} {pos : String} {op : Op} {t : List (Nat × V)} {H : List O} {all : Array Oper} {rest : List Oper} {N : List Fo} : guardD P n (some (.one (.bool true))) g false d pos op t H all rest N F Q = awpS P n (.draw all rest N :: F) ⟨(d, .tup []) :: (g, .one (.bool true)) :: t, H⟩ Q := by simp [guardD]
theorem gd_ft {g d : Nat} {pos : String} {op : Op} {t : List (Nat × V)} {H : List O} {all : Array Oper} {rest : List Oper} {N : List Fo} : guardD P n (some (.one (.bool false))) g true d pos op t H all rest N F Q = awpS P n (.draw all rest N :: F) ⟨(d, .tup []) :: (g, .one (.bool false)) :: t, H⟩ Q := by simp [guardD]

/-! Regions in which calls turn objects. -/
theorem f_nil {S Fl FE : List Nat} {k : Nat} : awpS P n (.flo S Fl FE k [] :: F) st Q = awpS P n F st Q := rfl
/-- A free operation comes to the same at any time. -/
def flS (P : Program) (b : Bool) (pos : String) (op : Op) (t : List (Nat × V)) (H : List O) (S : List Nat) : Prop := match b with
  | true => stableQ P pos op (rhoL t) H S
  | false => True
def flA (b : Bool) (S : List Nat) (H H1 : List O) : Prop := match b with
  | true => agree S H H1
  | false => True
theorem flS_f {pos : String} {op : Op} {t : List (Nat × V)} {H : List O} {S : List Nat} : flS P false pos op t H S = True := rfl
theorem flA_f {S : List Nat} {H H1 : List O} : flA false S H H1 = True := rfl
theorem flA_t {S : List Nat} {H H1 : List O} : flA true S H H1 = agree S H H1 := rfl
theorem agree_n {H H1 : List O} : agree [] H H1 = True := by simp [agree]
theorem agree_c {i : Nat} {S : List Nat} {H H1 : List O} : agree (i :: S) H H1 = (H1[i]? = H[i]? ∧ agree S H H1) := by simp [agree]
def qStepF (P : Program) (n : Cf) (r : R) (H : List O) (fl : Prop) (d : Option Nat) (S Fl FE : List Nat) (k : Nat) (rest : List Oper) (F : List Fr) (t : List (Nat × V)) (Q : Ex → St → Prop) : Prop :=
  r.pre ∧ r.h = H ∧ fl ∧ awpS P n (.flo S Fl FE (k + 1) rest :: F) (St.put ⟨t, H⟩ d r.v H) Q
theorem qf_mk {p f fl : Prop} {v : V} {h : List O} {d : Nat} {S Fl FE : List Nat} {k : Nat} {rest : List Oper} {t : List (Nat × V)} : qStepF P n ⟨p, f, v, h⟩ h fl (some d) S Fl FE k rest F t Q = (p ∧ fl ∧ awpS P n (.flo S Fl FE (k + 1) rest :: F) ⟨(d, v) :: t, h⟩ Q) := by simp [qStepF, St.put]
theorem qf_ok {fl : Prop} {v : V} {h : List O} {d : Nat} {S Fl FE : List Nat} {k : Nat} {rest : List Oper} {t : List (Nat × V)} : qStepF P n (R.ok v h) h fl (some d) S Fl FE k rest F t Q = (fl ∧ awpS P n (.flo S Fl FE (k + 1) rest :: F) ⟨(d, v) :: t, h⟩ Q) := by simp [qStepF, St.put, R.ok]
def eStepF (P : Program) (n : Cf) (r : R) (H : List O) (d : Option Nat) (S Fl FE : List Nat) (k : Nat) (rest : List Oper) (F : List Fr) (t : List (Nat × V)) (Q : Ex → St → Prop) : Prop :=
  r.pre ∧ flA (FE.contains k) S H r.h ∧ awpS P n (.flo S Fl FE (k + 1) rest :: F) (St.put ⟨t, H⟩ d r.v r.h) Q
theorem ef_mk {p f : Prop} {v : V} {h H : List O} {d : Nat} {S Fl FE : List Nat} {k : Nat} {rest : List Oper} {t : List (Nat × V)} : eStepF P n ⟨p, f, v, h⟩ H (some d) S Fl FE k rest F t Q = (p ∧ flA (FE.contains k) S H h ∧ awpS P n (.flo S Fl FE (k + 1) rest :: F) ⟨(d, v) :: t, h⟩ Q) := by simp [eStepF, St.put]
theorem ef_mkN {p f : Prop} {v : V} {h H : List O} {S Fl FE : List Nat} {k : Nat} {rest : List Oper} {t : List (Nat × V)} : eStepF P n ⟨p, f, v, h⟩ H none S Fl FE k rest F t Q = (p ∧ flA (FE.contains k) S H h ∧ awpS P n (.flo S Fl FE (k + 1) rest :: F) ⟨t, h⟩ Q) := by simp [eStepF, St.put]
theorem ef_ok {v : V} {h H : List O} {d : Nat} {S Fl FE : List Nat} {k : Nat} {rest : List Oper} {t : List (Nat × V)} : eStepF P n (R.ok v h) H (some d) S Fl FE k rest F t Q = (flA (FE.contains k) S H h ∧ awpS P n (.flo S Fl FE (k + 1) rest :: F) ⟨(d, v) :: t, h⟩ Q) := by simp [eStepF, St.put, R.ok]
theorem ef_okN {v : V} {h H : List O} {S Fl FE : List Nat} {k : Nat} {rest : List Oper} {t : List (Nat × V)} : eStepF P n (R.ok v h) H none S Fl FE k rest F t Q = (flA (FE.contains k) S H h ∧ awpS P n (.flo S Fl FE (k + 1) rest :: F) ⟨t, h⟩ Q) := by simp [eStepF, St.put, R.ok]
/-- A call in such a region. -/
def CtF (P : Program) (n : Cf) (g : FuncId) (args : List V) (H : List O) (d : Option Nat) (S Fl FE : List Nat) (k : Nat) (rest : List Oper) (F : List Fr) (t : List (Nat × V)) (Q : Ex → St → Prop) : Prop :=
  ∃ x H1, Ct P g args H (fun v H' => v = x ∧ H' = H1) ∧ flA (FE.contains k) S H H1 ∧ awpS P n (.flo S Fl FE (k + 1) rest :: F) (St.put ⟨t, H⟩ d x H1) Q
def callF (P : Program) (n : Cf) (f : V) (args : List V) (H : List O) (d : Option Nat) (S Fl FE : List Nat) (k : Nat) (rest : List Oper) (F : List Fr) (t : List (Nat × V)) (Q : Ex → St → Prop) : Prop :=
  match f with
  | .one (.fn g cap) => CtF P n g (args ++ cap.map V.one) H d S Fl FE k rest F t Q
  | _ => False
theorem callF_fn {g : FuncId} {cap : List C} {args : List V} {H : List O} {d : Option Nat} {S Fl FE : List Nat} {k : Nat} {rest : List Oper} {t : List (Nat × V)} : callF P n (.one (.fn g cap)) args H d S Fl FE k rest F t Q = CtF P n g (args ++ cap.map V.one) H d S Fl FE k rest F t Q := rfl
def floStep (P : Program) (n : Cf) (e : Bool) (fo : Option (Operand × Array Operand)) (d : Option Nat) (pos : String) (op : Op) (t : List (Nat × V)) (H : List O) (S Fl FE : List Nat) (k : Nat) (rest : List Oper) (F : List Fr) (Q : Ex → St → Prop) : Prop :=
  match e with
  | true => match fo with
    | some (f, args) => callF P n (rhoL t f) (args.toList.map (rhoL t)) H d S Fl FE k rest F t Q
    | none => eStepF P n (stepF P pos op (rhoL t) H) H d S Fl FE k rest F t Q
  | false => qStepF P n (stepF P pos op (rhoL t) H) H (flS P (Fl.contains k) pos op t H S) d S Fl FE k rest F t Q
theorem isUser_eq (op : Op) : isUser op = (Op.fnOf op).isSome := by
  cases op with
  | call c =>
    obtain ⟨cl, args, ats⟩ := c
    cases cl <;> rfl
  | _ => rfl
theorem flS_eq {b : Bool} {pos : String} {op : Op} {t : List (Nat × V)} {H : List O} {S : List Nat} : (b = true → stableQ P pos op (rhoL t) H S) = flS P b pos op t H S := by cases b <;> simp [flS]
theorem flA_eq {b : Bool} {S : List Nat} {H H1 : List O} : (b = true → agree S H H1) = flA b S H H1 := by cases b <;> simp [flA]
theorem f_cons {S Fl FE : List Nat} {k : Nat} {d : Option Nat} {op : Op} {ty : TypeId} {pos : String} {aft : Array Edge} {rest : List Oper} {t : List (Nat × V)} {H : List O} :
    awpS P n (.flo S Fl FE k (⟨d, op, ty, pos, aft, none⟩ :: rest) :: F) ⟨t, H⟩ Q = floStep P n (effO op || (Op.fnOf op).isSome) (Op.fnOf op) d pos op t H S Fl FE k rest F Q := by
  show awpF P S Fl FE k _ _ _ = _
  rw [awpF]
  simp only [effF, isUser_eq, floStep, rho_eq, flS_eq, flA_eq]
  cases he : (effO op || (Op.fnOf op).isSome) with
  | false => rfl
  | true =>
    simp only
    split
    · rename_i f args ats
      simp only [Op.fnOf, callF]
      split
      · rename_i hf; rw [hf]; rfl
      · rename_i hf
        split
        · rename_i hf2; exact (hf _ _ hf2).elim
        · rfl
    · rename_i h0
      have : Op.fnOf op = none := by
        cases op with
        | call c =>
          obtain ⟨cl, args, ats⟩ := c
          cases cl with
          | value f => exact (h0 f args ats rfl).elim
          | invoke r m => rfl
          | builtin b => rfl
        | _ => rfl
      rw [this]
      rfl

/-! The end. -/
theorem q_end {rs : List ResultVar} {K : V → List O → Prop} : endK P rs K .normal st = resK P rs st K := rfl
theorem q_endR {rs : List ResultVar} {K : V → List O → Prop} : endK P rs K .ret st = resK P rs st K := rfl
theorem r_one {i : Nat} {t : List (Nat × V)} {H : List O} {K : V → List O → Prop} : resK P [.tmp i] ⟨t, H⟩ K = K (look t i) H := by simp [resK, resOf]
theorem r_none {t : List (Nat × V)} {H : List O} {K : V → List O → Prop} : resK P [] ⟨t, H⟩ K = K (.tup []) H := by simp [resK]
theorem r_two {i j : Nat} {t : List (Nat × V)} {H : List O} {K : V → List O → Prop} : resK P [.tmp i, .tmp j] ⟨t, H⟩ K = K (.tup [look t i, look t j]) H := by simp [resK, resOf]
theorem r_three {i j k : Nat} {t : List (Nat × V)} {H : List O} {K : V → List O → Prop} : resK P [.tmp i, .tmp j, .tmp k] ⟨t, H⟩ K = K (.tup [look t i, look t j, look t k]) H := by simp [resK, resOf]

/-! Calls of functions that only compute; loops. -/
theorem call_D {f : FuncId} {args args' : List V} {H : List O} {d : Nat} {all : Array Oper} {rest : List Oper} {N : List Fo} {t : List (Nat × V)} {x : V} (h : Pu P f args' x) (ha : args.map (V.view H) = args') (hl : ltVs 0 args' = true) (hx : x.lt 0 = true)
    (hb : args.all (fun a => !a.own) = true ∨ x.scalar = true) (hk : awpS P n (.draw all rest N :: F) ⟨(d, x) :: t, H⟩ Q) : CtD P n f args H (some d) all rest N F t Q := ⟨x, call_pure h ha hl hx hb ⟨rfl, rfl⟩, hk⟩

/-- What is behind a round of a loop: the frame that stands for the loop. -/
def loopQ (P : Program) (n : Cf) (c : Code) (F : List Fr) (Q : Ex → St → Prop) : Ex → St → Prop := thenQ (fun st => LoopS P n c F st Q) (qF P n Q F)
theorem q_loop {c : Code} : loopQ P n c F Q .normal st = LoopS P n c F st Q := rfl
theorem q_loopE {c : Code} {id : Nat} : loopQ P n c F Q (.exit id) st = exitS P n id F st Q := rfl
theorem q_loopG {c : Code} {l : Nat} : loopQ P n c F Q (.goto l) st = gotoS P n l F st Q := rfl
theorem q_loopR {c : Code} : loopQ P n c F Q .ret st = Q .ret st := by show qF P n Q F .ret st = _; rw [qF_ret]

theorem purge_to {body : Code} (ks : List Nat) (m : Nat) (s' : St) (hm : n.m ≤ m) (hk : keepLt m ks st.t = true) (ho : ((st.H.take m).all (O.lt m)) = true) (e : (⟨keepT ks st.t, st.H.take m⟩ : St) = s') (h : LoopS P n body F s' Q) : LoopS P n body F st Q :=
  LoopSem.purge ks m hm hk ho (e ▸ h)
end

theorem ltRows_set {m : Nat} {rows : List (List C)} {i : Nat} {r : List C} (h : ltRows m rows = true) (hr : ltRow m r = true) : ltRows m (rows.set i r) = true := by
  rw [ltRows_iff] at *; intro x hx; rcases List.mem_or_eq_of_mem_set hx with hx | rfl; exact h x hx; exact hr
theorem ltRows_rep {m n : Nat} {r : List C} (hr : ltRow m r = true) : ltRows m (List.replicate n r) = true := by
  rw [ltRows_iff]; intro x hx; rw [List.eq_of_mem_replicate hx]; exact hr
theorem ltRows_app {m : Nat} {a b : List (List C)} : ltRows m (a ++ b) = (ltRows m a && ltRows m b) := by
  rw [Bool.eq_iff_iff, Bool.and_eq_true]; simp only [ltRows_iff, List.mem_append]
  exact ⟨fun h => ⟨fun r hr => h r (.inl hr), fun r hr => h r (.inr hr)⟩, fun h r hr => hr.elim (h.1 r) (h.2 r)⟩
theorem ltRows_drop {m k : Nat} {a : List (List C)} (h : ltRows m a = true) : ltRows m (a.drop k) = true := by
  rw [ltRows_iff] at *; exact fun r hr => h r (List.mem_of_mem_drop hr)
theorem ltRows_map {m : Nat} {α : Type} (f : α → List C) (hf : ∀ a, ltRow m (f a) = true) (l : List α) : ltRows m (l.map f) = true := by
  rw [ltRows_iff]; intro r hr; obtain ⟨a, _, rfl⟩ := List.mem_map.1 hr; exact hf a
theorem ltRows_iffm {m : Nat} {α : Type} (f : α → List C) (l : List α) : ltRows m (l.map f) = true ↔ ∀ a ∈ l, ltRow m (f a) = true := by
  rw [ltRows_iff]; simp

attribute [irreducible] guardS guardD condS
end Go.Lz

end
section
/- Lz16: the rules of the reckoning, under one name. -/
namespace Go.Lz
set_option linter.unusedVariables false
set_option linter.unusedSimpArgs false
attribute [go_sem] s_flo f_nil f_cons qf_mk qf_ok ef_mk ef_mkN ef_ok ef_okN callF_fn j_flo x_flo floStep floatAt floPos flS_f flA_f flA_t agree_n agree_c s_nil s_skip s_label s_seq s_block s_scope s_scp s_goto j_nil j_code j_ops j_draw j_blk j_scp x_scp q_loopG isSh shF s_loop s_blk s_exit s_ret x_nil x_code x_ops x_draw x_blk s_region s_draw s_cond q_condT q_condF o_nil st_ok st_t st_mk st_okN st_tN st_mkN callS_fn Op.fnOf opS o_cons gdst gval o_guard g_un g_tt g_ff g_tf g_ft d_nil sd_ok sd_t sd_mk callD_fn quietD d_cons fs_some fs_someN fs_none freshL effT isUser tailPos effO um_nil um_cons unmet namesOf guardE Op.operands mfind mput keyEq keyB lookupF mapPutF d_guard gd_un gd_tt gd_ff gd_tf gd_ft q_end q_endR r_one r_none r_two r_three q_loop q_loopE q_loopR stepF rhoL_tmp rhoL_const rhoL_func look_if V.ofV C.ofV loK hiK binF intF strF loadF storeF rowOf newF ldV wd V.cs convZ cvPos biZ fzPos appendZ mslIds fzC fzPc fzP andR maskF biF lenF pickF unF convF fieldAddrF fieldF indexAddrF indexF appendF rowsOf makeSliceF mkPos mkPosL isMk sliceF sliceRows bnd copyF buildF fillC buildSliceF fillR splice onesOf argsT V.view ownLit List.contains_cons List.contains_nil C.unf C.plain unfRows plainRows C.view vMsl vRef vn_int vn_bool vn_str vn_sl vn_slf vn_iptr vn_nilfn vn_nilif vn_nilp vn_nilm vn_mp vn_msl4 vn_msl3 vn_msl2 vn_msl1 vn_ref4 vn_ref3 vn_ref2 vn_ref1 vn_fn4 vn_fn3 vn_fn2 vn_fn1 vr_nil vr_cons vr_app vr_rep vr_set vr_take vr_drop List.isEmpty_nil List.isEmpty_cons V.lt C.lt ltRow ltRows ltVs viewVs V.own C.own V.scalar C.scalar scalars Int.natCast_zero Int.natCast_one Int.cast_ofNat_Int Int.toNat_natCast_add_one Int.ofNat_lt Int.ofNat_le Int.natCast_nonneg Option.map_none Option.isSome_none Option.isSome_some Option.isNone_none Option.isNone_some Nat.lt_irrefl keepT keepLt nth ltRows_iffm O.lt List.all_cons List.all_nil List.any_cons List.any_nil Bool.and_true Bool.true_and Bool.and_false Bool.false_and Bool.or_true Bool.or_false Bool.true_or Bool.false_or Bool.and_self decide_true decide_false decide_eq_true_eq decide_eq_false_iff_not List.map_cons List.map_nil List.append_nil List.nil_append List.cons_append List.length_cons List.length_nil List.getElem?_cons_zero List.getElem?_cons_succ List.getElem?_toArray List.length_map List.getD_eq_getElem?_getD List.getElem?_map Option.bind_some Option.map_some Option.getD_some List.take_succ_cons List.take_zero List.drop_succ_cons List.drop_zero List.set_cons_zero List.set_cons_succ List.replicate_succ List.replicate_zero List.mapM_cons List.mapM_nil Option.pure_def Option.bind_eq_bind Nat.zero_add Nat.add_zero Int.toNat_zero Int.toNat_natCast if_true if_false and_true true_and and_self ne_eq not_true_eq_false not_false_eq_true Bool.false_eq_true Bool.true_eq_false Bool.not_true Bool.not_false forall_const true_implies false_implies implies_true or_self or_false false_or gt_iff_lt Nat.sub_zero Nat.le_refl Option.some.injEq
attribute [go_sem] ownLitL fzPosL cvPosL eqF nilF clearF Lf.i.injEq Lf.b.injEq Lf.s.injEq List.cons.injEq
attribute [go_sem low] q_cond g_b gd_b
end Go.Lz

end
section
/- LzE: the arguments of a call as abstract values of their types; a row out of a pure contract. -/
namespace Go.Lz
set_option linter.unusedVariables false
set_option linter.unusedSimpArgs false
open Go.ChangeShapes Go.WideShapes Go.ChangeAt Go.RowKit

/-- Cells that are a value of a type: of whole numbers, bools, strings, slices, structs, arrays. -/
inductive Ty (P : Program) : TypeId → List C → Prop
  | bool {t : TypeId} {b : Bool} (h : P.underlying t = some .bool) : Ty P t [.bool b]
  | int {t : TypeId} {k : IntKind} {n : Int} (h : P.underlying t = some (.int k)) (hn : k.min ≤ n ∧ n ≤ k.max) : Ty P t [.int k n]
  | str {t : TypeId} {s : List UInt8} (h : P.underlying t = some .string) (hl : s.length ≤ lim) : Ty P t [.str s]
  | slice {t e : TypeId} {rows : List (List C)} (h : P.underlying t = some (.slice e)) (hl : rows.length ≤ lim) (hr : ∀ r ∈ rows, Ty P e r) : Ty P t [.sl rows]
  | struct {t : TypeId} {fs : Array Field} {cs : List C} (h : P.underlying t = some (.struct fs)) (hl : cs.length = P.cellsOf t)
      (hf : ∀ f ∈ fs.toList, Ty P f.type ((cs.drop f.offset).take (P.cellsOf f.type))) : Ty P t cs
  | array {t e : TypeId} {n : Nat} {cs : List C} (h : P.underlying t = some (.array n e)) (hl : cs.length = P.cellsOf t)
      (hf : ∀ i, i < n → Ty P e ((cs.drop (i * P.cellsOf e)).take (P.cellsOf e))) : Ty P t cs

def laysF (P : Program) : Nat → List Field → Option Nat
  | o, [] => some o
  | o, f :: fs => if f.offset = o then laysF P (o + P.cellsOf f.type) fs else none

def plainT (P : Program) (S : List TypeId) (t : TypeId) : Bool :=
  match P.underlying t with
  | some .bool => P.cellsOf t == 1
  | some (.int _) => P.cellsOf t == 1
  | some .string => P.cellsOf t == 1
  | some (.slice e) => P.cellsOf t == 1 && (S.contains e && (decide (0 < P.bytesOf e) && decide (0 < P.cellsOf e)))
  | some (.struct fs) => (laysF P 0 fs.toList == some (P.cellsOf t)) && fs.toList.all (fun f => S.contains f.type)
  | some (.array n e) => (n * P.cellsOf e == P.cellsOf t) && S.contains e
  | _ => false

/-- These types are plain ones, and all that they are made of is among them. -/
def plainB (P : Program) (S : List TypeId) : Bool := S.all (plainT P S)

def Rel (E : Env) (vs : List Value) (cs : List C) : Prop := vs.length = cs.length ∧ ∀ (j : Nat) (c : C), cs[j]? = some c → ∃ v, vs[j]? = some v ∧ CRel E c v

theorem Rel.one {E : Env} {c : C} {v : Value} (h : CRel E c v) : Rel E [v] [c] := ⟨rfl, fun j d hj => by
  cases j with
  | zero => simp at hj; subst hj; exact ⟨v, rfl, h⟩
  | succ j => simp at hj⟩

theorem Rel.app {E : Env} {a b : List Value} {x y : List C} (h : Rel E a x) (k : Rel E b y) : Rel E (a ++ b) (x ++ y) := by
  refine ⟨by simp [h.1, k.1], fun j c hj => ?_⟩
  rcases Nat.lt_or_ge j x.length with hlt | hge
  · rw [List.getElem?_append_left hlt] at hj
    rw [List.getElem?_append_left (by rw [h.1]; exact hlt)]
    exact h.2 j c hj
  · rw [List.getElem?_append_right hge] at hj
    rw [List.getElem?_append_right (by rw [h.1]; exact hge), h.1]
    exact k.2 _ c hj

theorem fields_asm {P : Program} {E : Env} {vs : List Value} {tot : Nat} (hlen : vs.length = tot) : ∀ (fs : List Field) (o : Nat), laysF P o fs = some tot →
    (∀ f ∈ fs, ∃ p, Rel E ((vs.drop f.offset).take (P.cellsOf f.type)) p ∧ Ty P f.type p ∧ p.length = P.cellsOf f.type) →
    o ≤ tot ∧ ∃ q, Rel E (vs.drop o) q ∧ ∀ f ∈ fs, o ≤ f.offset ∧ Ty P f.type ((q.drop (f.offset - o)).take (P.cellsOf f.type))
  | [], o, h, _ => by
    simp only [laysF, Option.some.injEq] at h
    refine ⟨by omega, [], ⟨by simp; omega, by simp⟩, by simp⟩
  | f :: fs, o, h, each => by
    simp only [laysF] at h
    split at h
    · rename_i ho
      obtain ⟨hle, q, hq, hf⟩ := fields_asm hlen fs _ h (fun g hg => each g (List.mem_cons_of_mem _ hg))
      obtain ⟨p, hp, ht, hpl⟩ := each f (List.mem_cons_self ..)
      refine ⟨by omega, p ++ q, ?_, fun g hg => ?_⟩
      · have : vs.drop o = (vs.drop o).take (P.cellsOf f.type) ++ vs.drop (o + P.cellsOf f.type) := by
          rw [← List.drop_drop, List.take_append_drop]
        rw [this, ← ho]
        exact hp.app (by rw [ho]; exact hq)
      · rcases List.mem_cons.1 hg with rfl | hg
        · refine ⟨by omega, ?_⟩
          rw [ho, Nat.sub_self, List.drop_zero, ← hpl, List.take_left]
          exact ht
        · obtain ⟨h1, h2⟩ := hf g hg
          refine ⟨by omega, ?_⟩
          rw [List.drop_append, List.drop_eq_nil_of_le (by omega), List.nil_append, hpl, show g.offset - o - P.cellsOf f.type = g.offset - (o + P.cellsOf f.type) by omega]
          exact h2
    · cases h

theorem array_asm {P : Program} {E : Env} {vs : List Value} {e : TypeId} {n : Nat} (hlen : vs.length = n * P.cellsOf e)
    (each : ∀ i, i < n → ∃ p, Rel E ((vs.drop (i * P.cellsOf e)).take (P.cellsOf e)) p ∧ Ty P e p ∧ p.length = P.cellsOf e) : ∀ k, k ≤ n →
    ∃ q, Rel E (vs.take (k * P.cellsOf e)) q ∧ q.length = k * P.cellsOf e ∧ ∀ i, i < k → Ty P e ((q.drop (i * P.cellsOf e)).take (P.cellsOf e))
  | 0, _ => ⟨[], by simp [Rel], by simp, by simp⟩
  | k + 1, hk => by
    obtain ⟨q, hq, hql, hf⟩ := array_asm hlen each k (by omega)
    obtain ⟨p, hp, ht, hpl⟩ := each k (by omega)
    refine ⟨q ++ p, ?_, by simp [hql, hpl, Nat.add_mul], fun i hi => ?_⟩
    · have : vs.take ((k + 1) * P.cellsOf e) = vs.take (k * P.cellsOf e) ++ (vs.drop (k * P.cellsOf e)).take (P.cellsOf e) := by
        rw [Nat.add_mul, Nat.one_mul, List.take_add]
      rw [this]
      exact hq.app hp
    · rcases Nat.lt_or_ge i k with hlt | hge
      · have h1 : (i + 1) * P.cellsOf e ≤ k * P.cellsOf e := Nat.mul_le_mul_right _ hlt
        rw [Nat.add_mul, Nat.one_mul] at h1
        rw [List.drop_append_of_le_length (by omega), List.take_append_of_le_length (by simp; omega)]
        exact hf i hlt
      · obtain rfl : i = k := by omega
        rw [← hql, List.drop_left, ← hpl, List.take_length]
        exact ht

theorem weightsAll_mem {H : Type} {P : Program} {e : TypeId} : ∀ {l : List (DataW H)} {d : DataW H}, d ∈ l → ∀ m ∈ d.weights P e, m ∈ DataW.weightsAll P e l
  | a :: l, d, hd, m, hm => by
    simp only [DataW.weightsAll, List.mem_append]
    rcases List.mem_cons.1 hd with rfl | hd
    · exact .inl hm
    · exact .inr (weightsAll_mem hd m hm)
  | [], d, hd, m, hm => by simp at hd

theorem add_none {b off i j : Nat} : ((⟨b, off, none⟩ : Addr).add i).add j = ⟨b, off + (i + j), none⟩ := by
  simp only [Addr.add]
  split <;> split <;> simp_all [Nat.add_assoc]

theorem reach_lim : reachBytes ≤ lim := by decide

theorem enter {P : Program} {S : List TypeId} {E : Env} (hEH : E.H = []) (hEF : ∀ b, ¬ E.Fr b) (hp : plainB P S = true) {H : Type} {enc : TypeId × Value → H} {base : Nat} {sp : Nat → Bool} {held : Bool} :
    ∀ (n : Nat) (t : TypeId) (vs : List Value) (x : DataW H × List MemPlace), t ∈ S → DataW.trod enc P E.w base sp held n t vs = some x → (∀ m ∈ x.1.weights P t, m ≤ reachBytes) →
    ∃ cs, Rel E vs cs ∧ Ty P t cs ∧ cs.length = P.cellsOf t := by
  intro n
  induction n with
  | zero => intro t vs x _ h; simp [DataW.trod] at h
  | succ n ih =>
    intro t vs x ht h hw
    have hpt := List.all_eq_true.1 hp t ht
    unfold plainT at hpt
    split at hpt
    · rename_i hu
      obtain ⟨b, rfl, rfl⟩ := DataW.trod_bool hu h
      exact ⟨[.bool b], .one .bool, .bool hu, by simp at hpt; simp [hpt]⟩
    · rename_i k hu
      obtain ⟨m, rfl, rfl, hwf⟩ := DataW.trod_int hu h
      have hr : k.min ≤ m ∧ m ≤ k.max := by simpa [Lit.wf] using hwf
      exact ⟨[.int k m], .one (.int hr), .int hu hr, by simp at hpt; simp [hpt]⟩
    · rename_i hu
      obtain ⟨s, rfl, rfl, hsz⟩ := DataW.trod_string hu h
      have hl : s.data.toList.length ≤ lim := Nat.le_trans (hw _ (by simp [DataW.weights])) reach_lim
      exact ⟨[.str s.data.toList], .one (.str rfl hl), .str hu hl, by simp at hpt; simp [hpt]⟩
    · rename_i e hu
      simp only [Bool.and_eq_true, beq_iff_eq, decide_eq_true_eq, List.contains_eq_mem] at hpt
      obtain ⟨hc1, heS, hbytes, hcells⟩ := hpt
      rcases DataW.trod_slice hu h with ⟨rfl, rfl⟩ | ⟨a, len, cap, elems, rest, n', hn', rfl, rfl, _, hlc, _, hlen, hel, _, _⟩
      · refine ⟨[.sl []], .one (.sl (fun _ _ => undef) 0 rfl (by simp) (by simp) (by simp) (by simp) (by simp [at2])), .slice hu (by simp) (by simp), by simp [hc1]⟩
      · obtain rfl : n = n' := by omega
        have each : ∀ i, ∃ r : List C, i < len → (Ty P e r ∧ r.length = P.cellsOf e ∧ ∀ j c, r[j]? = some c → ∃ v, E.w.cell? ((a.add (i * P.cellsOf e)).add j) = some v ∧ CRel E c v) := by
          intro i
          by_cases hi : i < len
          · have h1 := hel i hi
            have hi' : i < elems.length := by omega
            rw [List.getElem?_eq_getElem hi', Option.bind_eq_some_iff] at h1
            obtain ⟨cs', hcs, hy⟩ := h1
            obtain ⟨_, hl', hcell⟩ := World.cells?_some hcs
            obtain ⟨cs, hrel, hty, hcl⟩ := ih e cs' _ heS hy (fun m hm => hw m (by
              simp only [DataW.weights, hu, List.mem_cons, List.mem_append]
              exact .inr (.inl (weightsAll_mem (List.mem_map.2 ⟨_, List.getElem_mem hi', rfl⟩) m hm))))
            refine ⟨cs, fun _ => ⟨hty, hcl, fun j c hj => ?_⟩⟩
            obtain ⟨v, hv, hr⟩ := hrel.2 j c hj
            have hjl : j < P.cellsOf e := by rw [← hcl]; exact (List.getElem?_eq_some_iff.1 hj).1
            exact ⟨v, by rw [hcell j hjl]; exact hv, hr⟩
          · exact ⟨[], fun h => absurd h hi⟩
        obtain ⟨f, hf'⟩ := Classical.axiomOfChoice each
        have hlenlim : len ≤ lim := by
          have := hw ((elems.length + rest.length) * P.bytesOf e) (by simp [DataW.weights, hu])
          have h2 : elems.length * 1 ≤ (elems.length + rest.length) * P.bytesOf e := Nat.mul_le_mul (by omega) hbytes
          have := reach_lim
          omega
        have hat : ∀ i j c, at2 ((List.range len).map f) i j = some c → i < len ∧ (f i)[j]? = some c := by
          intro i j c hij
          obtain ⟨r, hr, hj⟩ := at2_some.1 hij
          simp only [List.getElem?_map, Option.map_eq_some_iff] at hr
          obtain ⟨i', hi', rfl⟩ := hr
          obtain ⟨hlt, he⟩ := List.getElem?_eq_some_iff.1 hi'
          simp at hlt he
          subst he
          exact ⟨hlt, hj⟩
        refine ⟨[.sl ((List.range len).map f)], .one (.sl (fun i j => (E.w.cell? ((a.add (i * P.cellsOf e)).add j)).getD undef) (P.cellsOf e) (by simp) (by simpa using hlc) (by simpa using hlenlim) ?_ ?_ ?_), .slice hu (by simpa using hlenlim) ?_, by simp [hc1]⟩
        · intro r hr
          obtain ⟨i, hi, rfl⟩ := List.mem_map.1 hr
          exact (hf' i (by simpa using hi)).2.1
        · intro hne
          have hpos : 0 < len := by
            rcases Nat.eq_zero_or_pos len with h0 | h0
            · subst h0; simp at hne
            · exact h0
          obtain ⟨_, hl0, hc0⟩ := hf' 0 hpos
          have hj0 : (f 0)[0]? = some ((f 0)[0]'(by omega)) := List.getElem?_eq_getElem _
          obtain ⟨v, hv, _⟩ := hc0 0 _ hj0
          have ha0 : (a.add (0 * P.cellsOf e)).add 0 = a := by simp [Addr.add]
          rw [ha0] at hv
          have hsp : a.spot = none ∧ a.block < E.w.heap.size := by
            unfold World.cell? at hv
            split at hv
            · rename_i hh
              split at hv
              · cases hv
              · rename_i hs
                exact ⟨by simpa using hs, (Array.getElem?_eq_some_iff.1 hh).1⟩
            · cases hv
          obtain ⟨b, off, spot⟩ := a
          obtain ⟨rfl, hlt⟩ := hsp
          refine ⟨b, off, rfl, ⟨hlt, hEF b, ?_⟩, fun i j c hij => ?_⟩
          · rintro ⟨id, o, ho, _⟩
            simp [hEH] at ho
          · obtain ⟨hi, hj⟩ := hat i j c hij
            obtain ⟨v, hv, _⟩ := (hf' i hi).2.2 j c hj
            simp only [hv, Option.getD_some]
            rw [← add_none]
            exact hv
        · intro i j c hij
          obtain ⟨hi, hj⟩ := hat i j c hij
          obtain ⟨v, hv, hr⟩ := (hf' i hi).2.2 j c hj
          simp only [hv, Option.getD_some]
          exact hr
        · intro r hr
          obtain ⟨i, hi, rfl⟩ := List.mem_map.1 hr
          exact (hf' i (by simpa using hi)).1
    · rename_i fs hu
      simp only [Bool.and_eq_true, beq_iff_eq, List.all_eq_true, List.contains_eq_mem, decide_eq_true_eq] at hpt
      obtain ⟨hlay, hfS⟩ := hpt
      obtain ⟨xs, n', hn', rfl, hcl, hxl, hx⟩ := DataW.trod_struct hu h
      obtain rfl : n = n' := by omega
      obtain ⟨_, q, hq, hf⟩ := fields_asm (E := E) hcl fs.toList 0 hlay (by
        intro f hf
        obtain ⟨i, hi⟩ := List.getElem?_of_mem hf
        have hi2 : fs[i]? = some f := by simpa using hi
        have hil : i < xs.length := by rw [hxl]; exact (Array.getElem?_eq_some_iff.1 hi2).1
        have h1 := hx i f hi2
        rw [List.getElem?_eq_getElem hil] at h1
        exact ih f.type _ _ (hfS f hf) h1 (fun m hm => hw m (by
          simp only [DataW.weights, hu]
          exact DataW.weights_mem_each (j := i) (t := f.type) (d := (xs[i]).1) (by rw [List.getElem?_map, hi]; rfl) (by rw [List.getElem?_map, List.getElem?_eq_getElem hil]; rfl) m hm)))
      have hl : q.length = P.cellsOf t := by rw [← hq.1]; simpa using hcl
      exact ⟨q, by simpa using hq, .struct hu hl fun f hm => by simpa using (hf f hm).2, hl⟩
    · rename_i k e hu
      simp only [Bool.and_eq_true, beq_iff_eq, List.contains_eq_mem, decide_eq_true_eq] at hpt
      obtain ⟨hsz, heS⟩ := hpt
      obtain ⟨xs, n', hn', rfl, hcl, hxl, hx⟩ := DataW.trod_array hu h
      obtain rfl : n = n' := by omega
      obtain ⟨q, hq, hql, hf⟩ := array_asm (P := P) (E := E) (vs := vs) (e := e) (n := k) (by omega) (by
        intro i hi
        have hil : i < xs.length := by omega
        have h1 := hx i hi
        rw [List.getElem?_eq_getElem hil] at h1
        exact ih e _ _ heS h1 (fun m hm => hw m (by
          simp only [DataW.weights, hu]
          exact weightsAll_mem (List.mem_map.2 ⟨_, List.getElem_mem hil, rfl⟩) m hm))) k (Nat.le_refl k)
      have e1 : vs.take (k * P.cellsOf e) = vs := List.take_of_length_le (by omega)
      rw [e1] at hq
      exact ⟨q, hq, .array hu (by omega) hf, by omega⟩
    · cases hpt

/-! ### Arguments. -/

def isAggB (P : Program) (t : TypeId) : Bool :=
  match P.underlying t with
  | some (.struct _) => true
  | some (.array _ _) => true
  | _ => false

inductive TyV (P : Program) (t : TypeId) : V → Prop
  | one {c : C} (h : Ty P t [c]) (hu : isAggB P t = false) : TyV P t (.one c)
  | agg {cs : List C} (h : Ty P t cs) (hu : isAggB P t = true) : TyV P t (.agg cs)

/-- Values of these types. -/
def TysV (P : Program) : List TypeId → List V → Prop
  | [], [] => True
  | t :: ts, x :: xs => TyV P t x ∧ TysV P ts xs
  | _, _ => False

theorem cells_of_ok {P : Program} {S : List TypeId} (hp : plainB P S = true) {W : World} {base : Nat} {t : TypeId} {v : Value} (ht : t ∈ S) (hv : Value.okWide P W .any base t v) (hu : isAggB P t = false) : v.cells = #[v] := by
  have hpt := List.all_eq_true.1 hp t ht
  unfold plainT at hpt
  unfold isAggB at hu
  unfold Value.okWide at hv
  split at hpt
  case h_5 fs he => rw [he] at hu; cases hu
  case h_6 k e he => rw [he] at hu; cases hu
  case h_7 => cases hpt
  all_goals
    rename_i he
    simp only [he, Cell.okWide, Cell.ok] at hv
    cases v <;> first | rfl | (exact hv.elim) | (simp at hv)

theorem enter_one {P : Program} {S : List TypeId} {E : Env} (hEH : E.H = []) (hEF : ∀ b, ¬ E.Fr b) (hp : plainB P S = true) {H : Type} {enc : TypeId × Value → H} {base base' : Nat} {sp : Nat → Bool} {held : Bool}
    {t : TypeId} {v : Value} {d : DataW H} {ps : List MemPlace} (ht : t ∈ S) (hv : Value.okWide P E.w .any base' t v) (h : DataW.Trod enc P E.w base sp held t v d ps) (hw : ∀ m ∈ d.weights P t, m ≤ reachBytes) :
    ∃ X, VRel E X v ∧ TyV P t X := by
  obtain ⟨n, hn⟩ := h
  obtain ⟨cs, hrel, hty, hl⟩ := enter hEH hEF hp n t _ _ ht hn hw
  cases hu : isAggB P t with
  | true =>
    have : ∃ vs, v = .agg vs := by
      unfold isAggB at hu
      unfold Value.okWide at hv
      split at hu
      · rename_i he
        rw [he] at hv
        obtain ⟨vs, h, _⟩ := hv
        exact ⟨vs, h⟩
      · rename_i he
        rw [he] at hv
        obtain ⟨vs, h, _⟩ := hv
        exact ⟨vs, h⟩
      · cases hu
    obtain ⟨vs, rfl⟩ := this
    refine ⟨.agg cs, .agg ?_ fun j c hj => ?_, .agg hty hu⟩
    · simpa [Value.cells] using hrel.1
    · obtain ⟨u, hu, hr⟩ := hrel.2 j c hj
      simp only [Value.cells] at hu
      have : vs[j]? = some u := by simpa using hu
      simp only [Array.getD_eq_getD_getElem?, this, Option.getD_some]
      exact hr
  | false =>
    have hc := cells_of_ok hp ht hv hu
    rw [hc] at hrel
    have h1 : cs.length = 1 := by simpa using hrel.1.symm
    obtain ⟨c, rfl⟩ : ∃ c, cs = [c] := by
      cases cs with
      | nil => simp at h1
      | cons c r => cases r with
        | nil => exact ⟨c, rfl⟩
        | cons => simp at h1
    obtain ⟨u, hu', hr⟩ := hrel.2 0 c rfl
    simp at hu'
    subst hu'
    exact ⟨.one c, .one hr, .one hty hu⟩

theorem enter_all {P : Program} {S : List TypeId} {E : Env} (hEH : E.H = []) (hEF : ∀ b, ¬ E.Fr b) (hp : plainB P S = true) {H : Type} {enc : TypeId × Value → H} {base base' : Nat} {sp : Nat → Bool} {held : Bool} :
    ∀ (ts : List TypeId) (vs : List Value) (ds : List (DataW H)) (ps : List MemPlace), (∀ t ∈ ts, t ∈ S) → (∀ (j : Nat) t v, ts[j]? = some t → vs[j]? = some v → Value.okWide P E.w .any base' t v) →
    DataW.TrodAll enc P E.w base sp held ts vs ds ps → (∀ m ∈ DataW.weightsEach P ts ds, m ≤ reachBytes) →
    ∃ Xs, TysV P ts Xs ∧ vs.length = Xs.length ∧ ds.length = ts.length ∧ ∀ (j : Nat) (x : V), Xs[j]? = some x → ∃ v, vs[j]? = some v ∧ VRel E x v
  | [], vs, ds, ps, _, _, h, _ => by
    cases vs <;> cases ds <;> simp [DataW.TrodAll] at h
    exact ⟨[], trivial, rfl, rfl, by simp⟩
  | t :: ts, vs, ds, ps, hS, hv, h, hw => by
    cases vs with
    | nil => cases ds <;> simp [DataW.TrodAll] at h
    | cons v vs =>
      cases ds with
      | nil => simp [DataW.TrodAll] at h
      | cons d ds =>
        obtain ⟨p, q, h1, h2, _⟩ := h
        obtain ⟨X, hX, hT⟩ := enter_one hEH hEF hp (hS t (List.mem_cons_self ..)) (hv 0 t v rfl rfl) h1 (fun m hm => hw m (by simp [DataW.weightsEach, hm]))
        obtain ⟨Xs, hTs, hl, hd, hXs⟩ := enter_all hEH hEF hp ts vs ds q (fun t ht => hS t (List.mem_cons_of_mem _ ht)) (fun j t v h1 h2 => hv (j + 1) t v (by simpa using h1) (by simpa using h2)) h2
          (fun m hm => hw m (by simp [DataW.weightsEach, hm]))
        refine ⟨X :: Xs, ⟨hT, hTs⟩, by simp [hl], by simp [hd], fun j x hj => ?_⟩
        cases j with
        | zero => simp at hj; subst hj; exact ⟨v, rfl, hX⟩
        | succ j => simpa using hXs j x (by simpa using hj)

theorem trodAll_map {P : Program} {H : Type} {enc : TypeId × Value → H} {w w' : World} {base base' : Nat} {sp sp' : Nat → Bool} {held held' : Bool} :
    ∀ (ts : List TypeId) (vs : List Value) (ds : List (DataW H)) (ps : List MemPlace), (∀ t ∈ ts, ∀ v d p, DataW.Trod enc P w base sp held t v d p → DataW.Trod enc P w' base' sp' held' t v d p) →
    DataW.TrodAll enc P w base sp held ts vs ds ps → DataW.TrodAll enc P w' base' sp' held' ts vs ds ps
  | [], vs, ds, ps, _, h => by
    cases vs <;> cases ds <;> simp [DataW.TrodAll] at h ⊢
    exact h
  | t :: ts, vs, ds, ps, hm, h => by
    cases vs with
    | nil => cases ds <;> simp [DataW.TrodAll] at h
    | cons v vs =>
      cases ds with
      | nil => simp [DataW.TrodAll] at h
      | cons d ds =>
        obtain ⟨p, q, h1, h2, h3⟩ := h
        exact ⟨p, q, hm t (List.mem_cons_self ..) v d p h1, trodAll_map ts vs ds q (fun t ht => hm t (List.mem_cons_of_mem _ ht)) h2, h3⟩

theorem Trans.below {E E' : Env} (t : Trans E E') (hH : E.H = []) : Below E.w.heap.size E.w E'.w :=
  ⟨t.os, t.tape, t.output, t.size, fun k hk => t.keep k hk (by rintro ⟨id, o, ho, _⟩; simp [hH] at ho)⟩

/-- The row, out of a contract for all arguments of the types. -/
theorem lifted_of_pu {C : Checked} {os : Os} {f : FuncId} {fn : Func} {s : ChangeSpec} {conds : List PathCond} {H : Type} {enc : TypeId × Value → H} {b : TypeId} {S : List TypeId}
    (own : ownKnob C.prog.godebug = none) (started : os.Started) (noInit : C.prog.inits.idxOf? f = none) (hfn : C.prog.funcs[f]? = some fn)
    (witness : ∃ (w : World) (tape : Tape) (i : Input), w.os = os ∧ (w.forCall tape i).Shaped C.prog ∧ i.vars = [] ∧ Input.okWide C.prog (w.forCall tape i) .any w.heap.size f i ∧
      s.pre6 enc C.prog fn conds false (w.forCall tape i).memory i.args ∧ ({} : Assume).holds C.prog (lone (Frame.enter C.prog f i.args .normal) [] (w.forCall tape i)))
    (hp : plainB C.prog S = true) (hpar : fn.params.toList.all (fun t => S.contains t && C.prog.readableRec t && decide (t < C.prog.types.size)) = true) (hlaid : laidOutB C.prog = true)
    (hvars : s.vars = []) (hres : fn.resultTypes = #[b]) (hb : C.prog.underlying b = some .bool)
    (hspec : ∀ (ds : List (DataW H)), ds.length = fn.params.toList.length → s.fn H ds = { results := [.lit (.bool true)], args := ds })
    (hpu : ∀ Xs, TysV C.prog fn.params.toList Xs → conds = [] → Pu C.prog f Xs (.one (.bool true))) (hcond : conds = []) (hgt : GT = [] := by rfl) :
    ReturnsInHanded {} C os f .any (s.pre6 enc C.prog fn conds false) (s.post enc C.prog fn false true false false) := by
  refine returnsInHanded_of_change_sized own started noInit hfn witness ?_
  intro W base args ds gs before hval hW hcnd hsz _
  have hW' := hW
  obtain ⟨p, q, hA, hV, rfl, hfz, hnd⟩ := hW
  have hV' := hV
  rw [hvars] at hV'
  obtain ⟨rfl, rfl⟩ := trodVars_none hV'
  simp only [List.all_eq_true, Bool.and_eq_true, List.contains_eq_mem, decide_eq_true_eq] at hpar
  have hw : ∀ m ∈ DataW.weightsEach C.prog fn.params.toList ds, m ≤ reachBytes := by
    intro m hm
    have : m ∈ DataW.weightsEach C.prog (fn.params.toList ++ s.plain.varTypes C.prog) (ds ++ []) := by
      rw [List.append_nil]
      clear hsz hA hW' hval hcnd
      revert hm
      generalize fn.params.toList = ts
      induction ts generalizing ds with
      | nil => intro hm; simp [DataW.weightsEach] at hm
      | cons t ts ih =>
        cases ds with
        | nil => intro hm; simp [DataW.weightsEach] at hm
        | cons d ds =>
          intro hm
          simp only [DataW.weightsEach, List.cons_append, List.mem_append] at hm ⊢
          exact hm.imp id (ih ds)
    simpa using List.all_eq_true.1 hsz m this
  obtain ⟨Xs, hT, hl, hdl, hX⟩ := enter_all (E := ⟨W, fun _ => False, fun _ => ⟨0, 0, 0⟩, []⟩) rfl (fun _ h => h) hp fn.params.toList args.toList ds p (fun t ht => (hpar t ht).1.1)
    (fun j t v h1 h2 => hval j t v (by simpa using h1) (by simpa using h2)) hA hw
  refine Calls.mono ((hpu Xs hT hcond).2 ⟨W, fun _ => False, fun _ => ⟨0, 0, 0⟩, []⟩ args ⟨by simp, by simp, by simp, fun _ h => h.elim, fun p hp => by rw [hgt] at hp; cases hp⟩ rfl (by simpa using hl) (fun j x hj => ?_)) ?_
  · obtain ⟨v, hv, hr⟩ := hX j x hj
    have : args[j]? = some v := by simpa using hv
    rw [Array.getD_eq_getD_getElem?, this]
    exact hr
  · rintro e W' ⟨v, y, E', rfl, rfl, ⟨rfl, hH'⟩, hv, hh, tr⟩
    have bel := tr.below rfl
    obtain rfl : v = .bool true := by
      cases hv with
      | one h => cases h; rfl
    refine ⟨_, rfl, ds, [], p ++ [], [], p, [], hW', ?_, ?_, ?_, bel.frame _, fun h => by cases h⟩
    · rw [List.append_nil, hspec ds (by simpa using hdl), hres]
      exact trodAll_mk1 (shut_bool hb _)
    · rw [List.append_nil, hspec ds (by simpa using hdl)]
      refine trodAll_map _ _ _ _ ?_ hA
      intro t ht v d pp h
      exact Below.trod hlaid (hpar t ht).1.2 (hpar t ht).2 h bel (by obtain ⟨m, hm⟩ := h; exact DataW.trod_lt m _ _ _ hm)
    · rw [List.append_nil, hspec ds (by simpa using hdl), hvars]
      rfl

/-! ### What a value of a type is. -/
theorem Ty.int_inv {P : Program} {t : TypeId} {k : IntKind} {cs : List C} (hu : P.underlying t = some (.int k)) (h : Ty P t cs) : ∃ n, cs = [.int k n] ∧ k.min ≤ n ∧ n ≤ k.max := by
  cases h with
  | int h hn => rw [hu] at h; cases h; exact ⟨_, rfl, hn⟩
  | bool h => rw [hu] at h; cases h
  | str h => rw [hu] at h; cases h
  | slice h => rw [hu] at h; cases h
  | struct h => rw [hu] at h; cases h
  | array h => rw [hu] at h; cases h
theorem Ty.bool_inv {P : Program} {t : TypeId} {cs : List C} (hu : P.underlying t = some .bool) (h : Ty P t cs) : ∃ n, cs = [.bool n] := by
  cases h with
  | int h hn => rw [hu] at h; cases h
  | bool h => exact ⟨_, rfl⟩
  | str h => rw [hu] at h; cases h
  | slice h => rw [hu] at h; cases h
  | struct h => rw [hu] at h; cases h
  | array h => rw [hu] at h; cases h
theorem Ty.str_inv {P : Program} {t : TypeId} {cs : List C} (hu : P.underlying t = some .string) (h : Ty P t cs) : ∃ s, cs = [.str s] ∧ s.length ≤ lim := by
  cases h with
  | int h hn => rw [hu] at h; cases h
  | bool h => rw [hu] at h; cases h
  | str h hl => exact ⟨_, rfl, hl⟩
  | slice h => rw [hu] at h; cases h
  | struct h => rw [hu] at h; cases h
  | array h => rw [hu] at h; cases h
theorem Ty.slice_inv {P : Program} {t e : TypeId} {cs : List C} (hu : P.underlying t = some (.slice e)) (h : Ty P t cs) : ∃ rows, cs = [.sl rows] ∧ rows.length ≤ lim ∧ ∀ r ∈ rows, Ty P e r := by
  cases h with
  | int h hn => rw [hu] at h; cases h
  | bool h => rw [hu] at h; cases h
  | str h hl => rw [hu] at h; cases h
  | slice h hl hr => rw [hu] at h; cases h; exact ⟨_, rfl, hl, hr⟩
  | struct h => rw [hu] at h; cases h
  | array h => rw [hu] at h; cases h
theorem Ty.struct_inv {P : Program} {t : TypeId} {fs : Array Field} {cs : List C} (hu : P.underlying t = some (.struct fs)) (h : Ty P t cs) : cs.length = P.cellsOf t ∧ ∀ f ∈ fs.toList, Ty P f.type ((cs.drop f.offset).take (P.cellsOf f.type)) := by
  cases h with
  | int h hn => rw [hu] at h; cases h
  | bool h => rw [hu] at h; cases h
  | str h hl => rw [hu] at h; cases h
  | slice h => rw [hu] at h; cases h
  | struct h hl hf => rw [hu] at h; cases h; exact ⟨hl, hf⟩
  | array h => rw [hu] at h; cases h
theorem Ty.array_inv {P : Program} {t e : TypeId} {n : Nat} {cs : List C} (hu : P.underlying t = some (.array n e)) (h : Ty P t cs) : cs.length = P.cellsOf t ∧ ∀ i, i < n → Ty P e ((cs.drop (i * P.cellsOf e)).take (P.cellsOf e)) := by
  cases h with
  | int h hn => rw [hu] at h; cases h
  | bool h => rw [hu] at h; cases h
  | str h hl => rw [hu] at h; cases h
  | slice h => rw [hu] at h; cases h
  | struct h => rw [hu] at h; cases h
  | array h hl hf => rw [hu] at h; cases h; exact ⟨hl, hf⟩

theorem TyV.one_inv {P : Program} {t : TypeId} {X : V} (hu : isAggB P t = false) (h : TyV P t X) : ∃ c, X = .one c ∧ Ty P t [c] := by
  cases h with
  | one h _ => exact ⟨_, rfl, h⟩
  | agg h hu' => rw [hu] at hu'; cases hu'
theorem TyV.agg_inv {P : Program} {t : TypeId} {X : V} (hu : isAggB P t = true) (h : TyV P t X) : ∃ cs, X = .agg cs ∧ Ty P t cs := by
  cases h with
  | one h hu' => rw [hu] at hu'; cases hu'
  | agg h _ => exact ⟨_, rfl, h⟩
theorem TyV.int_inv {P : Program} {t : TypeId} {k : IntKind} {X : V} (hu : P.underlying t = some (.int k)) (h : TyV P t X) : ∃ n, X = .one (.int k n) ∧ k.min ≤ n ∧ n ≤ k.max := by
  obtain ⟨c, rfl, hc⟩ := h.one_inv (by simp [isAggB, hu])
  obtain ⟨n, e, hn⟩ := hc.int_inv hu
  cases e
  exact ⟨n, rfl, hn⟩
theorem TyV.slice_inv {P : Program} {t e : TypeId} {X : V} (hu : P.underlying t = some (.slice e)) (h : TyV P t X) : ∃ rows, X = .one (.sl rows) ∧ rows.length ≤ lim ∧ ∀ r ∈ rows, Ty P e r := by
  obtain ⟨c, rfl, hc⟩ := h.one_inv (by simp [isAggB, hu])
  obtain ⟨n, e, hn⟩ := hc.slice_inv hu
  cases e
  exact ⟨n, rfl, hn⟩

theorem TysV.nil_inv {P : Program} {Xs : List V} (h : TysV P [] Xs) : Xs = [] := by
  cases Xs with
  | nil => rfl
  | cons x xs => exact h.elim
theorem TysV.cons_inv {P : Program} {t : TypeId} {ts : List TypeId} {Xs : List V} (h : TysV P (t :: ts) Xs) : ∃ x xs, Xs = x :: xs ∧ TyV P t x ∧ TysV P ts xs := by
  cases Xs with
  | nil => exact h.elim
  | cons x xs => exact ⟨x, xs, rfl, h.1, h.2⟩

end Go.Lz

end
section
/- Lp1: plain words of the specifications: places of lists, loops. No program in sight. -/
namespace Go.Lz
set_option linter.unusedVariables false
set_option linter.unusedSimpArgs false

abbrev Str := List UInt8

theorem bind_inv {α β : Type} {x : Option α} {f : α → Option β} {r : β} (h : x.bind f = some r) : ∃ a, x = some a ∧ f a = some r := by
  cases x with
  | none => simp at h
  | some a => exact ⟨a, rfl, h⟩

/-- A list's element. -/
def idx {α : Type} (xs : List α) (i : Int) : Option α := if 0 ≤ i then xs[i.toNat]? else none
theorem idx_facts {α : Type} {xs : List α} {i : Int} {x : α} (h : idx xs i = some x) : 0 ≤ i ∧ i < (xs.length : Int) ∧ i.toNat < xs.length ∧ xs[i.toNat]? = some x := by
  unfold idx at h
  split at h
  · have := (List.getElem?_eq_some_iff.1 h).1
    exact ⟨by assumption, by omega, this, h⟩
  · simp at h
theorem idx_nat {α : Type} (xs : List α) (k : Nat) : idx xs (k : Int) = xs[k]? := by simp [idx]
theorem nat_facts {α : Type} {xs : List α} {k : Nat} {x : α} (h : xs[k]? = some x) : 0 ≤ (k : Int) ∧ (k : Int) < (xs.length : Int) ∧ k < xs.length ∧ xs[k]? = some x := by
  have := (List.getElem?_eq_some_iff.1 h).1
  exact ⟨by omega, by omega, this, h⟩

/-- What must hold ahead. -/
def need (p : Prop) [Decidable p] {α : Type} (x : Option α) : Option α := if p then x else none
theorem need_inv {p : Prop} [Decidable p] {α : Type} {x : Option α} {r : α} (h : need p x = some r) : p ∧ x = some r := by
  unfold need at h; split at h
  · exact ⟨by assumption, h⟩
  · simp at h
theorem need_of {p : Prop} [Decidable p] {α : Type} {x : Option α} (h : p) : need p x = x := by simp [need, h]

/-! Loops. -/
section
variable {σ ρ : Type}
def loopN (f : σ → Option (σ ⊕ ρ)) : Nat → σ → Option ρ
  | 0, _ => none
  | n + 1, s => (f s).bind (Sum.elim (loopN f n) some)
theorem loopN_succ (f : σ → Option (σ ⊕ ρ)) (n : Nat) : ∀ (s : σ) (r : ρ), loopN f n s = some r → loopN f (n + 1) s = some r := by
  induction n with
  | zero => intro s r h; simp [loopN] at h
  | succ n ih =>
    intro s r h
    rw [loopN] at h ⊢
    obtain ⟨o, ho, h⟩ := bind_inv h
    rw [ho]
    cases o with
    | inl s' => exact ih s' r h
    | inr r' => exact h
theorem loopN_le (f : σ → Option (σ ⊕ ρ)) {n m : Nat} (hm : n ≤ m) {s : σ} {r : ρ} (h : loopN f n s = some r) : loopN f m s = some r := by
  induction hm with
  | refl => exact h
  | step _ ih => exact loopN_succ f _ s r ih
open Classical in
/-- A loop: what its rounds come to; none, if they have no end. -/
noncomputable def loop (f : σ → Option (σ ⊕ ρ)) (s : σ) : Option ρ := if h : ∃ r n, loopN f n s = some r then some (Classical.choose h) else none
theorem loop_some {f : σ → Option (σ ⊕ ρ)} {s : σ} {r : ρ} : loop f s = some r ↔ ∃ n, loopN f n s = some r := by
  unfold loop
  constructor
  · intro h
    split at h
    · rename_i hh
      obtain ⟨n, hn⟩ := Classical.choose_spec hh
      simp only [Option.some.injEq] at h
      exact ⟨n, by rw [← h]; exact hn⟩
    · simp at h
  · rintro ⟨n, hn⟩
    have hh : ∃ r n, loopN f n s = some r := ⟨r, n, hn⟩
    rw [dif_pos hh]
    obtain ⟨m, hm⟩ := Classical.choose_spec hh
    have h1 := loopN_le f (Nat.le_max_left n m) hn
    have h2 := loopN_le f (Nat.le_max_right n m) hm
    rw [h1] at h2
    exact h2.symm
theorem loop_eq (f : σ → Option (σ ⊕ ρ)) (s : σ) : loop f s = (f s).bind (Sum.elim (loop f) some) := by
  apply Option.ext
  intro r
  rw [loop_some]
  constructor
  · rintro ⟨n, hn⟩
    cases n with
    | zero => simp [loopN] at hn
    | succ n =>
      rw [loopN] at hn
      obtain ⟨o, ho, h⟩ := bind_inv hn
      rw [ho]
      cases o with
      | inl s' => exact loop_some.2 ⟨n, h⟩
      | inr r' => exact h
  · intro h
    obtain ⟨o, ho, h⟩ := bind_inv h
    cases o with
    | inl s' =>
      obtain ⟨n, hn⟩ := loop_some.1 h
      exact ⟨n + 1, by rw [loopN, ho]; exact hn⟩
    | inr r' => exact ⟨1, by rw [loopN, ho]; exact h⟩
theorem loop_inl {f : σ → Option (σ ⊕ ρ)} {s s' : σ} (h : f s = some (.inl s')) : loop f s = loop f s' := by rw [loop_eq, h]; rfl
theorem loop_inr {f : σ → Option (σ ⊕ ρ)} {s : σ} {r : ρ} (h : f s = some (.inr r)) : loop f s = some r := by rw [loop_eq, h]; rfl
end
end Go.Lz
namespace Go.Lz
/-! Maps as lists of pairs. -/
def mget {α β : Type} [DecidableEq α] (k : α) : List (α × β) → Option β
  | [] => none
  | p :: r => if k = p.1 then some p.2 else mget k r
def mset {α β : Type} [DecidableEq α] (k : α) (v : β) : List (α × β) → List (α × β)
  | [] => [(k, v)]
  | p :: r => if k = p.1 then (k, v) :: r else p :: mset k v r
end Go.Lz

end
section
/- Lw1: rules of walks whose specification is given as a reckoning that may fail. -/
namespace Go.Lz
set_option linter.unusedVariables false
set_option linter.unusedSimpArgs false

section
variable {P : Program} {n : Cf} {F : List Fr} {Q : Ex → St → Prop}

/-- What is behind an exit from a loop; slots and objects may be forgotten there. -/
def exitP (P : Program) (n : Cf) (id : Nat) (F : List Fr) (st : St) (Q : Ex → St → Prop) : Prop :=
  ∃ (ks : List Nat) (m : Nat), n.m ≤ m ∧ keepLt m ks st.t = true ∧ ((st.H.take m).all (O.lt m)) = true ∧ exitS P n id F ⟨keepT ks st.t, st.H.take m⟩ Q
def leaveQ (P : Program) (n : Cf) (F : List Fr) (Q : Ex → St → Prop) : Ex → St → Prop
  | .exit id, st => exitP P n id F st Q
  | e, st => qF P n Q F e st
def LoopP (P : Program) (n : Cf) (c : Code) (F : List Fr) (st : St) (Q : Ex → St → Prop) : Prop := LoopSem P n c st (leaveQ P n F Q)
def loopPQ (P : Program) (n : Cf) (c : Code) (F : List Fr) (Q : Ex → St → Prop) : Ex → St → Prop := thenQ (fun st => LoopP P n c F st Q) (leaveQ P n F Q)
theorem p_loop {c : Code} {st : St} : loopPQ P n c F Q .normal st = LoopP P n c F st Q := rfl
theorem p_loopE {c : Code} {id : Nat} {st : St} : loopPQ P n c F Q (.exit id) st = exitP P n id F st Q := rfl
theorem p_loopG {c : Code} {l : Nat} {st : St} : loopPQ P n c F Q (.goto l) st = gotoS P n l F st Q := rfl
theorem p_loopR {c : Code} {st : St} : loopPQ P n c F Q .ret st = Q .ret st := by show qF P n Q F .ret st = _; rw [qF_ret]
attribute [go_sem] p_loop p_loopE p_loopG p_loopR

theorem LoopP.out {c : Code} {st : St} (h : LoopP P n c F st Q) : LoopS P n c F st Q := by
  intro hok ctx a E hSR b k cs
  obtain ⟨e, a', w', ⟨x, st', E', he, hw, hq, hs⟩, har⟩ := h hok ctx a E hSR b k cs
  cases x with
  | exit id =>
    obtain ⟨ks, m, hm, hk, ho, hx⟩ := hq
    obtain ⟨E2, h2w, hs2⟩ := hs.purge ks m hm hk ho
    exact ⟨e, a', w', ⟨.exit id, _, E2, he, h2w.trans hw, hx, hs2⟩, har⟩
  | normal => exact ⟨e, a', w', ⟨.normal, st', E', he, hw, hq, hs⟩, har⟩
  | ret => exact ⟨e, a', w', ⟨.ret, st', E', he, hw, hq, hs⟩, har⟩
  | goto l => exact ⟨e, a', w', ⟨.goto l, st', E', he, hw, hq, hs⟩, har⟩

theorem purge_P {body : Code} {st : St} (ks : List Nat) (m : Nat) (s' : St) (hm : n.m ≤ m) (hk : keepLt m ks st.t = true) (ho : ((st.H.take m).all (O.lt m)) = true) (e : (⟨keepT ks st.t, st.H.take m⟩ : St) = s') (h : LoopP P n body F s' Q) : LoopP P n body F st Q :=
  LoopSem.purge ks m hm hk ho (e ▸ h)
theorem purge_E {id : Nat} {st : St} (ks : List Nat) (m : Nat) (s' : St) (hm : n.m ≤ m) (hk : keepLt m ks st.t = true) (ho : ((st.H.take m).all (O.lt m)) = true) (e : (⟨keepT ks st.t, st.H.take m⟩ : St) = s') (h : exitS P n id F s' Q) : exitP P n id F st Q :=
  ⟨ks, m, hm, hk, ho, e ▸ h⟩

/-- A loop: what one round does, and what is behind. -/
theorem loop_X {body : Code} {σ ρ α β : Type} {f : σ → Option (σ ⊕ ρ)} (st : σ → α → St) (J : ρ → β → St) (id : ρ → Option Nat) {s0 : σ} (a0 : α) {e : ρ} (h : loop f s0 = some e)
    (aft : ∀ i b, id e = some i → exitS P n i F (J e b) Q)
    (step : (∀ i b, id e = some i → exitS P n i F (J e b) Q) → ∀ (m : Nat) (s : σ) (a : α) (o : σ ⊕ ρ), f s = some o → Sum.elim (loopN f m) some o = some e → (∀ s' a', loopN f m s' = some e → LoopP P n body F (st s' a') Q) → awpS P n [.code body] (st s a) (loopPQ P n body F Q)) :
    LoopS P n body F (st s0 a0) Q := by
  refine LoopP.out ?_
  obtain ⟨m, hm⟩ := loop_some.1 h
  clear h
  induction m generalizing s0 a0 with
  | zero => simp [loopN] at hm
  | succ m ih =>
    rw [loopN] at hm
    obtain ⟨o, ho, hm⟩ := bind_inv hm
    exact loop_unroll (step aft m s0 a0 o ho hm fun s' a' h' => ih a' h')
end

section
variable {P : Program} {n : Cf} {F : List Fr} {Q : Ex → St → Prop}
theorem LoopS.weak {body : Code} {st st' : St} (hw : ∀ ctx a E, SR ctx n st a E → ∃ E', E'.w = E.w ∧ SR ctx n st' a E') (h : LoopS P n body F st' Q) : LoopS P n body F st Q := by
  intro hok ctx a E hs b k cs
  obtain ⟨E', e, hs'⟩ := hw ctx a E hs
  rw [← e]
  exact h hok ctx a E' hs' b k cs
theorem SR.seed {ctx : Env} {st : St} {a : Act} {E : Env} (h : SR ctx n st a E) (k sz : Nat) (hk : look st.t k = .one (.slf [])) :
    ∃ E', E'.w = E.w ∧ SR ctx n ⟨(k, .one (.msl st.H.length 0 0 0)) :: st.t, st.H ++ [.cells 0 sz []]⟩ a E' := by
  obtain ⟨t, hh, hc⟩ := seed_obj h.rel sz _ rfl
  refine ⟨⟨E.w, E.Fr, fun i => if i = E.H.length then ⟨0, 0, 0⟩ else E.bd i, E.H ++ [.cells 0 sz []]⟩, rfl, ⟨h.len, h.hm, h.defers, fun i => ?_, by simp [h.H], hh, h.tr.trans t⟩⟩
  simp only [look_cons]
  split
  · rename_i e
    subst e
    have := h.tm k
    rw [hk] at this
    obtain ⟨_, a', ha⟩ := slf_inv (one_inv this)
    rw [ha]
    rw [← h.H]
    exact .one (hc a')
  · exact (h.tm i).trans t
theorem seed_L {body : Code} {st : St} (k sz : Nat) (hk : look st.t k = .one (.slf [])) (h : LoopS P n body F ⟨(k, .one (.msl st.H.length 0 0 0)) :: st.t, st.H ++ [.cells 0 sz []]⟩ Q) : LoopS P n body F st Q :=
  LoopS.weak (fun _ _ _ hs => hs.seed k sz hk) h
/-- An empty slice in a cell of an own object, as an object. -/
theorem seed_cell {E : Env} (h : HRel E) {id ver sz sz' j : Nat} {row : List C} (ho : E.H[id]? = some (.cells ver sz [row])) (hj : row[j]? = some (.slf [])) :
    ∃ E', E'.w = E.w ∧ E'.H = (E.H ++ [O.cells 0 sz' []]).set id (.cells ver sz [row.set j (.msl E.H.length 0 0 0)]) ∧ HRel E' ∧ Trans E E' := by
  obtain ⟨t, hh, hc⟩ := seed_obj h sz' _ rfl
  have hid : id < E.H.length := (List.getElem?_eq_some_iff.1 ho).1
  generalize hE1 : (⟨E.w, E.Fr, fun i => if i = E.H.length then ⟨0, 0, 0⟩ else E.bd i, E.H ++ [.cells 0 sz' []]⟩ : Env) = E1 at t hh hc
  have w1 : E1.w = E.w := by subst hE1; rfl
  have H1 : E1.H = E.H ++ [O.cells 0 sz' []] := by subst hE1; rfl
  have ho1 : E1.H[id]? = some (.cells ver sz [row]) := by rw [H1, List.getElem?_append_left hid]; exact ho
  obtain ⟨a1, a2, a3, a4⟩ := hh.obj id _ ho1
  have hcap : (E1.bd id).cap ≠ 0 := by simp at a1; omega
  obtain ⟨arr, ty, b1, b2, b3⟩ := a4 hcap
  obtain ⟨t2, hh2⟩ := upd_obj hh id _ (.cells ver sz [row.set j (.msl E.H.length 0 0 0)]) E1.w (E1.bd id) ho1 (Nat.le_refl _) rfl rfl rfl (fun _ _ _ => rfl)
    (fun ver' sz2 rows' e => by injection e with e1 e2 e3; subst e1 e2 e3; exact ⟨_, _, _, rfl, Nat.le_refl _, fun _ => ⟨rfl, rfl, rfl⟩⟩) (fun es' e => by cases e) _ rfl (fun _ => .inl ⟨by simpa [Env.live] using hcap, rfl⟩)
  refine ⟨⟨E1.w, E1.Fr, fun i => if i = id then E1.bd id else E1.bd i, E1.H.set id (.cells ver sz [row.set j (.msl E.H.length 0 0 0)])⟩, w1, by simp only [H1], hh2 ?_, t.trans t2⟩
  refine ⟨by simpa using a1, by simpa using a2, fun r hr => ?_, fun _ => ⟨arr, ty, by simpa using b1, by simpa using b2, fun i k c hck => ?_⟩⟩
  · simp at hr; subst hr; rw [List.length_set]; exact a3 row (by simp)
  · obtain ⟨r, hr, hk⟩ := at2_some.1 hck
    cases i with
    | succ i => simp at hr
    | zero =>
      simp at hr; subst hr
      simp only [if_true, Nat.zero_mul, Nat.zero_add]
      by_cases e : j = k
      · subst e
        rw [List.getElem?_set_self (List.getElem?_eq_some_iff.1 hj).1] at hk
        obtain rfl := Option.some.inj hk
        obtain ⟨v, hv, hr⟩ := b3 0 j (.slf []) (at2_some.2 ⟨row, rfl, hj⟩)
        obtain ⟨_, a', ha⟩ := slf_inv hr
        refine ⟨v, by simpa using hv, ?_⟩
        rw [ha]
        exact (hc a').trans t2
      · rw [List.getElem?_set_ne e] at hk
        obtain ⟨v, hv, hr⟩ := b3 0 k c (at2_some.2 ⟨row, rfl, hk⟩)
        exact ⟨v, by simpa using hv, hr.trans t2⟩
theorem seed_C {body : Code} {t : List (Nat × V)} {H : List O} (id j sz' : Nat) {ver sz : Nat} {row : List C} (ho : H[id]? = some (.cells ver sz [row])) (hj : row[j]? = some (.slf []))
    (h : LoopS P n body F ⟨t, (H ++ [O.cells 0 sz' []]).set id (.cells ver sz [row.set j (.msl H.length 0 0 0)])⟩ Q) : LoopS P n body F ⟨t, H⟩ Q :=
  LoopS.weak (fun ctx a E hs => by
    have hH : E.H = H := hs.H
    obtain ⟨E', w', H', hh, t'⟩ := seed_cell (sz' := sz') hs.rel (by rw [hH]; exact ho) hj
    exact ⟨E', w', ⟨hs.len, hs.hm, hs.defers, fun i => (hs.tm i).trans t', by rw [H', hH], hh, hs.tr.trans t'⟩⟩) h
theorem plain_L {body : Code} {st : St} (k : Nat) (rows : List (List C)) (hk : look st.t k = .one (.slf rows)) (h : LoopS P n body F ⟨(k, .one (.sl rows)) :: st.t, st.H⟩ Q) : LoopS P n body F st Q :=
  LoopS.weak (st' := ⟨(k, .one (.sl rows)) :: st.t, st.H⟩) (fun _ a E hs => ⟨E, rfl, ⟨hs.len, hs.hm, hs.defers, fun i => by
    simp only [look_cons]
    split
    · rename_i e; subst e
      have := hs.tm k
      rw [hk] at this
      exact .one (slf_inv (one_inv this)).1
    · exact hs.tm i, hs.H, hs.rel, hs.tr⟩⟩) h
end

theorem if_t {α : Type} {c : Prop} [Decidable c] {a b r : α} (hc : c) (h : (if c then a else b) = r) : a = r := by rwa [if_pos hc] at h
theorem if_f {α : Type} {c : Prop} [Decidable c] {a b r : α} (hc : ¬c) (h : (if c then a else b) = r) : b = r := by rwa [if_neg hc] at h
abbrev w64 (n : Int) : Int := IntKind.i64.wrap n
theorem w64_eq (n : Int) : w64 n = (n + 9223372036854775808) % 18446744073709551616 - 9223372036854775808 := by
  simp only [IntKind.wrap, IntKind.min, IntKind.signed, IntKind.bits]; simp; omega
theorem wrap_nat {k : Nat} (h : (k : Int) + 1 ≤ 9223372036854775807) : IntKind.i64.wrap ((k : Int) + 1) = (k : Int) + 1 := by
  show w64 _ = _; rw [w64_eq]; omega
theorem wrap_lit {n : Int} (h1 : -9223372036854775808 ≤ n) (h2 : n ≤ 9223372036854775807) : IntKind.i64.wrap n = n := by show w64 _ = _; rw [w64_eq]; omega
theorem lim_eq : lim = 281474976710656 := rfl
attribute [go_sem] wrap_lit lim_eq List.toList_toArray

/-! Encodings of data as cells. -/
def eK (k : IntKind) (n : Int) : List C := [.int k n]
abbrev eI : Int → List C := eK .i64
def eB (b : Bool) : List C := [.bool b]
def eS (s : Str) : List C := [.str s]
def eL {α : Type} (f : α → List C) (xs : List α) : List C := [.sl (xs.map f)]
/-- A function without captured places, or none. -/
def eF : Option Nat → C
  | none => .nilfn
  | some f => .fn f []
theorem eF_none : eF none = .nilfn := of_eq_true (eq_self _)
theorem eF_some {f : Nat} : eF (some f) = .fn f [] := of_eq_true (eq_self _)
theorem lt_eF {x : Option Nat} {m : Nat} : (eF x).lt m = true := by cases x <;> rfl
theorem vn_eF {x : Option Nat} {H : List O} {k : Nat} : C.viewN H k (eF x) = eF x := by
  cases x with
  | none => exact vn_nilfn
  | some f => cases k <;> rfl
theorem own_eF {x : Option Nat} : (eF x).own = false := by cases x <;> rfl
attribute [go_sem] eF_none eF_some lt_eF vn_eF own_eF
theorem eK_def {k : IntKind} {n : Int} : eK k n = [.int k n] := of_eq_true (eq_self _)
theorem eB_def {b : Bool} : eB b = [.bool b] := of_eq_true (eq_self _)
theorem eS_def {s : Str} : eS s = [.str s] := of_eq_true (eq_self _)
theorem eL_def {α : Type} {f : α → List C} {xs : List α} : eL f xs = [.sl (xs.map f)] := of_eq_true (eq_self _)
attribute [go_sem] eK_def eB_def eS_def eL_def

/-- Encodings in which no references occur. -/
def Flat {α : Type} (f : α → List C) : Prop := ∀ m a, ltRow m (f a) = true
theorem ltRows_flat {α : Type} {f : α → List C} (h : Flat f) (m : Nat) (xs : List α) : ltRows m (xs.map f) = true := ltRows_map f (h m) xs
theorem Flat.K (k : IntKind) : Flat (eK k) := fun _ _ => rfl
theorem Flat.B : Flat eB := fun _ _ => rfl
theorem Flat.S : Flat eS := fun _ _ => rfl
theorem Flat.L {α : Type} {f : α → List C} (h : Flat f) : Flat (eL f) := fun m xs => by
  show (ltRows m (xs.map f) && true) = true
  rw [ltRows_flat h]; rfl

theorem take_map_len {α β : Type} (f : α → β) (xs : List α) : List.take xs.length (List.map f xs) = List.map f xs := List.take_of_length_le (by simp)
theorem take_len' {α : Type} (xs : List α) : List.take xs.length xs = xs := by simp
attribute [go_sem] take_map_len take_len'
end Go.Lz
namespace Go.Lz
theorem ltRow_app {m : Nat} {a b : List C} : ltRow m (a ++ b) = (ltRow m a && ltRow m b) := by
  rw [Bool.eq_iff_iff, Bool.and_eq_true]; simp only [ltRow_iff, List.mem_append]
  exact ⟨fun h => ⟨fun r hr => h r (.inl hr), fun r hr => h r (.inr hr)⟩, fun h r hr => hr.elim (h.1 r) (h.2 r)⟩
end Go.Lz
namespace Go.Lz
theorem and_i {p q : Prop} (h : p) (k : q) : p ∧ q := ⟨h, k⟩
end Go.Lz
namespace Go.Lz
theorem drawB_i {ops : Array Oper} (h : drawB ops = true) : drawB ops = true := h
theorem tailB_i {P : Program} {ops : Array Oper} {k : Nat} {t : List (Nat × V)} (h : tailB ops k = true) : tailP P ops k t := .inl h
end Go.Lz
namespace Go.Lz
end Go.Lz
namespace Go.Lz
/-- What stands in a list when another one was copied over it from its begin on. -/
def copyL {α : Type} (xs ys : List α) : List α := ys.take xs.length ++ xs.drop (min xs.length ys.length)
theorem copyL_len {α : Type} (xs ys : List α) : (copyL xs ys).length = xs.length := by simp [copyL]; omega
theorem ite_max (a b : Int) : (if a < b then b else a) = max a b := by split <;> omega
theorem ltRows_rep' {m n : Nat} {r : List C} (hr : ltRow m r = true) : ltRows m (List.replicate n r) = true := ltRows_rep hr
theorem ltRows_take {m k : Nat} {a : List (List C)} (h : ltRows m a = true) : ltRows m (a.take k) = true := by
  rw [ltRows_iff] at *; exact fun r hr => h r (List.mem_of_mem_take hr)
attribute [go_sem] Nat.add_sub_cancel_left ite_max ltRows_rep' ltRows_app ltRows_take ltRows_drop ltRows_set
end Go.Lz
namespace Go.Lz
theorem ite_maxN (a b : Nat) : (if a < b then (b : Int) else (a : Int)) = max (a : Int) (b : Int) := by split <;> omega
attribute [go_sem] ite_maxN
end Go.Lz
namespace Go.Lz
end Go.Lz
namespace Go.Lz
theorem take1_tail {α : Type} (l : List α) : List.take 1 l ++ l.tail = l := by cases l <;> simp
theorem eq_take1 {α : Type} (l : List α) : (l = List.take 1 l ++ l.tail) = True := by rw [take1_tail]; exact eq_self l
attribute [go_sem] take1_tail eq_take1
end Go.Lz
namespace Go.Lz
/-- Encodings in which nothing lies in own objects. -/
def Plain {α : Type} (f : α → List C) : Prop := ∀ (H : List O) (k : Nat) (a : α), (f a).map (C.viewN H k) = f a
theorem viewRows_plain {α : Type} {f : α → List C} (h : Plain f) (H : List O) (k : Nat) (xs : List α) : viewRows H k (xs.map f) = xs.map f := by
  simp only [viewRows, List.map_map]
  exact List.map_congr_left fun a _ => h H k a
theorem Plain.K (k : IntKind) : Plain (eK k) := fun _ _ _ => by simp [eK, vn_int]
theorem Plain.B : Plain eB := fun _ _ _ => by simp [eB, vn_bool]
theorem Plain.S : Plain eS := fun _ _ _ => by simp [eS, vn_str]
theorem Plain.L {α : Type} (f : α → List C) : Plain (eL f) := fun _ _ _ => by simp [eL, vn_sl]
end Go.Lz
namespace Go.Lz
/-! Calls to which own objects are lent for good: they are given up. -/
section
variable {P : Program} {n : Cf} {F : List Fr} {Q : Ex → St → Prop}
end
attribute [go_sem] maskF List.contains_cons List.contains_nil
end Go.Lz
namespace Go.Lz
/-- What a function value holds, where none of it lies in own objects. -/
structure Clo (c : List C) : Prop where
  lt : ∀ m, ltRow m c = true
  vw : ∀ (H : List O) (k : Nat), c.map (C.viewN H k) = c
theorem Clo.lts {c : List C} (h : Clo c) (m : Nat) : ltVs m (c.map V.one) = true := by
  rw [ltVs_iff]
  intro v hv
  obtain ⟨x, hx, rfl⟩ := List.mem_map.1 hv
  exact ltRow_iff.1 (h.lt m) x hx
theorem Clo.vws {c : List C} (h : Clo c) (H : List O) : (c.map V.one).map (V.view H) = c.map V.one := by
  rw [List.map_map]
  have := h.vw H 4
  have e : V.view H ∘ V.one = V.one ∘ C.viewN H 4 := rfl
  rw [e, ← List.map_map, this]
theorem ltVs_app {m : Nat} {a b : List V} : ltVs m (a ++ b) = (ltVs m a && ltVs m b) := by
  rw [Bool.eq_iff_iff, Bool.and_eq_true]; simp only [ltVs_iff, List.mem_append]
  exact ⟨fun h => ⟨fun r hr => h r (.inl hr), fun r hr => h r (.inr hr)⟩, fun h r hr => hr.elim (h.1 r) (h.2 r)⟩
attribute [go_sem] ltVs_app
end Go.Lz
namespace Go.Lz
theorem Clo.nil : Clo [] := ⟨fun _ => rfl, fun _ _ => rfl⟩
def cellK (r : R) (H : List O) (K : V → List O → Prop) : Prop := r.pre ∧ K r.v H
theorem r_cell {P : Program} {i : Nat} {ty : TypeId} {t : List (Nat × V)} {H : List O} {K : V → List O → Prop} : resK P [.cell i ty] ⟨t, H⟩ K = cellK (loadF P ty (look t i) H) H K := by
  simp only [resK, resOf, loadF, cellK]
  cases look t i with
  | one c =>
    simp only
    cases tAg P ty with
    | none => simp [R.bad]
    | some g =>
      obtain ⟨g, n⟩ := g
      cases rowOf H c with
      | none => simp [R.bad]
      | some x => obtain ⟨row, off, p⟩ := x; simp
  | _ => simp [R.bad]
attribute [go_sem] r_cell cellK
end Go.Lz
namespace Go.Lz
theorem size_nil {α : Type} : (#[] : Array α).size = 0 := rfl
attribute [go_sem] size_nil
end Go.Lz
namespace Go.Lz
section
variable {P : Program} {t : List (Nat × V)} {H : List O} {K : V → List O → Prop}
def resC1 (x : Option (V × Prop)) (H : List O) (K : V → List O → Prop) : Prop := match x with | some (x, p) => p ∧ K x H | none => False
def resC2 (x y : Option (V × Prop)) (H : List O) (K : V → List O → Prop) : Prop := match x with | some (x, p) => (match y with | some (y, q) => p ∧ q ∧ K (.tup [x, y]) H | none => False) | none => False
def resC3 (x y z : Option (V × Prop)) (H : List O) (K : V → List O → Prop) : Prop := match x with | some (x, p) => (match y with | some (y, q) => (match z with | some (z, r) => p ∧ q ∧ r ∧ K (.tup [x, y, z]) H | none => False) | none => False) | none => False
theorem r_c1 {a : ResultVar} : resK P [a] ⟨t, H⟩ K = resC1 (resOf P H t a) H K := by unfold resK resC1; rfl
theorem r_c2 {a b : ResultVar} : resK P [a, b] ⟨t, H⟩ K = resC2 (resOf P H t a) (resOf P H t b) H K := by
  unfold resK resC2
  cases h1 : resOf P H t a with
  | none => simp [h1]
  | some x => cases h2 : resOf P H t b with
    | none => simp [h1, h2]
    | some y => simp [h1, h2, and_assoc]
theorem r_c3 {a b c : ResultVar} : resK P [a, b, c] ⟨t, H⟩ K = resC3 (resOf P H t a) (resOf P H t b) (resOf P H t c) H K := by
  unfold resK resC3
  cases h1 : resOf P H t a with
  | none => simp [h1]
  | some x => cases h2 : resOf P H t b with
    | none => simp [h1, h2]
    | some y => cases h3 : resOf P H t c with
      | none => simp [h1, h2, h3]
      | some z => simp [h1, h2, h3, and_assoc]
theorem c1_some {x : V} {p : Prop} : resC1 (some (x, p)) H K = (p ∧ K x H) := rfl
theorem c2_some {x y : V} {p q : Prop} : resC2 (some (x, p)) (some (y, q)) H K = (p ∧ q ∧ K (.tup [x, y]) H) := rfl
theorem c3_some {x y z : V} {p q r : Prop} : resC3 (some (x, p)) (some (y, q)) (some (z, r)) H K = (p ∧ q ∧ r ∧ K (.tup [x, y, z]) H) := rfl
attribute [go_sem] r_c1 r_c2 r_c3 resOf c1_some c2_some c3_some
end
end Go.Lz
namespace Go.Lz
/-! Maps. -/
def eM {α β : Type} (kf : α → C) (vf : β → C) (es : List (α × β)) : List (C × C) := es.map fun p => (kf p.1, vf p.2)
theorem mfind_str {β : Type} {vf : β → C} {k : Str} {es : List (Str × β)} : mfind (.str k) (eM C.str vf es) = some ((mget k es).map vf) := by
  induction es with
  | nil => rfl
  | cons p r ih =>
    rw [eM, List.map_cons, mfind, mget]
    simp only [keyEq]
    by_cases h : k = p.1
    · simp [h]
    · simp only [h, decide_false, if_false]; exact ih
theorem mput_str {β : Type} {vf : β → C} {k : Str} {v : β} {es : List (Str × β)} : mput (.str k) (vf v) (eM C.str vf es) = some (eM C.str vf (mset k v es)) := by
  induction es with
  | nil => rfl
  | cons p r ih =>
    rw [eM, List.map_cons, mput, mset]
    simp only [keyEq]
    by_cases h : k = p.1
    · simp [h, eM]
    · simp only [h, decide_false, if_false]
      rw [show (List.map (fun p => (C.str p.1, vf p.2)) r) = eM C.str vf r from rfl, ih]; rfl
theorem mfind_int {β : Type} {vf : β → C} {kd : IntKind} {k : Int} {es : List (Int × β)} : mfind (.int kd k) (eM (C.int kd) vf es) = some ((mget k es).map vf) := by
  induction es with
  | nil => rfl
  | cons p r ih =>
    rw [eM, List.map_cons, mfind, mget]
    simp only [keyEq, if_true]
    by_cases h : k = p.1
    · simp [h]
    · simp only [h, decide_false, if_false]; exact ih
theorem mput_int {β : Type} {vf : β → C} {kd : IntKind} {k : Int} {v : β} {es : List (Int × β)} : mput (.int kd k) (vf v) (eM (C.int kd) vf es) = some (eM (C.int kd) vf (mset k v es)) := by
  induction es with
  | nil => rfl
  | cons p r ih =>
    rw [eM, List.map_cons, mput, mset]
    simp only [keyEq, if_true]
    by_cases h : k = p.1
    · simp [h, eM]
    · simp only [h, decide_false, if_false]
      rw [show (List.map (fun p => (C.int kd p.1, vf p.2)) r) = eM (C.int kd) vf r from rfl, ih]; rfl
theorem mput_strB {k : Str} {v : Bool} {es : List (Str × Bool)} : mput (.str k) (.bool v) (eM C.str C.bool es) = some (eM C.str C.bool (mset k v es)) := mput_str
theorem mput_strI {k : Str} {v : Int} {kd : IntKind} {es : List (Str × Int)} : mput (.str k) (.int kd v) (eM C.str (C.int kd) es) = some (eM C.str (C.int kd) (mset k v es)) := mput_str
theorem mput_intB {k : Int} {kk : IntKind} {v : Bool} {es : List (Int × Bool)} : mput (.int kk k) (.bool v) (eM (C.int kk) C.bool es) = some (eM (C.int kk) C.bool (mset k v es)) := mput_int
theorem mput_intI {k : Int} {kk : IntKind} {v : Int} {kd : IntKind} {es : List (Int × Int)} : mput (.int kk k) (.int kd v) (eM (C.int kk) (C.int kd) es) = some (eM (C.int kk) (C.int kd) (mset k v es)) := mput_int
theorem lookR_B {H : List O} {x : Option Bool} : lookR (.bool false) false H (some (x.map C.bool)) = .ok (.one (.bool (x.getD false))) H := by cases x <;> rfl
theorem lookR_I {H : List O} {kd : IntKind} {x : Option Int} : lookR (.int kd 0) false H (some (x.map (C.int kd))) = .ok (.one (.int kd (x.getD 0))) H := by cases x <;> rfl
theorem lookR_Bk {H : List O} {x : Option Bool} : lookR (.bool false) true H (some (x.map C.bool)) = .ok (.tup [.one (.bool (x.getD false)), .one (.bool x.isSome)]) H := by cases x <;> rfl
theorem lookR_Ik {H : List O} {kd : IntKind} {x : Option Int} : lookR (.int kd 0) true H (some (x.map (C.int kd))) = .ok (.tup [.one (.int kd (x.getD 0)), .one (.bool x.isSome)]) H := by cases x <;> rfl
theorem eM_lt {α β : Type} {kf : α → C} {vf : β → C} {m : Nat} {es : List (α × β)} (hk : ∀ a, (kf a).lt m = true) (hv : ∀ b, (vf b).lt m = true) : ((eM kf vf es).all fun e => C.lt m e.fst && C.lt m e.snd) = true := by
  simp [eM, hk, hv]
theorem eM_ltSB {m : Nat} {es : List (Str × Bool)} : ((eM C.str C.bool es).all fun e => C.lt m e.fst && C.lt m e.snd) = true := eM_lt (fun _ => rfl) (fun _ => rfl)
theorem eM_ltSI {m : Nat} {kd : IntKind} {es : List (Str × Int)} : ((eM C.str (C.int kd) es).all fun e => C.lt m e.fst && C.lt m e.snd) = true := eM_lt (fun _ => rfl) (fun _ => rfl)
theorem eM_ltIB {m : Nat} {kd : IntKind} {es : List (Int × Bool)} : ((eM (C.int kd) C.bool es).all fun e => C.lt m e.fst && C.lt m e.snd) = true := eM_lt (fun _ => rfl) (fun _ => rfl)
theorem eM_ltII {m : Nat} {k kd : IntKind} {es : List (Int × Int)} : ((eM (C.int k) (C.int kd) es).all fun e => C.lt m e.fst && C.lt m e.snd) = true := eM_lt (fun _ => rfl) (fun _ => rfl)
attribute [go_sem] mfind_str mfind_int mput_strB mput_strI mput_intB mput_intI lookR_B lookR_I lookR_Bk lookR_Ik List.isEmpty_map eM_ltSB eM_ltSI eM_ltIB eM_ltII
theorem put_some {t : List (Nat × V)} {H H' : List O} {d : Nat} {x : V} : St.put ⟨t, H⟩ (some d) x H' = ⟨(d, x) :: t, H'⟩ := rfl
theorem put_none {t : List (Nat × V)} {H H' : List O} {x : V} : St.put ⟨t, H⟩ none x H' = ⟨t, H'⟩ := rfl
attribute [go_sem] put_some put_none
end Go.Lz
namespace Go.Lz
theorem take_map_app {α β : Type} {f : α → β} {xs : List α} {ys : List β} {n : Nat} : List.take (xs.length + n) (List.map f xs ++ ys) = List.map f xs ++ List.take n ys := by
  rw [show xs.length + n = (List.map f xs).length + n by simp, List.take_length_add_append]
attribute [go_sem] take_map_app
end Go.Lz
namespace Go.Lz
end Go.Lz

end
section
/- Lw2: short steps of walks. Facts lie in F, rewritings in R; both are found by name. -/
namespace Go.Lz
set_option linter.unusedVariables false
set_option linter.unusedSimpArgs false

attribute [go_sem] strConvF bytesConvF mslConvF makeIfF typeAssertF noIfF isIfF vn_ifc4 vn_ifc3 vn_ifc2 vn_ifc1
theorem ok_pre {v : V} {h : List O} : (R.ok v h).pre = True := rfl
theorem ok_v {v : V} {h : List O} : (R.ok v h).v = v := rfl
theorem ok_h {v : V} {h : List O} : (R.ok v h).h = h := rfl
attribute [go_sem] ok_pre ok_v ok_h
/-- A side goal. -/
theorem ss {p : Prop} (h : p := by first | (with_reducible exact mo) | (with_reducible refine drawB_i (by kernel_rfl)) | (with_reducible refine tailB_i (by kernel_rfl)) | omega | (simp [go_sem]; done) | (simp [go_sem, F]; done) | (simp [go_sem]; omega) | (simp [go_sem, F]; omega) | ((repeat' (with_reducible apply And.intro)) <;> first | omega | (intro r hr; obtain ⟨_, _, rfl⟩ := List.mem_map.1 hr; simp [go_sem]; done) | (simp [go_sem]; done) | (simp [go_sem, F]; done) | (simp [go_sem, F]; omega))) : p := h
/-- The goal, reckoned as far as it goes. -/
theorem tt {p q : Prop} (k : q) (e : p = q := by ((try simp -implicitDefEqProofs only [go_sem, simprocAttr, F, R]); rfl)) : p := e.mpr k
/-- The end of a path. -/
theorem fin {p : Prop} (h : p := by
    (try simp -implicitDefEqProofs only [go_sem, simprocAttr, F, R])
    (all_goals (repeat (first | (with_reducible intro _) | (with_reducible refine and_i ?_ ?_; exact ss))))
    (all_goals (try (first | (with_reducible refine tailB_i (by kernel_rfl)) | (with_reducible refine drawB_i (by kernel_rfl)) | omega | (simp [go_sem]; omega) | simp [go_sem, F])))) : p := h
section
variable {α β γ P G : Prop}
theorem fi {α : Type} {c : Prop} [Decidable c] {a b r : α} (h : (if c then a else b) = r) (F : P) (t : a = r → c → (c = True) ∧ P → G) (f : b = r → ¬c → (c = False) ∧ P → G) : G := by
  by_cases hc : c
  · exact t (if_t hc h) hc ⟨eq_true hc, F⟩
  · exact f (if_f hc h) hc ⟨eq_false hc, F⟩
theorem fl {α : Type} {x y : Nat} {a b r : α} (h : (if (x : Int) < (y : Int) then a else b) = r) (F : P) (t : a = r → x < y → ((x : Int) < (y : Int)) ∧ x < y ∧ P → G) (f : b = r → ¬ x < y → (¬ (x : Int) < (y : Int)) ∧ (¬ x < y) ∧ P → G) : G := by
  by_cases hc : x < y
  · exact t (if_t (by omega) h) hc ⟨by omega, hc, F⟩
  · exact f (if_f (by omega) h) hc ⟨by omega, hc, F⟩
theorem fm {α : Type} {x y : Nat} {a b r : α} (h : (if (x : Int) ≤ (y : Int) then a else b) = r) (F : P) (t : a = r → x ≤ y → ((x : Int) ≤ (y : Int)) ∧ x ≤ y ∧ P → G) (f : b = r → ¬ x ≤ y → (¬ (x : Int) ≤ (y : Int)) ∧ (¬ x ≤ y) ∧ P → G) : G := by
  by_cases hc : x ≤ y
  · exact t (if_t (by omega) h) hc ⟨by omega, hc, F⟩
  · exact f (if_f (by omega) h) hc ⟨by omega, hc, F⟩
theorem fv {α : Type} {c : Bool} {a b r : α} (h : (if c = true then a else b) = r) (F : P) (t : a = r → c = true → c = true ∧ P → G) (f : b = r → c = false → c = false ∧ P → G) : G := by
  cases c with
  | true => exact t (by simpa using h) rfl ⟨rfl, F⟩
  | false => exact f (by simpa using h) rfl ⟨rfl, F⟩
theorem bi {α β : Type} {x : Option α} {f : α → Option β} {r : β} (h : x.bind f = some r) (k : ∀ a, f a = some r → x = some a → G) : G := by
  obtain ⟨a, h1, h2⟩ := bind_inv h
  exact k a h2 h1
theorem bx {α β : Type} {xs : List α} {i : Nat} {f : α → Option β} {r : β} (h : (xs[i]?).bind f = some r) (F : P) (k : ∀ a, f a = some r → xs[i]? = some a → (xs[i]? = some a ∧ 0 ≤ (i : Int) ∧ (i : Int) < (xs.length : Int) ∧ i < xs.length ∧ P) → G) : G := by
  obtain ⟨a, h1, h2⟩ := bind_inv h
  obtain ⟨f1, f2, f3, f4⟩ := nat_facts h1
  exact k a h2 f4 ⟨f4, f1, f2, f3, F⟩
theorem by_ {α β : Type} {xs : List α} {i : Int} {f : α → Option β} {r : β} (h : (idx xs i).bind f = some r) (F : P) (k : ∀ a, f a = some r → xs[i.toNat]? = some a → (xs[i.toNat]? = some a ∧ 0 ≤ i ∧ i < (xs.length : Int) ∧ i.toNat < xs.length ∧ P) → G) : G := by
  obtain ⟨a, h1, h2⟩ := bind_inv h
  obtain ⟨f1, f2, f3, f4⟩ := idx_facts h1
  exact k a h2 f4 ⟨f4, f1, f2, f3, F⟩
theorem ln {P P' : Prop} (F : P) (k : P' → G) (e : P = P' := by ((try simp only [List.length_replicate, List.length_set, List.length_append, List.length_cons, List.length_nil, List.length_map, List.length_take, List.length_drop, copyL_len, Nat.zero_add, Nat.reduceAdd, Int.cast_ofNat_Int] at F ⊢); rfl)) : G := k (e.mp F)
theorem nd {p : Prop} [Decidable p] {α : Type} {x : Option α} {r : α} (h : need p x = some r) (F : P) (k : x = some r → p ∧ P → G) : G := by
  obtain ⟨h1, h2⟩ := need_inv h
  exact k h2 ⟨h1, F⟩
theorem wn (k : Nat) (F : P) (c : IntKind.i64.wrap ((k : Int) + 1) = (k : Int) + 1 ∧ P → G) (h : (k : Int) + 1 ≤ 9223372036854775807 := by omega) : G := c ⟨wrap_nat h, F⟩
end
theorem Clo.all {c : List C} (h : Clo c) : (∀ (H : List O) (k : Nat), c.map (C.viewN H k) = c) ∧ (∀ m, ltRow m c = true) ∧ (∀ (H : List O), (c.map V.one).map (V.view H) = c.map V.one) ∧ ∀ m, ltVs m (c.map V.one) = true := ⟨h.vw, h.lt, h.vws, h.lts⟩
theorem sr {σ ρ : Type} {f : σ → Option ρ} {x e : ρ} (h : Sum.elim f some (.inr x) = some e) : x = e := Option.some.inj h

section
variable {P : Program} {n : Cf} {Fs : List Fr} {Q : Ex → St → Prop}
theorem cS {f : FuncId} {args args' : List V} {H : List O} {d : Option Nat} {all : Array Oper} {rest : List Oper} {t : List (Nat × V)} {x : V} (h : Pu P f args' x) (hk : awpS P n (.ops all rest :: Fs) (St.put ⟨t, H⟩ d x H) Q)
    (ha : args.map (V.view H) = args' := by first | (simp [go_sem, F]; done) | rfl) (hl : ltVs 0 args' = true := by first | (simp [go_sem, F]; done) | rfl) (hx : x.lt 0 = true := by simp [go_sem, F]) (hb : args.all (fun a => !a.own) = true ∨ x.scalar = true := by first | (simp [go_sem, F]; done) | exact .inl rfl) : CtS P n f args H d all rest Fs t Q := call_pure h ha hl hx hb hk
theorem cD {f : FuncId} {args args' : List V} {H : List O} {d : Nat} {all : Array Oper} {rest : List Oper} {N : List Fo} {t : List (Nat × V)} {x : V} (h : Pu P f args' x) (hk : awpS P n (.draw all rest N :: Fs) ⟨(d, x) :: t, H⟩ Q)
    (ha : args.map (V.view H) = args' := by first | (simp [go_sem, F]; done) | rfl) (hl : ltVs 0 args' = true := by first | (simp [go_sem, F]; done) | rfl) (hx : x.lt 0 = true := by simp [go_sem, F]) (hb : args.all (fun a => !a.own) = true ∨ x.scalar = true := by first | (simp [go_sem, F]; done) | exact .inl rfl) : CtD P n f args H (some d) all rest N Fs t Q := call_D h ha hl hx hb hk
/-- A call walked through on the spot. -/
theorem iS {f : FuncId} {fn : Func} {c : Code} {args : List V} {H : List O} {d : Option Nat} {all : Array Oper} {rest : List Oper} {t : List (Nat × V)}
    (hf : P.funcs[f]? = some fn) (h : awpS P ⟨fn.ntmps, H.length⟩ [.code c] ⟨argsT 0 args, H⟩ (endK P fn.results.toList fun v H' => awpS P n (.ops all rest :: Fs) (St.put ⟨t, H'⟩ d v H') Q))
    (hb : fn.body = some c := by rfl) (hname : (fn.name == "runtime.NumGoroutine") = false := by kernel_rfl) (hok : okC fn.ntmps c = true := by kernel_rfl) : CtS P n f args H d all rest Fs t Q := ct_of_awp hf hb hname hok h
theorem pA {f : FuncId} {fn : Func} {c : Code} {args : List V} {x : V} (hf : P.funcs[f]? = some fn) (h : awpS P ⟨fn.ntmps, 0⟩ [.code c] ⟨argsT 0 args, []⟩ (endK P fn.results.toList fun v H => v.view H = x ∧ x.lt 0 = true))
    (hb : fn.body = some c := by rfl) (hname : (fn.name == "runtime.NumGoroutine") = false := by kernel_rfl) (hok : okC fn.ntmps c = true := by kernel_rfl) : Pu P f args x := pu_of_awp hf hb hname hok (awp_of_S h)

/-- What is behind a loop; the loop from a state on. -/
def Aft (P : Program) (n : Cf) (Fs : List Fr) (Q : Ex → St → Prop) {ρ β : Type} (J : ρ → β → St) (id : ρ → Option Nat) (e : ρ) : Prop := ∀ i b, id e = some i → exitS P n i Fs (J e b) Q
def Bck (P : Program) (n : Cf) (body : Code) (Fs : List Fr) (Q : Ex → St → Prop) {σ ρ α : Type} (f : σ → Option (σ ⊕ ρ)) (m : Nat) (e : ρ) (ST : σ → α → St) : Prop := ∀ s' a', loopN f m s' = some e → LoopP P n body Fs (ST s' a') Q
theorem lE {body : Code} {σ ρ α β : Type} {f : σ → Option (σ ⊕ ρ)} (ST : σ → α → St) (J : ρ → β → St) (id : ρ → Option Nat) {s0 : σ} (a0 : α) {e : ρ} {st : St} (h : loop f s0 = some e)
    (aft : Aft P n Fs Q J id e)
    (step : Aft P n Fs Q J id e → ∀ (m : Nat) (s : σ) (a : α) (o : σ ⊕ ρ), f s = some o → Sum.elim (loopN f m) some o = some e → Bck P n body Fs Q f m e ST → awpS P n [.code body] (ST s a) (loopPQ P n body Fs Q))
    (g1 : n.m ≤ (ST s0 a0).H.length := by simp) (g2 : keepLt (ST s0 a0).H.length ((ST s0 a0).t.map Prod.fst) st.t = true := by simp [go_sem, F]) (g3 : (st.H.take (ST s0 a0).H.length).all (O.lt (ST s0 a0).H.length) = true := by simp [go_sem, F])
    (g4 : (⟨keepT ((ST s0 a0).t.map Prod.fst) st.t, st.H.take (ST s0 a0).H.length⟩ : St) = ST s0 a0 := by simp [go_sem, copyL, List.map_set, F] <;> omega) : LoopS P n body Fs st Q :=
  purge_to _ _ _ g1 g2 g3 g4 (loop_X ST J id a0 h aft step)
theorem bk {body : Code} {σ ρ α : Type} {f : σ → Option (σ ⊕ ρ)} {ST : σ → α → St} {m : Nat} {e : ρ} {st : St} (ih : Bck P n body Fs Q f m e ST) {s' : σ} (ho : Sum.elim (loopN f m) some (.inl s') = some e) (a' : α)
    (g1 : n.m ≤ (ST s' a').H.length := by simp) (g2 : keepLt (ST s' a').H.length ((ST s' a').t.map Prod.fst) st.t = true := by simp [go_sem, F]) (g3 : (st.H.take (ST s' a').H.length).all (O.lt (ST s' a').H.length) = true := by simp [go_sem, F])
    (g4 : (⟨keepT ((ST s' a').t.map Prod.fst) st.t, st.H.take (ST s' a').H.length⟩ : St) = ST s' a' := by simp [go_sem, copyL, List.map_set, F] <;> omega) : LoopP P n body Fs st Q := purge_P _ _ _ g1 g2 g3 g4 (ih s' a' ho)
theorem xt {σ ρ β : Type} {f : σ → Option ρ} {J : ρ → β → St} {id : ρ → Option Nat} {e x : ρ} {i : Nat} {st : St} (ho : Sum.elim f some (.inr x) = some e) (af : Aft P n Fs Q J id e) (b : β)
    (g1 : n.m ≤ (J x b).H.length := by simp) (g2 : keepLt (J x b).H.length ((J x b).t.map Prod.fst) st.t = true := by simp [go_sem, F]) (g3 : (st.H.take (J x b).H.length).all (O.lt (J x b).H.length) = true := by simp [go_sem, F])
    (g4 : (⟨keepT ((J x b).t.map Prod.fst) st.t, st.H.take (J x b).H.length⟩ : St) = J x b := by simp [go_sem, copyL, List.map_set, F] <;> omega) (hi : id x = some i := by rfl) : exitP P n i Fs st Q := by
  cases sr ho
  exact purge_E _ _ _ g1 g2 g3 g4 (af i b hi)
end
end Go.Lz
namespace Go.Lz
/-! Numbers of some bits. -/
theorem p8 : (2 : Int) ^ min 8 64 = 256 := by decide
theorem p48 : (2 : Int) ^ min 48 64 = 281474976710656 := by decide
theorem p32 : (2 : Int) ^ min 32 64 = 4294967296 := by decide
theorem p16_64 : (2 : Int) ^ min 16 64 = 65536 := by decide
theorem p24_64 : (2 : Int) ^ min 24 64 = 16777216 := by decide
theorem p8_32 : (2 : Int) ^ min 8 32 = 256 := by decide
theorem p16_32 : (2 : Int) ^ min 16 32 = 65536 := by decide
theorem p24_32 : (2 : Int) ^ min 24 32 = 16777216 := by decide
attribute [go_sem] p16_64 p24_64 p8_32 p16_32 p24_32
theorem beq_tl {b : Bool} : (true == b) = b := by cases b <;> rfl
theorem beq_fl {b : Bool} : (false == b) = !b := by cases b <;> rfl
theorem beq_tr {b : Bool} : (b == true) = b := by cases b <;> rfl
theorem beq_fr {b : Bool} : (b == false) = !b := by cases b <;> rfl
attribute [go_sem] p8 p48 p32 beq_tl beq_fl beq_tr beq_fr
/-- A number as one of a kind. -/
def wrapS (k n : Int) : Int := if k = 1 then (if n = 0 then 0 else 1) else if k = 2 then IntKind.i16.wrap n else if k = 3 ∨ k = 4 then IntKind.i32.wrap n else 0
theorem kinds (k : Int) : k = 1 ∨ k = 2 ∨ k = 3 ∨ k = 4 ∨ (¬k = 1 ∧ ¬k = 2 ∧ ¬k = 3 ∧ ¬k = 4) := by omega
end Go.Lz
namespace Go.Lz
theorem q_map {α β : Type} {f : α → β} {xs : List α} {i : Nat} {x : α} (h : xs[i]? = some x) : (xs.map f)[i]? = some (f x) := by rw [List.getElem?_map, h]; rfl
theorem take_map_set {α β : Type} (f : α → β) (xs : List α) (i : Nat) (x : α) : List.take xs.length (List.map f (xs.set i x)) = List.map f (xs.set i x) := List.take_of_length_le (by simp)
theorem take_set_map {α β : Type} (f : α → β) (xs : List α) (i : Nat) (x : β) : List.take xs.length ((List.map f xs).set i x) = (List.map f xs).set i x := List.take_of_length_le (by simp)
attribute [go_sem] take_map_set take_set_map
/-- The builtins min and max of two numbers. -/
def minI (a b : Int) : Int := if b < a then b else a
def maxI (a b : Int) : Int := if b > a then b else a
theorem min_i {a b : Int} : (if b < a then b else a) = minI a b := rfl
theorem max_i {a b : Int} : (if b > a then b else a) = maxI a b := rfl
attribute [go_sem] min_i max_i
theorem take5 {α : Type} {a b c d e : α} {n : Nat} : List.take (min n 5) (List.take n [a, b, c, d, e]) = List.take n [a, b, c, d, e] := by
  rw [List.take_of_length_le]
  rw [List.length_take]
  exact Nat.le_refl _
attribute [go_sem] take5
/-! Strings and bytes. -/
def iBytes (l : List Int) : Str := l.map fun n => UInt8.ofNat n.toNat
theorem strRows_eq {b : Str} : strRows b = (sBytes b).map (eK .u8) := of_eq_true (eq_self _)
theorem all_bytes {l : List Int} : (l.map (eK .u8)).all byteRow = true := by
  rw [List.all_eq_true]; intro r hr; obtain ⟨n, _, rfl⟩ := List.mem_map.1 hr; rfl
theorem map_bytes {l : List Int} : (l.map (eK .u8)).map rowByte = iBytes l := by
  rw [List.map_map]; rfl
attribute [go_sem] strRows_eq all_bytes map_bytes List.append_eq
end Go.Lz

end
section
/- LzL: calls to which own objects are lent: the callee reckons on these objects alone, under numbers of its own. -/
namespace Go.Lz
set_option linter.unusedVariables false
set_option linter.unusedSimpArgs false

mutual
/-- References under other numbers. -/
def C.ren (f : Nat → Nat) : C → C
  | .sl rows => .sl (renRows f rows)
  | .slf rows => .slf (renRows f rows)
  | .iptr row off => .iptr (renRow f row) off
  | .fn g cap => .fn g (renRow f cap)
  | .ifc t cs => .ifc t (renRow f cs)
  | .ref id ver row off => .ref (f id) ver row off
  | .msl id ver lo hi => .msl (f id) ver lo hi
  | .mp id => .mp (f id)
  | .int k n => .int k n
  | .bool b => .bool b
  | .str s => .str s
  | .nilfn => .nilfn
  | .nilif => .nilif
  | .nilp => .nilp
  | .nilm => .nilm
def renRow (f : Nat → Nat) : List C → List C
  | [] => []
  | c :: r => c.ren f :: renRow f r
def renRows (f : Nat → Nat) : List (List C) → List (List C)
  | [] => []
  | r :: rs => renRow f r :: renRows f rs
end
mutual
/-- All references are to such objects. -/
def C.refs (p : Nat → Bool) : C → Bool
  | .sl rows => refsRows p rows
  | .slf rows => refsRows p rows
  | .iptr row _ => refsRow p row
  | .fn _ cap => refsRow p cap
  | .ifc _ cs => refsRow p cs
  | .ref id _ _ _ => p id
  | .msl id _ _ _ => p id
  | .mp id => p id
  | _ => true
def refsRow (p : Nat → Bool) : List C → Bool
  | [] => true
  | c :: r => c.refs p && refsRow p r
def refsRows (p : Nat → Bool) : List (List C) → Bool
  | [] => true
  | r :: rs => refsRow p r && refsRows p rs
end
theorem renRow_eq {f : Nat → Nat} : ∀ {l : List C}, renRow f l = l.map (C.ren f)
  | [] => rfl
  | c :: r => by rw [renRow, renRow_eq (l := r)]; rfl
theorem renRows_eq {f : Nat → Nat} : ∀ {l : List (List C)}, renRows f l = l.map (List.map (C.ren f))
  | [] => rfl
  | c :: r => by rw [renRows, renRows_eq (l := r), renRow_eq]; rfl
theorem refsRow_iff {p : Nat → Bool} : ∀ {l : List C}, refsRow p l = true ↔ ∀ c ∈ l, c.refs p = true
  | [] => by simp [refsRow]
  | c :: r => by simp [refsRow, refsRow_iff (l := r)]
theorem refsRows_iff {p : Nat → Bool} : ∀ {l : List (List C)}, refsRows p l = true ↔ ∀ r ∈ l, refsRow p r = true
  | [] => by simp [refsRows]
  | c :: r => by simp [refsRows, refsRows_iff (l := r)]
theorem refs_at2 {p : Nat → Bool} {rows : List (List C)} (h : refsRows p rows = true) {i j : Nat} {c : C} (hij : at2 rows i j = some c) : c.refs p = true := by
  obtain ⟨r, hr, hj⟩ := at2_some.1 hij
  exact refsRow_iff.1 (refsRows_iff.1 h r (List.mem_of_getElem? hr)) c (List.mem_of_getElem? hj)
theorem ren_at2 {f : Nat → Nat} {rows : List (List C)} {i j : Nat} : at2 (renRows f rows) i j = (at2 rows i j).map (C.ren f) := by
  rw [renRows_eq]
  simp only [at2, List.getElem?_map]
  cases rows[i]? with
  | none => rfl
  | some r => simp
theorem ren_at2' {f : Nat → Nat} {rows : List (List C)} {i j : Nat} {c : C} (h : at2 (renRows f rows) i j = some c) : ∃ c0, at2 rows i j = some c0 ∧ c = c0.ren f := by
  rw [ren_at2, Option.map_eq_some_iff] at h
  obtain ⟨c0, h1, h2⟩ := h
  exact ⟨c0, h1, h2.symm⟩
def V.ren (f : Nat → Nat) : V → V
  | .one c => .one (c.ren f)
  | .agg cs => .agg (renRow f cs)
  | .tup vs => .tup (renVs f vs)
  | .un => .un
where renVs (f : Nat → Nat) : List V → List V
  | [] => []
  | v :: vs => v.ren f :: renVs f vs
def V.refs (p : Nat → Bool) : V → Bool
  | .one c => c.refs p
  | .agg cs => refsRow p cs
  | .tup vs => refsVs p vs
  | .un => true
where refsVs (p : Nat → Bool) : List V → Bool
  | [] => true
  | v :: vs => v.refs p && refsVs p vs
theorem renVs_eq {f : Nat → Nat} : ∀ {l : List V}, V.ren.renVs f l = l.map (V.ren f)
  | [] => by rw [V.ren.renVs]; rfl
  | c :: r => by rw [V.ren.renVs, renVs_eq (l := r)]; rfl
theorem refsVs_iff {p : Nat → Bool} : ∀ {l : List V}, V.refs.refsVs p l = true ↔ ∀ c ∈ l, c.refs p = true
  | [] => by rw [V.refs.refsVs]; simp
  | c :: r => by rw [V.refs.refsVs]; simp [refsVs_iff (l := r)]
def O.ren (f : Nat → Nat) : O → O
  | .cells ver sz rows => .cells ver sz (renRows f rows)
  | .map es => .map (es.map fun e => (e.1.ren f, e.2.ren f))
  | .dead => .dead
def O.refs (p : Nat → Bool) : O → Bool
  | .cells _ _ rows => refsRows p rows
  | .map es => es.all fun e => e.1.refs p && e.2.refs p
  | .dead => true

/-- What stands for a value in one environment stands for it in another, under other numbers. -/
theorem CRel.ren {E E' : Env} {p : Nat → Bool} {f : Nat → Nat} (hfree : ∀ b, E.free b → E'.free b) (hcell : ∀ b o, E.free b → E'.w.cell? ⟨b, o, none⟩ = E.w.cell? ⟨b, o, none⟩)
    (hid : ∀ id, p id = true → id < E.H.length → f id < E'.H.length ∧ E'.bd (f id) = E.bd id ∧
      (∀ cur sz rows, E'.H[f id]? = some (.cells cur sz rows) → ∃ rows0, E.H[id]? = some (.cells cur sz rows0) ∧ rows0.length = rows.length) ∧ (∀ es, E'.H[f id]? = some (.map es) → ∃ es0, E.H[id]? = some (.map es0)))
    {c : C} {v : Value} (h : CRel E c v) : c.refs p = true → CRel E' (c.ren f) v := by
  induction h with
  | int h => intro _; exact .int h
  | bool => intro _; exact .bool
  | str h hl => intro _; exact .str h hl
  | @sl rows a n cap vals sz hn hcap hlim hsz hb hv ih =>
    intro hl
    have hlen : (renRows f rows).length = rows.length := by rw [renRows_eq]; simp
    refine .sl vals sz (by rw [hlen]; exact hn) (by rw [hlen]; exact hcap) (by rw [hlen]; exact hlim) (fun r hr => ?_) (fun hne => ?_) (fun i j c hij => ?_)
    · rw [renRows_eq] at hr
      obtain ⟨r0, hr0, rfl⟩ := List.mem_map.1 hr
      rw [List.length_map]; exact hsz r0 hr0
    · obtain ⟨b, off, ha, hf, hc⟩ := hb (fun e => hne (by rw [e]; rfl))
      refine ⟨b, off, ha, hfree b hf, fun i j c hij => ?_⟩
      obtain ⟨c0, h1, rfl⟩ := ren_at2' hij
      rw [hcell b _ hf]; exact hc i j c0 h1
    · obtain ⟨c0, h1, rfl⟩ := ren_at2' hij
      exact ih i j c0 h1 (refs_at2 hl h1)
  | @slf rows v h hf ih =>
    intro hl
    obtain ⟨a, ha⟩ := hf
    exact .slf (ih hl) ⟨a, by rw [ha, renRows_eq]; simp⟩
  | @iptr row off b o v vals he hb hc hv ih =>
    intro hl
    have get : ∀ (j : Nat) (c : C), (renRow f row)[j]? = some c → ∃ c0, row[j]? = some c0 ∧ c0.ren f = c := fun j c hj => by
      rw [renRow_eq, List.getElem?_map, Option.map_eq_some_iff] at hj
      exact hj
    refine .iptr vals he (hfree _ hb) (fun j c hj => ?_) (fun j c hj => ?_)
    · obtain ⟨c0, h1, rfl⟩ := get j c hj
      rw [hcell _ _ hb]; exact hc j c0 h1
    · obtain ⟨c0, h1, rfl⟩ := get j c hj
      exact ih j c0 h1 (refsRow_iff.1 hl c0 (List.mem_of_getElem? h1))
  | fn hn hv ih =>
    intro hl
    refine .fn (by rw [renRow_eq, List.length_map]; exact hn) (fun j c hj => ?_)
    rw [renRow_eq, List.getElem?_map, Option.map_eq_some_iff] at hj
    obtain ⟨c0, h1, rfl⟩ := hj
    exact ih j c0 h1 (refsRow_iff.1 hl c0 (List.mem_of_getElem? h1))
  | ifc hn hv ih =>
    intro hl
    refine .ifc (by rw [renRow_eq, List.length_map]; exact hn) (fun j c hj => ?_)
    rw [renRow_eq, List.getElem?_map, Option.map_eq_some_iff] at hj
    obtain ⟨c0, h1, rfl⟩ := hj
    exact ih j c0 h1 (refsRow_iff.1 hl c0 (List.mem_of_getElem? h1))
  | nilfn => intro _; exact .nilfn
  | nilif => intro _; exact .nilif
  | nilp => intro _; exact .nilp
  | nilm => intro _; exact .nilm
  | ref hlt hc h =>
    intro hl
    obtain ⟨h1, h2, h3, _⟩ := hid _ hl hlt
    refine .ref h1 hc fun cur sz rows ho => ?_
    obtain ⟨rows0, h4, _⟩ := h3 cur sz rows ho
    rw [h2]; exact h cur sz rows0 h4
  | msl hlt hc h =>
    intro hl
    obtain ⟨h1, h2, h3, _⟩ := hid _ hl hlt
    refine .msl h1 hc fun cur sz rows ho => ?_
    obtain ⟨rows0, h4, h5⟩ := h3 cur sz rows ho
    obtain ⟨k1, k2⟩ := h cur sz rows0 h4
    refine ⟨k1, fun e => ?_⟩
    rw [h2, ← h5]; exact k2 e
  | mp hlt hc h =>
    intro hl
    obtain ⟨h1, h2, _, h3⟩ := hid _ hl hlt
    refine .mp h1 hc fun es ho => ?_
    obtain ⟨es0, h4⟩ := h3 es ho
    rw [h2]; exact h es0 h4
theorem VRel.ren {E E' : Env} {p : Nat → Bool} {f : Nat → Nat} (hc : ∀ (c : C) (v : Value), CRel E c v → c.refs p = true → CRel E' (c.ren f) v) {x : V} {v : Value} (h : VRel E x v) : x.refs p = true → VRel E' (x.ren f) v := by
  induction h with
  | one h => intro hl; rw [V.refs] at hl; rw [V.ren]; exact .one (hc _ _ h hl)
  | agg hn h =>
    intro hl
    rw [V.refs] at hl
    rw [V.ren]
    refine .agg (by rw [renRow_eq, List.length_map]; exact hn) fun j c hj => ?_
    rw [renRow_eq, List.getElem?_map, Option.map_eq_some_iff] at hj
    obtain ⟨c0, h1, rfl⟩ := hj
    exact hc _ _ (h j c0 h1) (refsRow_iff.1 hl c0 (List.mem_of_getElem? h1))
  | tup hn h ih =>
    intro hl
    rw [V.refs] at hl
    rw [V.ren]
    refine .tup (by rw [renVs_eq, List.length_map]; exact hn) fun j x hj => ?_
    rw [renVs_eq, List.getElem?_map, Option.map_eq_some_iff] at hj
    obtain ⟨c0, h1, rfl⟩ := hj
    exact ih j c0 h1 (refsVs_iff.1 hl c0 (List.mem_of_getElem? h1))
  | un => intro _; rw [V.ren]; exact .un
/-- The same of objects. -/
theorem ORel.ren {E E' : Env} {p : Nat → Bool} {f : Nat → Nat} (hc : ∀ (c : C) (v : Value), CRel E c v → c.refs p = true → CRel E' (c.ren f) v) {id id' : Nat} (hbd : E'.bd id' = E.bd id) {o : O} (hw : E.live id o → E'.w.heap[(E.bd id).blk]? = E.w.heap[(E.bd id).blk]?)
    (h : ORel E id o) (hr : o.refs p = true) : ORel E' id' (o.ren f) := by
  cases o with
  | cells ver sz rows =>
    obtain ⟨h3, h4, h5, h6⟩ := h
    have hlen : (renRows f rows).length = rows.length := by rw [renRows_eq]; simp
    refine ⟨by rw [hbd, hlen]; exact h3, by rw [hlen]; exact h4, fun r hr' => ?_, fun hcap => ?_⟩
    · rw [renRows_eq] at hr'
      obtain ⟨r0, hr0, rfl⟩ := List.mem_map.1 hr'
      rw [List.length_map]; exact h5 r0 hr0
    · rw [hbd] at hcap
      obtain ⟨arr, ty, h1, h2, h6⟩ := h6 hcap
      refine ⟨arr, ty, by rw [hbd]; exact h1.congr (hw hcap), by rw [hbd]; exact h2, fun i j c hij => ?_⟩
      obtain ⟨c0, k1, rfl⟩ := ren_at2' hij
      obtain ⟨v, hv, hrel⟩ := h6 i j c0 k1
      exact ⟨v, by rw [hbd]; exact hv, hc _ _ hrel (refs_at2 hr k1)⟩
  | map es =>
    obtain ⟨ents, clock, h1, h2, h3⟩ := h
    refine ⟨ents, clock, by rw [hbd, hw trivial]; exact h1, by rw [List.length_map]; exact h2, fun i k x hi => ?_⟩
    rw [List.getElem?_map, Option.map_eq_some_iff] at hi
    obtain ⟨e0, k1, k2⟩ := hi
    obtain ⟨e, q1, q2, q3⟩ := h3 i e0.1 e0.2 k1
    have hr2 := List.all_eq_true.1 hr e0 (List.mem_of_getElem? k1)
    rw [Bool.and_eq_true] at hr2
    cases k2
    exact ⟨e, q1, hc _ _ q2 hr2.1, hc _ _ q3 hr2.2⟩
  | dead => trivial

/-- The objects that are lent, under the callee's numbers; and back. -/
def lendO (ids : List Nat) (H : List O) : List O := ids.map fun i => (H.getD i .dead).ren (fun j => ids.idxOf j)
def backO (ids : List Nat) (H H1 : List O) : List O := H.mapIdx fun i o => if ids.contains i then (H1.getD (ids.idxOf i) .dead).ren (fun k => ids.getD k 0) else o

end Go.Lz

end
section
/- Lw3: calls that turn objects which are handed to them: contracts over what is lent, and their use in regions that draw their order. -/
namespace Go.Lz
set_option linter.unusedVariables false
set_option linter.unusedSimpArgs false
section
variable {P : Program} {n : Cf} {Fs : List Fr} {Q : Ex → St → Prop}
end
theorem sq_i {P : Program} {pos : String} {op : Op} {t : List (Nat × V)} {H : List O} {S : List Nat} (h : stableQ P pos op (rhoL t) H S) : flS P true pos op t H S := h
theorem sq_ {P : Program} {pos : String} {op : Op} {ρ : Operand → V} {H : List O} {S : List Nat} (h : stableQ P pos op ρ H S := by
    (intro H' hA; (try simp only [agree_c, agree_n, List.getElem?_cons_zero, List.getElem?_cons_succ, and_true] at hA); first | (simp [go_sem, hA]; done) | (simp [go_sem, hA, F]; done) | (simp [go_sem, hA]; omega))) : stableQ P pos op ρ H S := h
end Go.Lz

end
section
/- Lw4: own rows that are given up where a round of a loop ends. -/
namespace Go.Lz
set_option linter.unusedVariables false
set_option linter.unusedSimpArgs false
section
variable {P : Program} {n : Cf} {F : List Fr} {Q : Ex → St → Prop}
theorem LoopP.weak {body : Code} {st st' : St} (hw : ∀ ctx a E, SR ctx n st a E → ∃ E', E'.w = E.w ∧ SR ctx n st' a E') (h : LoopP P n body F st' Q) : LoopP P n body F st Q := by
  intro hok ctx a E hs b k cs
  obtain ⟨E', e, hs'⟩ := hw ctx a E hs
  rw [← e]
  exact h hok ctx a E' hs' b k cs
theorem SR.fz {ctx : Env} {t : List (Nat × V)} {H : List O} {a : Act} {E : Env} (h : SR ctx n ⟨t, H⟩ a E) (k id : Nat) {ver sz hi : Nat} {rows : List (List C)} (hk : look t k = .one (.msl id ver 0 hi)) (ho : H[id]? = some (.cells ver sz rows)) (hh : hi = rows.length) :
    ∃ E', E'.w = E.w ∧ SR ctx n ⟨(k, .one (.sl rows)) :: t, H.set id .dead⟩ a E' := by
  subst hh
  have hH : E.H = H := h.H
  subst hH
  obtain ⟨tr, hr⟩ := kill_obj h.rel id _ rfl
  refine ⟨{ E with H := E.H.set id .dead }, rfl, ⟨h.len, h.hm, h.defers, fun i => ?_, rfl, hr, h.tr.trans tr⟩⟩
  simp only [look_cons]
  split
  · rename_i e
    subst e
    have hc := one_inv (hk ▸ h.tm k)
    have := fz_rel h.rel tr rfl hc (show fzPc E.H (.msl id ver 0 rows.length) by simp [fzPc, ho]) (fun id' ver' lo hi cur sz' rows' e ho' hcap => by
      obtain ⟨rfl, -, -, -⟩ := C.msl.inj e
      refine ⟨h.rel.lt ho' hcap, h.rel.nofr _ _ ho' hcap, ?_⟩
      rintro ⟨j, o, hj, hl, hb⟩
      have hl' : E.live j o := (live_bd (E := E) (E' := { E with H := E.H.set id .dead }) rfl).1 hl
      simp only [List.getElem?_set] at hj
      split at hj
      · split at hj
        · simp at hj; subst hj; exact hl'.elim
        · simp at hj
      · rename_i hne
        exact h.rel.dist id j _ _ ho' hj hcap hl' hne hb.symm)
    simp only [fzC, ho, List.take_length, List.drop_zero] at this
    exact .one this
  · exact (h.tm i).trans tr
end
end Go.Lz

end
section
/- Lw5: contracts over lent objects whose marks may rise; empty slices that get a place of their own ahead of a call. -/
namespace Go.Lz
set_option linter.unusedVariables false
set_option linter.unusedSimpArgs false
mutual
theorem C.ren_lt0 {f : Nat → Nat} : ∀ (c : C), c.lt 0 = true → c.ren f = c
  | .sl rows, h => by rw [C.ren, renRows_lt0 rows h]
  | .slf rows, h => by rw [C.ren, renRows_lt0 rows h]
  | .iptr row off, h => by rw [C.ren, renRow_lt0 row h]
  | .fn g cap, h => by rw [C.ren, renRow_lt0 cap h]
  | .ifc t cs, h => by rw [C.ren, renRow_lt0 cs h]
  | .ref id ver row off, h => by simp [C.lt] at h
  | .msl id ver lo hi, h => by simp [C.lt] at h
  | .mp id, h => by simp [C.lt] at h
  | .int k n, _ => rfl
  | .bool b, _ => rfl
  | .str s, _ => rfl
  | .nilfn, _ => rfl
  | .nilif, _ => rfl
  | .nilp, _ => rfl
  | .nilm, _ => rfl
theorem renRow_lt0 {f : Nat → Nat} : ∀ (l : List C), ltRow 0 l = true → renRow f l = l
  | [], _ => rfl
  | c :: r, h => by
    simp only [ltRow, Bool.and_eq_true] at h
    rw [renRow, C.ren_lt0 c h.1, renRow_lt0 r h.2]
theorem renRows_lt0 {f : Nat → Nat} : ∀ (l : List (List C)), ltRows 0 l = true → renRows f l = l
  | [], _ => rfl
  | r :: rs, h => by
    simp only [ltRows, Bool.and_eq_true] at h
    rw [renRows, renRow_lt0 r h.1, renRows_lt0 rs h.2]
end
mutual
theorem C.refs_lt0 {p : Nat → Bool} : ∀ (c : C), c.lt 0 = true → c.refs p = true
  | .sl rows, h => by rw [C.refs]; exact refsRows_lt0 rows h
  | .slf rows, h => by rw [C.refs]; exact refsRows_lt0 rows h
  | .iptr row off, h => by rw [C.refs]; exact refsRow_lt0 row h
  | .fn g cap, h => by rw [C.refs]; exact refsRow_lt0 cap h
  | .ifc t cs, h => by rw [C.refs]; exact refsRow_lt0 cs h
  | .ref id ver row off, h => by simp [C.lt] at h
  | .msl id ver lo hi, h => by simp [C.lt] at h
  | .mp id, h => by simp [C.lt] at h
  | .int k n, _ => rfl
  | .bool b, _ => rfl
  | .str s, _ => rfl
  | .nilfn, _ => rfl
  | .nilif, _ => rfl
  | .nilp, _ => rfl
  | .nilm, _ => rfl
theorem refsRow_lt0 {p : Nat → Bool} : ∀ (l : List C), ltRow 0 l = true → refsRow p l = true
  | [], _ => rfl
  | c :: r, h => by
    simp only [ltRow, Bool.and_eq_true] at h
    rw [refsRow, C.refs_lt0 c h.1, refsRow_lt0 r h.2]; rfl
theorem refsRows_lt0 {p : Nat → Bool} : ∀ (l : List (List C)), ltRows 0 l = true → refsRows p l = true
  | [], _ => rfl
  | r :: rs, h => by
    simp only [ltRows, Bool.and_eq_true] at h
    rw [refsRows, refsRow_lt0 r h.1, refsRows_lt0 rs h.2]; rfl
end
section
variable {α : Type} {f : α → List C}
theorem rn_of (h : Flat f) {g : Nat → Nat} {xs : List α} : renRows g (xs.map f) = xs.map f := renRows_lt0 _ (ltRows_flat h 0 xs)
theorem rf_of (h : Flat f) {p : Nat → Bool} {xs : List α} : refsRows p (xs.map f) = true := refsRows_lt0 _ (ltRows_flat h 0 xs)
end
section
variable {P : Program} {n : Cf} {Fs : List Fr} {Q : Ex → St → Prop}
end
end Go.Lz

end
section
/- Lw6: shorter words for walks. -/
namespace Go.Lz
set_option linter.unusedVariables false
set_option linter.unusedSimpArgs false
theorem isE_take {α β : Type} {f : α → β} {k : Nat} {l : List α} : (List.take k (List.map f l)).isEmpty = (List.take k l).isEmpty := by rw [← List.map_take, List.isEmpty_map]
theorem isE_drop {α β : Type} {f : α → β} {k : Nat} {l : List α} : (List.drop k (List.map f l)).isEmpty = (List.drop k l).isEmpty := by rw [← List.map_drop, List.isEmpty_map]
theorem w64_rng (n : Int) : -9223372036854775808 ≤ w64 n ∧ w64 n ≤ 9223372036854775807 := by rw [w64_eq]; omega
theorem max_maxI {a b : Int} : max a b = maxI a b := by unfold maxI; omega
attribute [go_sem] isE_take isE_drop max_maxI
structure Hide (q : Prop) : Prop where
  h : q
/-- A step, and what it asks; what is learnt stands ahead of the rest. -/
theorem tr {p q : Prop} (k : q) (e : Hide q → p := by
    intro k__
    (try simp -implicitDefEqProofs only [go_sem, simprocAttr, F, R])
    repeat (first | (with_reducible intro f__) | (with_reducible refine and_i ?_ ?_; exact ss))
    repeat revert f__
    exact k__.h) : p := e ⟨k⟩
section
variable {P : Program} {n : Cf} {Fs : List Fr} {Q : Ex → St → Prop}
/-- A loop without marks that turn. -/
theorem lX {body : Code} {σ ρ : Type} {f : σ → Option (σ ⊕ ρ)} {s0 : σ} {e : ρ} {st : St} (h : loop f s0 = some e) (ST : σ → Unit → St) (J : ρ → Unit → St) (id : ρ → Option Nat)
    (aft : Aft P n Fs Q J id e)
    (step : Aft P n Fs Q J id e → ∀ (m : Nat) (s : σ) (a : Unit) (o : σ ⊕ ρ), f s = some o → Sum.elim (loopN f m) some o = some e → Bck P n body Fs Q f m e ST → awpS P n [.code body] (ST s a) (loopPQ P n body Fs Q))
    (g1 : n.m ≤ (ST s0 ()).H.length := by simp) (g2 : keepLt (ST s0 ()).H.length ((ST s0 ()).t.map Prod.fst) st.t = true := by simp [go_sem, F]) (g3 : (st.H.take (ST s0 ()).H.length).all (O.lt (ST s0 ()).H.length) = true := by simp [go_sem, F])
    (g4 : (⟨keepT ((ST s0 ()).t.map Prod.fst) st.t, st.H.take (ST s0 ()).H.length⟩ : St) = ST s0 () := by simp [go_sem, copyL, List.map_set, F] <;> omega) : LoopS P n body Fs st Q :=
  purge_to _ _ _ g1 g2 g3 g4 (loop_X ST J id () h aft step)
end
end Go.Lz

end
section
/- Lw7: walks that find their own way: contracts as instances; loops over the state at hand. -/
namespace Go.Lz
set_option linter.unusedVariables false
set_option linter.unusedSimpArgs false
/-- What a function comes to, by its contract. -/
class Ok (P : Program) {α : Type} (x : Option α) (f : outParam FuncId) (args : outParam (List V)) (res : outParam (α → V)) : Prop where
  ok : ∀ r, x = some r → Pu P f args (res r)
def upR (i : Nat) (rows : List (List C)) (H : List O) : List O := match H[i]? with | some (.cells v s _) => H.set i (.cells v s rows) | _ => H
def upV (i v : Nat) (H : List O) : List O := match H[i]? with | some (.cells _ s rows) => H.set i (.cells v s rows) | _ => H
def upC (i j : Nat) (c : C) (H : List O) : List O := match H[i]? with | some (.cells v s [row]) => H.set i (.cells v s [row.set j c]) | _ => H
def allR : List (Nat × List (List C)) → List O → List O
  | [], H => H
  | p :: l, H => allR l (upR p.1 p.2 H)
def allV : Nat → List Nat → List Nat → List O → List O
  | _, [], _, H => H
  | q, i :: is, a, H => allV (q + 1) is a (upV i (a.getD q 0) H)
def allC : List (Nat × Nat × C) → List O → List O
  | [], H => H
  | p :: l, H => allC l (upC p.1 p.2.1 p.2.2 H)
/-- A state with some slots and objects turned, the others of some slots as they are. -/
def stY (st : St) (ks : List Nat) (m : Nat) (T : List (Nat × V)) (R : List (Nat × List (List C))) (ids a : List Nat) (Cs : List (Nat × Nat × C)) : St := ⟨T ++ keepT ks st.t, allC Cs (allV 0 ids a (allR R (st.H.take m)))⟩
/-- Objects' marks. -/
def verL : List Nat → List O → List Nat
  | [], _ => []
  | i :: is, H => (match H[i]? with | some (.cells v _ _) => v | _ => 0) :: verL is H
attribute [go_sem] upR upV upC allR allV allC stY verL
section
variable {P : Program} {n : Cf} {Fs : List Fr} {Q : Ex → St → Prop} {G : Prop} {p0 : Prop}
/-- From the end of a round back to the head. -/
def BckY (P : Program) (n : Cf) (body : Code) (Fs : List Fr) (Q : Ex → St → Prop) {σ ρ : Type} (f : σ → Option (σ ⊕ ρ)) (m : Nat) (e : ρ) (ST : σ → List Nat → St) (ids : List Nat) : Prop := ∀ s' a', loopN f m s' = some e → LoopP P n body Fs (ST s' a') Q
def AftY (P : Program) (n : Cf) (Q : Ex → St → Prop) (Fs : List Fr) {ρ : Type} (J : ρ → List Nat → St) (id : ρ → Option Nat) (e : ρ) (ids : List Nat) : Prop := ∀ i b, id e = some i → exitS P n i Fs (J e b) Q
end
end Go.Lz

end
