/- The parts of a proof: SD -/
import Derived.Test.YtcceddpmmgabjaaGreatQ3
import Derived.Test.YtcceddpmmgabjaaGreatProg
import Derived.KernelRfl
section
/- SD: the types of the program as types of Lean, and as cells; the table of types. -/
namespace Go.Lz
set_option linter.unusedVariables false
set_option linter.unusedSimpArgs false
open Go.Proofs
structure A2 (α : Type) where
  a0 : α
  a1 : α
  deriving DecidableEq
def eA2 {α : Type} (f : α → List C) (x : A2 α) : List C := f x.a0 ++ f x.a1
theorem eA2_def {α : Type} {f : α → List C} {x : A2 α} : eA2 f x = f x.a0 ++ f x.a1 := of_eq_true (eq_self _)
theorem Flat.A2 {α : Type} {f : α → List C} (h : Flat f) : Flat (eA2 f) := fun m x => by
  rw [eA2_def]; simp [ltRow_app, h m]
attribute [go_sem] eA2_def
structure A3 (α : Type) where
  a0 : α
  a1 : α
  a2 : α
  deriving DecidableEq
def eA3 {α : Type} (f : α → List C) (x : A3 α) : List C := f x.a0 ++ f x.a1 ++ f x.a2
theorem eA3_def {α : Type} {f : α → List C} {x : A3 α} : eA3 f x = f x.a0 ++ f x.a1 ++ f x.a2 := of_eq_true (eq_self _)
theorem Flat.A3 {α : Type} {f : α → List C} (h : Flat f) : Flat (eA3 f) := fun m x => by
  rw [eA3_def]; simp [ltRow_app, h m]
attribute [go_sem] eA3_def
structure A4 (α : Type) where
  a0 : α
  a1 : α
  a2 : α
  a3 : α
  deriving DecidableEq
def eA4 {α : Type} (f : α → List C) (x : A4 α) : List C := f x.a0 ++ f x.a1 ++ f x.a2 ++ f x.a3
theorem eA4_def {α : Type} {f : α → List C} {x : A4 α} : eA4 f x = f x.a0 ++ f x.a1 ++ f x.a2 ++ f x.a3 := of_eq_true (eq_self _)
theorem Flat.A4 {α : Type} {f : α → List C} (h : Flat f) : Flat (eA4 f) := fun m x => by
  rw [eA4_def]; simp [ltRow_app, h m]
attribute [go_sem] eA4_def
structure api_Lattice where
  Names : List Str
  Below : List (A2 Int)
def e_api_Lattice (x : api_Lattice) : List C := [.sl (x.Names.map eS), .sl (x.Below.map (eA2 eI))]
theorem e_api_Lattice_def {x : api_Lattice} : e_api_Lattice x = [.sl (x.Names.map eS), .sl (x.Below.map (eA2 eI))] := of_eq_true (eq_self _)
theorem Flat.api_Lattice : Flat e_api_Lattice := fun m x => by
  rw [e_api_Lattice_def]; simp [ltRow, C.lt, lt_eF, ltRows_flat Flat.S, ltRows_flat (Flat.A2 (Flat.K .i64))]
attribute [go_sem] e_api_Lattice_def
structure api_Site where
  Name : Str
  From : Int
  To : Int
def e_api_Site (x : api_Site) : List C := [.str x.Name, .int .i64 x.From, .int .i64 x.To]
theorem e_api_Site_def {x : api_Site} : e_api_Site x = [.str x.Name, .int .i64 x.From, .int .i64 x.To] := of_eq_true (eq_self _)
theorem Flat.api_Site : Flat e_api_Site := fun m x => by
  rw [e_api_Site_def]; simp [ltRow, C.lt, lt_eF]
attribute [go_sem] e_api_Site_def
structure api_Type where
  Kind : Int
  Low : Int
  Len : Int
def e_api_Type (x : api_Type) : List C := [.int .i64 x.Kind, .int .i64 x.Low, .int .i64 x.Len]
theorem e_api_Type_def {x : api_Type} : e_api_Type x = [.int .i64 x.Kind, .int .i64 x.Low, .int .i64 x.Len] := of_eq_true (eq_self _)
theorem Flat.api_Type : Flat e_api_Type := fun m x => by
  rw [e_api_Type_def]; simp [ltRow, C.lt, lt_eF]
attribute [go_sem] e_api_Type_def
structure api_Var where
  Name : Str
  Type_ : api_Type
  Mode : Int
  Label : Int
  Safe : Int
def e_api_Var (x : api_Var) : List C := [.str x.Name, .int .i64 x.Type_.Kind, .int .i64 x.Type_.Low, .int .i64 x.Type_.Len, .int .i64 x.Mode, .int .i64 x.Label, .int .i64 x.Safe]
theorem e_api_Var_def {x : api_Var} : e_api_Var x = [.str x.Name, .int .i64 x.Type_.Kind, .int .i64 x.Type_.Low, .int .i64 x.Type_.Len, .int .i64 x.Mode, .int .i64 x.Label, .int .i64 x.Safe] := of_eq_true (eq_self _)
theorem Flat.api_Var : Flat e_api_Var := fun m x => by
  rw [e_api_Var_def]; simp [ltRow, C.lt, lt_eF]
attribute [go_sem] e_api_Var_def
structure api_Block where
  Name : Str
  Kind : Str
  Label : Int
def e_api_Block (x : api_Block) : List C := [.str x.Name, .str x.Kind, .int .i64 x.Label]
theorem e_api_Block_def {x : api_Block} : e_api_Block x = [.str x.Name, .str x.Kind, .int .i64 x.Label] := of_eq_true (eq_self _)
theorem Flat.api_Block : Flat e_api_Block := fun m x => by
  rw [e_api_Block_def]; simp [ltRow, C.lt, lt_eF]
attribute [go_sem] e_api_Block_def
structure api_Expr where
  Op : Int
  N : Int
  Kind : Int
  Name : Str
  Args : List api_Expr
mutual
def e_api_Expr : api_Expr → List C
  | ⟨Op, N, Kind, Name, Args⟩ => [.int .i64 Op, .int .i64 N, .int .i64 Kind, .str Name, .sl (es_api_Expr Args)]
def es_api_Expr : List api_Expr → List (List C)
  | [] => []
  | x :: xs => e_api_Expr x :: es_api_Expr xs
end
theorem es_api_Expr_eq : ∀ (xs : List api_Expr), es_api_Expr xs = xs.map e_api_Expr
  | [] => rfl
  | x :: xs => by rw [es_api_Expr, es_api_Expr_eq xs]; rfl
theorem e_api_Expr_def {x : api_Expr} : e_api_Expr x = [.int .i64 x.Op, .int .i64 x.N, .int .i64 x.Kind, .str x.Name, .sl (x.Args.map e_api_Expr)] := by
  cases x; simp only [e_api_Expr, es_api_Expr_eq]
mutual
theorem Flat.api_Expr_1 (m : Nat) : ∀ (x : api_Expr), ltRow m (e_api_Expr x) = true
  | ⟨Op, N, Kind, Name, Args⟩ => by
    rw [e_api_Expr]; simp [ltRow, C.lt, Flat.api_Expr_2 m Args]
theorem Flat.api_Expr_2 (m : Nat) : ∀ (xs : List api_Expr), ltRows m (es_api_Expr xs) = true
  | [] => rfl
  | x :: xs => by rw [es_api_Expr, ltRows, Flat.api_Expr_1 m x, Flat.api_Expr_2 m xs]; rfl
end
theorem Flat.api_Expr : Flat e_api_Expr := fun m x => Flat.api_Expr_1 m x
attribute [go_sem] e_api_Expr_def
structure api_Stmt where
  Kind : Int
  Name : Str
  Target : api_Expr
  Value : api_Expr
  Args : List api_Expr
  Body : List api_Stmt
  Else : List api_Stmt
mutual
def e_api_Stmt : api_Stmt → List C
  | ⟨Kind, Name, Target, Value, Args, Body, Else⟩ => [.int .i64 Kind, .str Name, .int .i64 Target.Op, .int .i64 Target.N, .int .i64 Target.Kind, .str Target.Name, .sl (Target.Args.map e_api_Expr), .int .i64 Value.Op, .int .i64 Value.N, .int .i64 Value.Kind, .str Value.Name, .sl (Value.Args.map e_api_Expr), .sl (Args.map e_api_Expr), .sl (es_api_Stmt Body), .sl (es_api_Stmt Else)]
def es_api_Stmt : List api_Stmt → List (List C)
  | [] => []
  | x :: xs => e_api_Stmt x :: es_api_Stmt xs
end
theorem es_api_Stmt_eq : ∀ (xs : List api_Stmt), es_api_Stmt xs = xs.map e_api_Stmt
  | [] => rfl
  | x :: xs => by rw [es_api_Stmt, es_api_Stmt_eq xs]; rfl
theorem e_api_Stmt_def {x : api_Stmt} : e_api_Stmt x = [.int .i64 x.Kind, .str x.Name, .int .i64 x.Target.Op, .int .i64 x.Target.N, .int .i64 x.Target.Kind, .str x.Target.Name, .sl (x.Target.Args.map e_api_Expr), .int .i64 x.Value.Op, .int .i64 x.Value.N, .int .i64 x.Value.Kind, .str x.Value.Name, .sl (x.Value.Args.map e_api_Expr), .sl (x.Args.map e_api_Expr), .sl (x.Body.map e_api_Stmt), .sl (x.Else.map e_api_Stmt)] := by
  cases x; simp only [e_api_Stmt, es_api_Stmt_eq]
mutual
theorem Flat.api_Stmt_1 (m : Nat) : ∀ (x : api_Stmt), ltRow m (e_api_Stmt x) = true
  | ⟨Kind, Name, Target, Value, Args, Body, Else⟩ => by
    rw [e_api_Stmt]; simp [ltRow, C.lt, ltRows_flat Flat.api_Expr, ltRows_flat Flat.api_Expr, ltRows_flat Flat.api_Expr, Flat.api_Stmt_2 m Body, Flat.api_Stmt_2 m Else]
theorem Flat.api_Stmt_2 (m : Nat) : ∀ (xs : List api_Stmt), ltRows m (es_api_Stmt xs) = true
  | [] => rfl
  | x :: xs => by rw [es_api_Stmt, ltRows, Flat.api_Stmt_1 m x, Flat.api_Stmt_2 m xs]; rfl
end
theorem Flat.api_Stmt : Flat e_api_Stmt := fun m x => Flat.api_Stmt_1 m x
attribute [go_sem] e_api_Stmt_def
structure api_Task where
  Every : Int
  Priority : Int
  Budget : List Int
  Body : List api_Stmt
def e_api_Task (x : api_Task) : List C := [.int .i64 x.Every, .int .i64 x.Priority, .sl (x.Budget.map eI), .sl (x.Body.map e_api_Stmt)]
theorem e_api_Task_def {x : api_Task} : e_api_Task x = [.int .i64 x.Every, .int .i64 x.Priority, .sl (x.Budget.map eI), .sl (x.Body.map e_api_Stmt)] := of_eq_true (eq_self _)
theorem Flat.api_Task : Flat e_api_Task := fun m x => by
  rw [e_api_Task_def]; simp [ltRow, C.lt, lt_eF, ltRows_flat (Flat.K .i64), ltRows_flat Flat.api_Stmt]
attribute [go_sem] e_api_Task_def
structure api_Program where
  Lattice : api_Lattice
  Sites : List api_Site
  Vars : List api_Var
  Blocks : List api_Block
  Tasks : List api_Task
def e_api_Program (x : api_Program) : List C := [.sl (x.Lattice.Names.map eS), .sl (x.Lattice.Below.map (eA2 eI)), .sl (x.Sites.map e_api_Site), .sl (x.Vars.map e_api_Var), .sl (x.Blocks.map e_api_Block), .sl (x.Tasks.map e_api_Task)]
theorem e_api_Program_def {x : api_Program} : e_api_Program x = [.sl (x.Lattice.Names.map eS), .sl (x.Lattice.Below.map (eA2 eI)), .sl (x.Sites.map e_api_Site), .sl (x.Vars.map e_api_Var), .sl (x.Blocks.map e_api_Block), .sl (x.Tasks.map e_api_Task)] := of_eq_true (eq_self _)
theorem Flat.api_Program : Flat e_api_Program := fun m x => by
  rw [e_api_Program_def]; simp [ltRow, C.lt, lt_eF, ltRows_flat Flat.S, ltRows_flat (Flat.A2 (Flat.K .i64)), ltRows_flat Flat.api_Site, ltRows_flat Flat.api_Var, ltRows_flat Flat.api_Block, ltRows_flat Flat.api_Task]
attribute [go_sem] e_api_Program_def
structure api_Memory where
  Cells : List (List Int)
  Blocks : List (A4 Int)
def e_api_Memory (x : api_Memory) : List C := [.sl (x.Cells.map (eL eI)), .sl (x.Blocks.map (eA4 eI))]
theorem e_api_Memory_def {x : api_Memory} : e_api_Memory x = [.sl (x.Cells.map (eL eI)), .sl (x.Blocks.map (eA4 eI))] := of_eq_true (eq_self _)
theorem Flat.api_Memory : Flat e_api_Memory := fun m x => by
  rw [e_api_Memory_def]; simp [ltRow, C.lt, lt_eF, ltRows_flat (Flat.L (Flat.K .i64)), ltRows_flat (Flat.A4 (Flat.K .i64))]
attribute [go_sem] e_api_Memory_def
structure api_Event where
  Site : Int
  Value : Int
def e_api_Event (x : api_Event) : List C := [.int .i64 x.Site, .int .i64 x.Value]
theorem e_api_Event_def {x : api_Event} : e_api_Event x = [.int .i64 x.Site, .int .i64 x.Value] := of_eq_true (eq_self _)
theorem Flat.api_Event : Flat e_api_Event := fun m x => by
  rw [e_api_Event_def]; simp [ltRow, C.lt, lt_eF]
attribute [go_sem] e_api_Event_def
structure api_Run where
  Memory : api_Memory
  Left : List Int
  Latches : List Int
  Events : List api_Event
  Now : Int
def e_api_Run (x : api_Run) : List C := [.sl (x.Memory.Cells.map (eL eI)), .sl (x.Memory.Blocks.map (eA4 eI)), .sl (x.Left.map eI), .sl (x.Latches.map eI), .sl (x.Events.map e_api_Event), .int .i64 x.Now]
theorem e_api_Run_def {x : api_Run} : e_api_Run x = [.sl (x.Memory.Cells.map (eL eI)), .sl (x.Memory.Blocks.map (eA4 eI)), .sl (x.Left.map eI), .sl (x.Latches.map eI), .sl (x.Events.map e_api_Event), .int .i64 x.Now] := of_eq_true (eq_self _)
theorem Flat.api_Run : Flat e_api_Run := fun m x => by
  rw [e_api_Run_def]; simp [ltRow, C.lt, lt_eF, ltRows_flat (Flat.L (Flat.K .i64)), ltRows_flat (Flat.A4 (Flat.K .i64)), ltRows_flat (Flat.K .i64), ltRows_flat (Flat.K .i64), ltRows_flat Flat.api_Event]
attribute [go_sem] e_api_Run_def
structure blocks_kind where
  in_ : List Int
  out : List Int
  step : Option Nat
def e_blocks_kind (x : blocks_kind) : List C := [.sl (x.in_.map eI), .sl (x.out.map eI), eF x.step]
theorem e_blocks_kind_def {x : blocks_kind} : e_blocks_kind x = [.sl (x.in_.map eI), .sl (x.out.map eI), eF x.step] := of_eq_true (eq_self _)
theorem Flat.blocks_kind : Flat e_blocks_kind := fun m x => by
  rw [e_blocks_kind_def]; simp [ltRow, C.lt, lt_eF, ltRows_flat (Flat.K .i64), ltRows_flat (Flat.K .i64)]
attribute [go_sem] e_blocks_kind_def
structure typing_value where
  kind : Int
def e_typing_value (x : typing_value) : List C := [.int .i64 x.kind]
theorem e_typing_value_def {x : typing_value} : e_typing_value x = [.int .i64 x.kind] := of_eq_true (eq_self _)
theorem Flat.typing_value : Flat e_typing_value := fun m x => by
  rw [e_typing_value_def]; simp [ltRow, C.lt, lt_eF]
attribute [go_sem] e_typing_value_def
structure typing_scalar where
  v : api_Var
def e_typing_scalar (x : typing_scalar) : List C := [.str x.v.Name, .int .i64 x.v.Type_.Kind, .int .i64 x.v.Type_.Low, .int .i64 x.v.Type_.Len, .int .i64 x.v.Mode, .int .i64 x.v.Label, .int .i64 x.v.Safe]
theorem e_typing_scalar_def {x : typing_scalar} : e_typing_scalar x = [.str x.v.Name, .int .i64 x.v.Type_.Kind, .int .i64 x.v.Type_.Low, .int .i64 x.v.Type_.Len, .int .i64 x.v.Mode, .int .i64 x.v.Label, .int .i64 x.v.Safe] := of_eq_true (eq_self _)
theorem Flat.typing_scalar : Flat e_typing_scalar := fun m x => by
  rw [e_typing_scalar_def]; simp [ltRow, C.lt, lt_eF]
attribute [go_sem] e_typing_scalar_def
structure typing_array where
  v : api_Var
def e_typing_array (x : typing_array) : List C := [.str x.v.Name, .int .i64 x.v.Type_.Kind, .int .i64 x.v.Type_.Low, .int .i64 x.v.Type_.Len, .int .i64 x.v.Mode, .int .i64 x.v.Label, .int .i64 x.v.Safe]
theorem e_typing_array_def {x : typing_array} : e_typing_array x = [.str x.v.Name, .int .i64 x.v.Type_.Kind, .int .i64 x.v.Type_.Low, .int .i64 x.v.Type_.Len, .int .i64 x.v.Mode, .int .i64 x.v.Label, .int .i64 x.v.Safe] := of_eq_true (eq_self _)
theorem Flat.typing_array : Flat e_typing_array := fun m x => by
  rw [e_typing_array_def]; simp [ltRow, C.lt, lt_eF]
attribute [go_sem] e_typing_array_def
structure typing_output where
  b : api_Block
  n : Int
def e_typing_output (x : typing_output) : List C := [.str x.b.Name, .str x.b.Kind, .int .i64 x.b.Label, .int .i64 x.n]
theorem e_typing_output_def {x : typing_output} : e_typing_output x = [.str x.b.Name, .str x.b.Kind, .int .i64 x.b.Label, .int .i64 x.n] := of_eq_true (eq_self _)
theorem Flat.typing_output : Flat e_typing_output := fun m x => by
  rw [e_typing_output_def]; simp [ltRow, C.lt, lt_eF]
attribute [go_sem] e_typing_output_def
structure typing_release where
  ok : Bool
def e_typing_release (x : typing_release) : List C := [.bool x.ok]
theorem e_typing_release_def {x : typing_release} : e_typing_release x = [.bool x.ok] := of_eq_true (eq_self _)
theorem Flat.typing_release : Flat e_typing_release := fun m x => by
  rw [e_typing_release_def]; simp [ltRow, C.lt, lt_eF]
attribute [go_sem] e_typing_release_def
structure typing_result where
  op : Int
def e_typing_result (x : typing_result) : List C := [.int .i64 x.op]
theorem e_typing_result_def {x : typing_result} : e_typing_result x = [.int .i64 x.op] := of_eq_true (eq_self _)
theorem Flat.typing_result : Flat e_typing_result := fun m x => by
  rw [e_typing_result_def]; simp [ltRow, C.lt, lt_eF]
attribute [go_sem] e_typing_result_def
structure flow_desk where
  p : api_Program
def e_flow_desk (x : flow_desk) : List C := [.sl (x.p.Lattice.Names.map eS), .sl (x.p.Lattice.Below.map (eA2 eI)), .sl (x.p.Sites.map e_api_Site), .sl (x.p.Vars.map e_api_Var), .sl (x.p.Blocks.map e_api_Block), .sl (x.p.Tasks.map e_api_Task)]
theorem e_flow_desk_def {x : flow_desk} : e_flow_desk x = [.sl (x.p.Lattice.Names.map eS), .sl (x.p.Lattice.Below.map (eA2 eI)), .sl (x.p.Sites.map e_api_Site), .sl (x.p.Vars.map e_api_Var), .sl (x.p.Blocks.map e_api_Block), .sl (x.p.Tasks.map e_api_Task)] := of_eq_true (eq_self _)
theorem Flat.flow_desk : Flat e_flow_desk := fun m x => by
  rw [e_flow_desk_def]; simp [ltRow, C.lt, lt_eF, ltRows_flat Flat.S, ltRows_flat (Flat.A2 (Flat.K .i64)), ltRows_flat Flat.api_Site, ltRows_flat Flat.api_Var, ltRows_flat Flat.api_Block, ltRows_flat Flat.api_Task]
attribute [go_sem] e_flow_desk_def
theorem Plain.A2 {α : Type} {f : α → List C} (h : Plain f) : Plain (eA2 f) := fun H k x => by
  rw [eA2_def]; simp [h H k]
theorem Plain.A3 {α : Type} {f : α → List C} (h : Plain f) : Plain (eA3 f) := fun H k x => by
  rw [eA3_def]; simp [h H k]
theorem Plain.A4 {α : Type} {f : α → List C} (h : Plain f) : Plain (eA4 f) := fun H k x => by
  rw [eA4_def]; simp [h H k]
theorem Plain.api_Lattice : Plain e_api_Lattice := fun H k x => by rw [e_api_Lattice_def]; simp [vn_int, vn_bool, vn_str, vn_sl, vn_eF]
theorem Plain.api_Site : Plain e_api_Site := fun H k x => by rw [e_api_Site_def]; simp [vn_int, vn_bool, vn_str, vn_sl, vn_eF]
theorem Plain.api_Type : Plain e_api_Type := fun H k x => by rw [e_api_Type_def]; simp [vn_int, vn_bool, vn_str, vn_sl, vn_eF]
theorem Plain.api_Var : Plain e_api_Var := fun H k x => by rw [e_api_Var_def]; simp [vn_int, vn_bool, vn_str, vn_sl, vn_eF]
theorem Plain.api_Block : Plain e_api_Block := fun H k x => by rw [e_api_Block_def]; simp [vn_int, vn_bool, vn_str, vn_sl, vn_eF]
theorem Plain.api_Expr : Plain e_api_Expr := fun H k x => by rw [e_api_Expr_def]; simp [vn_int, vn_bool, vn_str, vn_sl, vn_eF]
theorem Plain.api_Stmt : Plain e_api_Stmt := fun H k x => by rw [e_api_Stmt_def]; simp [vn_int, vn_bool, vn_str, vn_sl, vn_eF]
theorem Plain.api_Task : Plain e_api_Task := fun H k x => by rw [e_api_Task_def]; simp [vn_int, vn_bool, vn_str, vn_sl, vn_eF]
theorem Plain.api_Program : Plain e_api_Program := fun H k x => by rw [e_api_Program_def]; simp [vn_int, vn_bool, vn_str, vn_sl, vn_eF]
theorem Plain.api_Memory : Plain e_api_Memory := fun H k x => by rw [e_api_Memory_def]; simp [vn_int, vn_bool, vn_str, vn_sl, vn_eF]
theorem Plain.api_Event : Plain e_api_Event := fun H k x => by rw [e_api_Event_def]; simp [vn_int, vn_bool, vn_str, vn_sl, vn_eF]
theorem Plain.api_Run : Plain e_api_Run := fun H k x => by rw [e_api_Run_def]; simp [vn_int, vn_bool, vn_str, vn_sl, vn_eF]
theorem Plain.blocks_kind : Plain e_blocks_kind := fun H k x => by rw [e_blocks_kind_def]; simp [vn_int, vn_bool, vn_str, vn_sl, vn_eF]
theorem Plain.typing_value : Plain e_typing_value := fun H k x => by rw [e_typing_value_def]; simp [vn_int, vn_bool, vn_str, vn_sl, vn_eF]
theorem Plain.typing_scalar : Plain e_typing_scalar := fun H k x => by rw [e_typing_scalar_def]; simp [vn_int, vn_bool, vn_str, vn_sl, vn_eF]
theorem Plain.typing_array : Plain e_typing_array := fun H k x => by rw [e_typing_array_def]; simp [vn_int, vn_bool, vn_str, vn_sl, vn_eF]
theorem Plain.typing_output : Plain e_typing_output := fun H k x => by rw [e_typing_output_def]; simp [vn_int, vn_bool, vn_str, vn_sl, vn_eF]
theorem Plain.typing_release : Plain e_typing_release := fun H k x => by rw [e_typing_release_def]; simp [vn_int, vn_bool, vn_str, vn_sl, vn_eF]
theorem Plain.typing_result : Plain e_typing_result := fun H k x => by rw [e_typing_result_def]; simp [vn_int, vn_bool, vn_str, vn_sl, vn_eF]
theorem Plain.flow_desk : Plain e_flow_desk := fun H k x => by rw [e_flow_desk_def]; simp [vn_int, vn_bool, vn_str, vn_sl, vn_eF]
theorem lr9 {m : Nat} {xs : List Str} : ltRows m (xs.map eS) = true := ltRows_flat Flat.S m xs
theorem vw9 {H : List O} {k : Nat} {xs : List Str} : viewRows H k (xs.map eS) = xs.map eS := viewRows_plain Plain.S H k xs
theorem rn9 {g : Nat → Nat} {xs : List Str} : renRows g (xs.map eS) = xs.map eS := rn_of Flat.S
theorem rf9 {p : Nat → Bool} {xs : List Str} : refsRows p (xs.map eS) = true := rf_of Flat.S
theorem lr103 {m : Nat} {xs : List (A2 Int)} : ltRows m (xs.map (eA2 eI)) = true := ltRows_flat (Flat.A2 (Flat.K .i64)) m xs
theorem vw103 {H : List O} {k : Nat} {xs : List (A2 Int)} : viewRows H k (xs.map (eA2 eI)) = xs.map (eA2 eI) := viewRows_plain (Plain.A2 (Plain.K .i64)) H k xs
theorem rn103 {g : Nat → Nat} {xs : List (A2 Int)} : renRows g (xs.map (eA2 eI)) = xs.map (eA2 eI) := rn_of (Flat.A2 (Flat.K .i64))
theorem rf103 {p : Nat → Bool} {xs : List (A2 Int)} : refsRows p (xs.map (eA2 eI)) = true := rf_of (Flat.A2 (Flat.K .i64))
theorem lr129 {m : Nat} {xs : List api_Site} : ltRows m (xs.map e_api_Site) = true := ltRows_flat Flat.api_Site m xs
theorem vw129 {H : List O} {k : Nat} {xs : List api_Site} : viewRows H k (xs.map e_api_Site) = xs.map e_api_Site := viewRows_plain Plain.api_Site H k xs
theorem rn129 {g : Nat → Nat} {xs : List api_Site} : renRows g (xs.map e_api_Site) = xs.map e_api_Site := rn_of Flat.api_Site
theorem rf129 {p : Nat → Bool} {xs : List api_Site} : refsRows p (xs.map e_api_Site) = true := rf_of Flat.api_Site
theorem lr66 {m : Nat} {xs : List api_Var} : ltRows m (xs.map e_api_Var) = true := ltRows_flat Flat.api_Var m xs
theorem vw66 {H : List O} {k : Nat} {xs : List api_Var} : viewRows H k (xs.map e_api_Var) = xs.map e_api_Var := viewRows_plain Plain.api_Var H k xs
theorem rn66 {g : Nat → Nat} {xs : List api_Var} : renRows g (xs.map e_api_Var) = xs.map e_api_Var := rn_of Flat.api_Var
theorem rf66 {p : Nat → Bool} {xs : List api_Var} : refsRows p (xs.map e_api_Var) = true := rf_of Flat.api_Var
theorem lr69 {m : Nat} {xs : List api_Block} : ltRows m (xs.map e_api_Block) = true := ltRows_flat Flat.api_Block m xs
theorem vw69 {H : List O} {k : Nat} {xs : List api_Block} : viewRows H k (xs.map e_api_Block) = xs.map e_api_Block := viewRows_plain Plain.api_Block H k xs
theorem rn69 {g : Nat → Nat} {xs : List api_Block} : renRows g (xs.map e_api_Block) = xs.map e_api_Block := rn_of Flat.api_Block
theorem rf69 {p : Nat → Bool} {xs : List api_Block} : refsRows p (xs.map e_api_Block) = true := rf_of Flat.api_Block
theorem lr78 {m : Nat} {xs : List api_Task} : ltRows m (xs.map e_api_Task) = true := ltRows_flat Flat.api_Task m xs
theorem vw78 {H : List O} {k : Nat} {xs : List api_Task} : viewRows H k (xs.map e_api_Task) = xs.map e_api_Task := viewRows_plain Plain.api_Task H k xs
theorem rn78 {g : Nat → Nat} {xs : List api_Task} : renRows g (xs.map e_api_Task) = xs.map e_api_Task := rn_of Flat.api_Task
theorem rf78 {p : Nat → Bool} {xs : List api_Task} : refsRows p (xs.map e_api_Task) = true := rf_of Flat.api_Task
theorem lr36 {m : Nat} {xs : List (List Int)} : ltRows m (xs.map (eL eI)) = true := ltRows_flat (Flat.L (Flat.K .i64)) m xs
theorem vw36 {H : List O} {k : Nat} {xs : List (List Int)} : viewRows H k (xs.map (eL eI)) = xs.map (eL eI) := viewRows_plain (Plain.L eI) H k xs
theorem rn36 {g : Nat → Nat} {xs : List (List Int)} : renRows g (xs.map (eL eI)) = xs.map (eL eI) := rn_of (Flat.L (Flat.K .i64))
theorem rf36 {p : Nat → Bool} {xs : List (List Int)} : refsRows p (xs.map (eL eI)) = true := rf_of (Flat.L (Flat.K .i64))
theorem lr71 {m : Nat} {xs : List (A4 Int)} : ltRows m (xs.map (eA4 eI)) = true := ltRows_flat (Flat.A4 (Flat.K .i64)) m xs
theorem vw71 {H : List O} {k : Nat} {xs : List (A4 Int)} : viewRows H k (xs.map (eA4 eI)) = xs.map (eA4 eI) := viewRows_plain (Plain.A4 (Plain.K .i64)) H k xs
theorem rn71 {g : Nat → Nat} {xs : List (A4 Int)} : renRows g (xs.map (eA4 eI)) = xs.map (eA4 eI) := rn_of (Flat.A4 (Flat.K .i64))
theorem rf71 {p : Nat → Bool} {xs : List (A4 Int)} : refsRows p (xs.map (eA4 eI)) = true := rf_of (Flat.A4 (Flat.K .i64))
theorem lr3 {m : Nat} {xs : List Int} : ltRows m (xs.map eI) = true := ltRows_flat (Flat.K .i64) m xs
theorem vw3 {H : List O} {k : Nat} {xs : List Int} : viewRows H k (xs.map eI) = xs.map eI := viewRows_plain (Plain.K .i64) H k xs
theorem rn3 {g : Nat → Nat} {xs : List Int} : renRows g (xs.map eI) = xs.map eI := rn_of (Flat.K .i64)
theorem rf3 {p : Nat → Bool} {xs : List Int} : refsRows p (xs.map eI) = true := rf_of (Flat.K .i64)
theorem lr111 {m : Nat} {xs : List api_Event} : ltRows m (xs.map e_api_Event) = true := ltRows_flat Flat.api_Event m xs
theorem vw111 {H : List O} {k : Nat} {xs : List api_Event} : viewRows H k (xs.map e_api_Event) = xs.map e_api_Event := viewRows_plain Plain.api_Event H k xs
theorem rn111 {g : Nat → Nat} {xs : List api_Event} : renRows g (xs.map e_api_Event) = xs.map e_api_Event := rn_of Flat.api_Event
theorem rf111 {p : Nat → Bool} {xs : List api_Event} : refsRows p (xs.map e_api_Event) = true := rf_of Flat.api_Event
theorem lr42 {m : Nat} {xs : List api_Expr} : ltRows m (xs.map e_api_Expr) = true := ltRows_flat Flat.api_Expr m xs
theorem vw42 {H : List O} {k : Nat} {xs : List api_Expr} : viewRows H k (xs.map e_api_Expr) = xs.map e_api_Expr := viewRows_plain Plain.api_Expr H k xs
theorem rn42 {g : Nat → Nat} {xs : List api_Expr} : renRows g (xs.map e_api_Expr) = xs.map e_api_Expr := rn_of Flat.api_Expr
theorem rf42 {p : Nat → Bool} {xs : List api_Expr} : refsRows p (xs.map e_api_Expr) = true := rf_of Flat.api_Expr
theorem lr76 {m : Nat} {xs : List api_Stmt} : ltRows m (xs.map e_api_Stmt) = true := ltRows_flat Flat.api_Stmt m xs
theorem vw76 {H : List O} {k : Nat} {xs : List api_Stmt} : viewRows H k (xs.map e_api_Stmt) = xs.map e_api_Stmt := viewRows_plain Plain.api_Stmt H k xs
theorem rn76 {g : Nat → Nat} {xs : List api_Stmt} : renRows g (xs.map e_api_Stmt) = xs.map e_api_Stmt := rn_of Flat.api_Stmt
theorem rf76 {p : Nat → Bool} {xs : List api_Stmt} : refsRows p (xs.map e_api_Stmt) = true := rf_of Flat.api_Stmt
theorem lr4 {m : Nat} {xs : List Bool} : ltRows m (xs.map eB) = true := ltRows_flat Flat.B m xs
theorem vw4 {H : List O} {k : Nat} {xs : List Bool} : viewRows H k (xs.map eB) = xs.map eB := viewRows_plain Plain.B H k xs
theorem rn4 {g : Nat → Nat} {xs : List Bool} : renRows g (xs.map eB) = xs.map eB := rn_of Flat.B
theorem rf4 {p : Nat → Bool} {xs : List Bool} : refsRows p (xs.map eB) = true := rf_of Flat.B
theorem lr5 {m : Nat} {xs : List Int} : ltRows m (xs.map (eK .u8)) = true := ltRows_flat (Flat.K .u8) m xs
theorem vw5 {H : List O} {k : Nat} {xs : List Int} : viewRows H k (xs.map (eK .u8)) = xs.map (eK .u8) := viewRows_plain (Plain.K .u8) H k xs
theorem rn5 {g : Nat → Nat} {xs : List Int} : renRows g (xs.map (eK .u8)) = xs.map (eK .u8) := rn_of (Flat.K .u8)
theorem rf5 {p : Nat → Bool} {xs : List Int} : refsRows p (xs.map (eK .u8)) = true := rf_of (Flat.K .u8)
theorem eqt66 : eqT Tryz.prog 66 = true := by kernel_rfl
theorem lit66 {a0 : Str} {a1 : Int} {a2 : Int} {a3 : Int} {a4 : Int} {a5 : Int} {a6 : Int} : litC Tryz.prog 20 66 [.str a0, .int .i64 a1, .int .i64 a2, .int .i64 a3, .int .i64 a4, .int .i64 a5, .int .i64 a6] = some [.s a0, .i .i64 a1, .i .i64 a2, .i .i64 a3, .i .i64 a4, .i .i64 a5, .i .i64 a6] := by kernel_rfl
theorem eqt69 : eqT Tryz.prog 69 = true := by kernel_rfl
theorem lit69 {a0 : Str} {a1 : Str} {a2 : Int} : litC Tryz.prog 20 69 [.str a0, .str a1, .int .i64 a2] = some [.s a0, .s a1, .i .i64 a2] := by kernel_rfl
theorem eqt71 : eqT Tryz.prog 71 = true := by kernel_rfl
theorem lit71 {a0 : Int} {a1 : Int} {a2 : Int} {a3 : Int} : litC Tryz.prog 20 71 [.int .i64 a0, .int .i64 a1, .int .i64 a2, .int .i64 a3] = some [.i .i64 a0, .i .i64 a1, .i .i64 a2, .i .i64 a3] := by kernel_rfl
theorem eqt103 : eqT Tryz.prog 103 = true := by kernel_rfl
theorem lit103 {a0 : Int} {a1 : Int} : litC Tryz.prog 20 103 [.int .i64 a0, .int .i64 a1] = some [.i .i64 a0, .i .i64 a1] := by kernel_rfl
theorem eqt111 : eqT Tryz.prog 111 = true := by kernel_rfl
theorem lit111 {a0 : Int} {a1 : Int} : litC Tryz.prog 20 111 [.int .i64 a0, .int .i64 a1] = some [.i .i64 a0, .i .i64 a1] := by kernel_rfl
theorem eqt129 : eqT Tryz.prog 129 = true := by kernel_rfl
theorem lit129 {a0 : Str} {a1 : Int} {a2 : Int} : litC Tryz.prog 20 129 [.str a0, .int .i64 a1, .int .i64 a2] = some [.s a0, .i .i64 a1, .i .i64 a2] := by kernel_rfl
theorem ag3 : tAg Tryz.prog 3 = some (false, 1) := by kernel_rfl
theorem tk3 : tK Tryz.prog 3 = some .i64 := by kernel_rfl
theorem z3 : tZ Tryz.prog 3 = some (.one (.int .i64 0)) := by kernel_rfl
theorem un3 : (Tryz.prog.underlying 3).isSome = true := by kernel_rfl
theorem ag4 : tAg Tryz.prog 4 = some (false, 1) := by kernel_rfl
theorem tb4 : tIsBool Tryz.prog 4 = true := by kernel_rfl
theorem z4 : tZ Tryz.prog 4 = some (.one (.bool false)) := by kernel_rfl
theorem ag5 : tAg Tryz.prog 5 = some (false, 1) := by kernel_rfl
theorem tk5 : tK Tryz.prog 5 = some .u8 := by kernel_rfl
theorem z5 : tZ Tryz.prog 5 = some (.one (.int .u8 0)) := by kernel_rfl
theorem un5 : (Tryz.prog.underlying 5).isSome = true := by kernel_rfl
theorem ud5 : Tryz.prog.underlying 5 = some (.int .u8) := by kernel_rfl
theorem ag9 : tAg Tryz.prog 9 = some (false, 1) := by kernel_rfl
theorem ts9 : tIsStr Tryz.prog 9 = true := by kernel_rfl
theorem z9 : tZ Tryz.prog 9 = some (.one (.str [])) := by kernel_rfl
theorem ud9 : Tryz.prog.underlying 9 = some .string := by kernel_rfl
theorem ag20 : tAg Tryz.prog 20 = some (false, 1) := by kernel_rfl
theorem ag22 : tAg Tryz.prog 22 = some (false, 1) := by kernel_rfl
theorem sl22 : tSl Tryz.prog 22 = some (9, 1, 16) := by kernel_rfl
theorem ar22 : tAr Tryz.prog 22 = none := by kernel_rfl
theorem z22 : tZ Tryz.prog 22 = some (.one (.slf [])) := by kernel_rfl
theorem ag23 : tAg Tryz.prog 23 = some (false, 1) := by kernel_rfl
theorem sl23 : tSl Tryz.prog 23 = some (103, 2, 16) := by kernel_rfl
theorem ar23 : tAr Tryz.prog 23 = none := by kernel_rfl
theorem z23 : tZ Tryz.prog 23 = some (.one (.slf [])) := by kernel_rfl
theorem ag25 : tAg Tryz.prog 25 = some (true, 2) := by kernel_rfl
theorem pl25 : tPl Tryz.prog 25 = some (fun k => [(0, 1), (1, 1)][k]?) := by kernel_rfl
theorem fd25_0 : tFd Tryz.prog 25 0 = some (0, false, 1) := by kernel_rfl
theorem fd25_1 : tFd Tryz.prog 25 1 = some (1, false, 1) := by kernel_rfl
theorem z25 : tZ Tryz.prog 25 = some (.agg [.slf [], .slf []]) := by kernel_rfl
theorem ag26 : tAg Tryz.prog 26 = some (false, 1) := by kernel_rfl
theorem sl26 : tSl Tryz.prog 26 = some (129, 3, 32) := by kernel_rfl
theorem ar26 : tAr Tryz.prog 26 = none := by kernel_rfl
theorem z26 : tZ Tryz.prog 26 = some (.one (.slf [])) := by kernel_rfl
theorem ag27 : tAg Tryz.prog 27 = some (false, 1) := by kernel_rfl
theorem sl27 : tSl Tryz.prog 27 = some (66, 7, 64) := by kernel_rfl
theorem ar27 : tAr Tryz.prog 27 = none := by kernel_rfl
theorem z27 : tZ Tryz.prog 27 = some (.one (.slf [])) := by kernel_rfl
theorem ag28 : tAg Tryz.prog 28 = some (false, 1) := by kernel_rfl
theorem sl28 : tSl Tryz.prog 28 = some (69, 3, 40) := by kernel_rfl
theorem ar28 : tAr Tryz.prog 28 = none := by kernel_rfl
theorem z28 : tZ Tryz.prog 28 = some (.one (.slf [])) := by kernel_rfl
theorem ag29 : tAg Tryz.prog 29 = some (false, 1) := by kernel_rfl
theorem sl29 : tSl Tryz.prog 29 = some (78, 4, 64) := by kernel_rfl
theorem ar29 : tAr Tryz.prog 29 = none := by kernel_rfl
theorem z29 : tZ Tryz.prog 29 = some (.one (.slf [])) := by kernel_rfl
theorem ag31 : tAg Tryz.prog 31 = some (true, 6) := by kernel_rfl
theorem pl31 : tPl Tryz.prog 31 = some (fun k => [(0, 2), (2, 1), (3, 1), (4, 1), (5, 1)][k]?) := by kernel_rfl
theorem fd31_0 : tFd Tryz.prog 31 0 = some (0, true, 2) := by kernel_rfl
theorem fd31_1 : tFd Tryz.prog 31 1 = some (2, false, 1) := by kernel_rfl
theorem fd31_2 : tFd Tryz.prog 31 2 = some (3, false, 1) := by kernel_rfl
theorem fd31_3 : tFd Tryz.prog 31 3 = some (4, false, 1) := by kernel_rfl
theorem fd31_4 : tFd Tryz.prog 31 4 = some (5, false, 1) := by kernel_rfl
theorem z31 : tZ Tryz.prog 31 = some (.agg [.slf [], .slf [], .slf [], .slf [], .slf [], .slf []]) := by kernel_rfl
theorem ag32 : tAg Tryz.prog 32 = some (false, 1) := by kernel_rfl
theorem sl32 : tSl Tryz.prog 32 = some (36, 1, 24) := by kernel_rfl
theorem ar32 : tAr Tryz.prog 32 = none := by kernel_rfl
theorem z32 : tZ Tryz.prog 32 = some (.one (.slf [])) := by kernel_rfl
theorem ag33 : tAg Tryz.prog 33 = some (false, 1) := by kernel_rfl
theorem sl33 : tSl Tryz.prog 33 = some (71, 4, 32) := by kernel_rfl
theorem ar33 : tAr Tryz.prog 33 = none := by kernel_rfl
theorem z33 : tZ Tryz.prog 33 = some (.one (.slf [])) := by kernel_rfl
theorem ag35 : tAg Tryz.prog 35 = some (true, 2) := by kernel_rfl
theorem pl35 : tPl Tryz.prog 35 = some (fun k => [(0, 1), (1, 1)][k]?) := by kernel_rfl
theorem fd35_0 : tFd Tryz.prog 35 0 = some (0, false, 1) := by kernel_rfl
theorem fd35_1 : tFd Tryz.prog 35 1 = some (1, false, 1) := by kernel_rfl
theorem z35 : tZ Tryz.prog 35 = some (.agg [.slf [], .slf []]) := by kernel_rfl
theorem ag36 : tAg Tryz.prog 36 = some (false, 1) := by kernel_rfl
theorem sl36 : tSl Tryz.prog 36 = some (3, 1, 8) := by kernel_rfl
theorem ar36 : tAr Tryz.prog 36 = none := by kernel_rfl
theorem z36 : tZ Tryz.prog 36 = some (.one (.slf [])) := by kernel_rfl
theorem ag37 : tAg Tryz.prog 37 = some (false, 1) := by kernel_rfl
theorem sl37 : tSl Tryz.prog 37 = some (111, 2, 16) := by kernel_rfl
theorem ar37 : tAr Tryz.prog 37 = none := by kernel_rfl
theorem z37 : tZ Tryz.prog 37 = some (.one (.slf [])) := by kernel_rfl
theorem ag39 : tAg Tryz.prog 39 = some (true, 6) := by kernel_rfl
theorem pl39 : tPl Tryz.prog 39 = some (fun k => [(0, 2), (2, 1), (3, 1), (4, 1), (5, 1)][k]?) := by kernel_rfl
theorem fd39_0 : tFd Tryz.prog 39 0 = some (0, true, 2) := by kernel_rfl
theorem fd39_1 : tFd Tryz.prog 39 1 = some (2, false, 1) := by kernel_rfl
theorem fd39_2 : tFd Tryz.prog 39 2 = some (3, false, 1) := by kernel_rfl
theorem fd39_3 : tFd Tryz.prog 39 3 = some (4, false, 1) := by kernel_rfl
theorem fd39_4 : tFd Tryz.prog 39 4 = some (5, false, 1) := by kernel_rfl
theorem z39 : tZ Tryz.prog 39 = some (.agg [.slf [], .slf [], .slf [], .slf [], .slf [], .int .i64 0]) := by kernel_rfl
theorem ag40 : tAg Tryz.prog 40 = some (false, 1) := by kernel_rfl
theorem sl40 : tSl Tryz.prog 40 = some (42, 5, 64) := by kernel_rfl
theorem ar40 : tAr Tryz.prog 40 = none := by kernel_rfl
theorem z40 : tZ Tryz.prog 40 = some (.one (.slf [])) := by kernel_rfl
theorem ag42 : tAg Tryz.prog 42 = some (true, 5) := by kernel_rfl
theorem pl42 : tPl Tryz.prog 42 = some (fun k => [(0, 1), (1, 1), (2, 1), (3, 1), (4, 1)][k]?) := by kernel_rfl
theorem fd42_0 : tFd Tryz.prog 42 0 = some (0, false, 1) := by kernel_rfl
theorem fd42_1 : tFd Tryz.prog 42 1 = some (1, false, 1) := by kernel_rfl
theorem fd42_2 : tFd Tryz.prog 42 2 = some (2, false, 1) := by kernel_rfl
theorem fd42_3 : tFd Tryz.prog 42 3 = some (3, false, 1) := by kernel_rfl
theorem fd42_4 : tFd Tryz.prog 42 4 = some (4, false, 1) := by kernel_rfl
theorem z42 : tZ Tryz.prog 42 = some (.agg [.int .i64 0, .int .i64 0, .int .i64 0, .str [], .slf []]) := by kernel_rfl
theorem ag54 : tAg Tryz.prog 54 = some (false, 1) := by kernel_rfl
theorem z54 : tZ Tryz.prog 54 = some (.one (.nilfn)) := by kernel_rfl
theorem ag58 : tAg Tryz.prog 58 = some (true, 12) := by kernel_rfl
theorem pl58 : tPl Tryz.prog 58 = some (fun k => some (k * 6, 6)) := by kernel_rfl
theorem ar58 : tAr Tryz.prog 58 = some (2, 39, 6) := by kernel_rfl
theorem z58 : tZ Tryz.prog 58 = some (.agg [.slf [], .slf [], .slf [], .slf [], .slf [], .int .i64 0, .slf [], .slf [], .slf [], .slf [], .slf [], .int .i64 0]) := by kernel_rfl
theorem ag64 : tAg Tryz.prog 64 = some (true, 3) := by kernel_rfl
theorem pl64 : tPl Tryz.prog 64 = some (fun k => [(0, 1), (1, 1), (2, 1)][k]?) := by kernel_rfl
theorem fd64_0 : tFd Tryz.prog 64 0 = some (0, false, 1) := by kernel_rfl
theorem fd64_1 : tFd Tryz.prog 64 1 = some (1, false, 1) := by kernel_rfl
theorem fd64_2 : tFd Tryz.prog 64 2 = some (2, false, 1) := by kernel_rfl
theorem z64 : tZ Tryz.prog 64 = some (.agg [.int .i64 0, .int .i64 0, .int .i64 0]) := by kernel_rfl
theorem ag66 : tAg Tryz.prog 66 = some (true, 7) := by kernel_rfl
theorem pl66 : tPl Tryz.prog 66 = some (fun k => [(0, 1), (1, 3), (4, 1), (5, 1), (6, 1)][k]?) := by kernel_rfl
theorem fd66_0 : tFd Tryz.prog 66 0 = some (0, false, 1) := by kernel_rfl
theorem fd66_1 : tFd Tryz.prog 66 1 = some (1, true, 3) := by kernel_rfl
theorem fd66_2 : tFd Tryz.prog 66 2 = some (4, false, 1) := by kernel_rfl
theorem fd66_3 : tFd Tryz.prog 66 3 = some (5, false, 1) := by kernel_rfl
theorem fd66_4 : tFd Tryz.prog 66 4 = some (6, false, 1) := by kernel_rfl
theorem z66 : tZ Tryz.prog 66 = some (.agg [.str [], .int .i64 0, .int .i64 0, .int .i64 0, .int .i64 0, .int .i64 0, .int .i64 0]) := by kernel_rfl
theorem ag69 : tAg Tryz.prog 69 = some (true, 3) := by kernel_rfl
theorem pl69 : tPl Tryz.prog 69 = some (fun k => [(0, 1), (1, 1), (2, 1)][k]?) := by kernel_rfl
theorem fd69_0 : tFd Tryz.prog 69 0 = some (0, false, 1) := by kernel_rfl
theorem fd69_1 : tFd Tryz.prog 69 1 = some (1, false, 1) := by kernel_rfl
theorem fd69_2 : tFd Tryz.prog 69 2 = some (2, false, 1) := by kernel_rfl
theorem z69 : tZ Tryz.prog 69 = some (.agg [.str [], .str [], .int .i64 0]) := by kernel_rfl
theorem ag71 : tAg Tryz.prog 71 = some (true, 4) := by kernel_rfl
theorem pl71 : tPl Tryz.prog 71 = some (fun k => some (k * 1, 1)) := by kernel_rfl
theorem ar71 : tAr Tryz.prog 71 = some (4, 3, 1) := by kernel_rfl
theorem z71 : tZ Tryz.prog 71 = some (.agg [.int .i64 0, .int .i64 0, .int .i64 0, .int .i64 0]) := by kernel_rfl
theorem ag74 : tAg Tryz.prog 74 = some (false, 1) := by kernel_rfl
theorem sl74 : tSl Tryz.prog 74 = some (76, 15, 224) := by kernel_rfl
theorem ar74 : tAr Tryz.prog 74 = none := by kernel_rfl
theorem z74 : tZ Tryz.prog 74 = some (.one (.slf [])) := by kernel_rfl
theorem ag76 : tAg Tryz.prog 76 = some (true, 15) := by kernel_rfl
theorem pl76 : tPl Tryz.prog 76 = some (fun k => [(0, 1), (1, 1), (2, 5), (7, 5), (12, 1), (13, 1), (14, 1)][k]?) := by kernel_rfl
theorem fd76_0 : tFd Tryz.prog 76 0 = some (0, false, 1) := by kernel_rfl
theorem fd76_1 : tFd Tryz.prog 76 1 = some (1, false, 1) := by kernel_rfl
theorem fd76_2 : tFd Tryz.prog 76 2 = some (2, true, 5) := by kernel_rfl
theorem fd76_3 : tFd Tryz.prog 76 3 = some (7, true, 5) := by kernel_rfl
theorem fd76_4 : tFd Tryz.prog 76 4 = some (12, false, 1) := by kernel_rfl
theorem fd76_5 : tFd Tryz.prog 76 5 = some (13, false, 1) := by kernel_rfl
theorem fd76_6 : tFd Tryz.prog 76 6 = some (14, false, 1) := by kernel_rfl
theorem z76 : tZ Tryz.prog 76 = some (.agg [.int .i64 0, .str [], .int .i64 0, .int .i64 0, .int .i64 0, .str [], .slf [], .int .i64 0, .int .i64 0, .int .i64 0, .str [], .slf [], .slf [], .slf [], .slf []]) := by kernel_rfl
theorem ag78 : tAg Tryz.prog 78 = some (true, 4) := by kernel_rfl
theorem pl78 : tPl Tryz.prog 78 = some (fun k => [(0, 1), (1, 1), (2, 1), (3, 1)][k]?) := by kernel_rfl
theorem fd78_0 : tFd Tryz.prog 78 0 = some (0, false, 1) := by kernel_rfl
theorem fd78_1 : tFd Tryz.prog 78 1 = some (1, false, 1) := by kernel_rfl
theorem fd78_2 : tFd Tryz.prog 78 2 = some (2, false, 1) := by kernel_rfl
theorem fd78_3 : tFd Tryz.prog 78 3 = some (3, false, 1) := by kernel_rfl
theorem z78 : tZ Tryz.prog 78 = some (.agg [.int .i64 0, .int .i64 0, .slf [], .slf []]) := by kernel_rfl
theorem ag84 : tAg Tryz.prog 84 = some (false, 1) := by kernel_rfl
theorem z84 : tZ Tryz.prog 84 = some (.one (.nilp)) := by kernel_rfl
theorem ag86 : tAg Tryz.prog 86 = some (false, 1) := by kernel_rfl
theorem z86 : tZ Tryz.prog 86 = some (.one (.nilp)) := by kernel_rfl
theorem ag102 : tAg Tryz.prog 102 = some (false, 1) := by kernel_rfl
theorem sl102 : tSl Tryz.prog 102 = some (4, 1, 1) := by kernel_rfl
theorem ar102 : tAr Tryz.prog 102 = none := by kernel_rfl
theorem z102 : tZ Tryz.prog 102 = some (.one (.slf [])) := by kernel_rfl
theorem ag103 : tAg Tryz.prog 103 = some (true, 2) := by kernel_rfl
theorem pl103 : tPl Tryz.prog 103 = some (fun k => some (k * 1, 1)) := by kernel_rfl
theorem ar103 : tAr Tryz.prog 103 = some (2, 3, 1) := by kernel_rfl
theorem z103 : tZ Tryz.prog 103 = some (.agg [.int .i64 0, .int .i64 0]) := by kernel_rfl
theorem ag111 : tAg Tryz.prog 111 = some (true, 2) := by kernel_rfl
theorem pl111 : tPl Tryz.prog 111 = some (fun k => [(0, 1), (1, 1)][k]?) := by kernel_rfl
theorem fd111_0 : tFd Tryz.prog 111 0 = some (0, false, 1) := by kernel_rfl
theorem fd111_1 : tFd Tryz.prog 111 1 = some (1, false, 1) := by kernel_rfl
theorem z111 : tZ Tryz.prog 111 = some (.agg [.int .i64 0, .int .i64 0]) := by kernel_rfl
theorem ag113 : tAg Tryz.prog 113 = some (true, 8) := by kernel_rfl
theorem pl113 : tPl Tryz.prog 113 = some (fun k => [(0, 1), (1, 6), (7, 1)][k]?) := by kernel_rfl
theorem fd113_0 : tFd Tryz.prog 113 0 = some (0, false, 1) := by kernel_rfl
theorem fd113_1 : tFd Tryz.prog 113 1 = some (1, true, 6) := by kernel_rfl
theorem fd113_2 : tFd Tryz.prog 113 2 = some (7, false, 1) := by kernel_rfl
theorem z113 : tZ Tryz.prog 113 = some (.agg [.nilp, .slf [], .slf [], .slf [], .slf [], .slf [], .slf [], .slf []]) := by kernel_rfl
theorem ag129 : tAg Tryz.prog 129 = some (true, 3) := by kernel_rfl
theorem pl129 : tPl Tryz.prog 129 = some (fun k => [(0, 1), (1, 1), (2, 1)][k]?) := by kernel_rfl
theorem fd129_0 : tFd Tryz.prog 129 0 = some (0, false, 1) := by kernel_rfl
theorem fd129_1 : tFd Tryz.prog 129 1 = some (1, false, 1) := by kernel_rfl
theorem fd129_2 : tFd Tryz.prog 129 2 = some (2, false, 1) := by kernel_rfl
theorem z129 : tZ Tryz.prog 129 = some (.agg [.str [], .int .i64 0, .int .i64 0]) := by kernel_rfl
theorem ag135 : tAg Tryz.prog 135 = some (false, 1) := by kernel_rfl
theorem z135 : tZ Tryz.prog 135 = some (.one (.nilfn)) := by kernel_rfl
theorem ag138 : tAg Tryz.prog 138 = some (false, 1) := by kernel_rfl
theorem z138 : tZ Tryz.prog 138 = some (.one (.nilfn)) := by kernel_rfl
theorem ag139 : tAg Tryz.prog 139 = some (false, 1) := by kernel_rfl
theorem z139 : tZ Tryz.prog 139 = some (.one (.nilfn)) := by kernel_rfl
theorem ag141 : tAg Tryz.prog 141 = some (true, 3) := by kernel_rfl
theorem pl141 : tPl Tryz.prog 141 = some (fun k => [(0, 1), (1, 1), (2, 1)][k]?) := by kernel_rfl
theorem fd141_0 : tFd Tryz.prog 141 0 = some (0, false, 1) := by kernel_rfl
theorem fd141_1 : tFd Tryz.prog 141 1 = some (1, false, 1) := by kernel_rfl
theorem fd141_2 : tFd Tryz.prog 141 2 = some (2, false, 1) := by kernel_rfl
theorem z141 : tZ Tryz.prog 141 = some (.agg [.slf [], .slf [], .nilfn]) := by kernel_rfl
theorem ag144 : tAg Tryz.prog 144 = some (true, 3) := by kernel_rfl
theorem pl144 : tPl Tryz.prog 144 = some (fun k => some (k * 1, 1)) := by kernel_rfl
theorem ar144 : tAr Tryz.prog 144 = some (3, 3, 1) := by kernel_rfl
theorem z144 : tZ Tryz.prog 144 = some (.agg [.int .i64 0, .int .i64 0, .int .i64 0]) := by kernel_rfl
theorem ag146 : tAg Tryz.prog 146 = some (false, 1) := by kernel_rfl
theorem z146 : tZ Tryz.prog 146 = some (.one (.nilfn)) := by kernel_rfl
theorem ag159 : tAg Tryz.prog 159 = some (false, 1) := by kernel_rfl
theorem z159 : tZ Tryz.prog 159 = some (.one (.nilfn)) := by kernel_rfl
theorem ag160 : tAg Tryz.prog 160 = some (false, 1) := by kernel_rfl
theorem tk160 : tK Tryz.prog 160 = some .i64 := by kernel_rfl
theorem z160 : tZ Tryz.prog 160 = some (.one (.int .i64 0)) := by kernel_rfl
theorem un160 : (Tryz.prog.underlying 160).isSome = true := by kernel_rfl
theorem ag163 : tAg Tryz.prog 163 = some (false, 1) := by kernel_rfl
theorem z163 : tZ Tryz.prog 163 = some (.one (.nilfn)) := by kernel_rfl
theorem ag167 : tAg Tryz.prog 167 = some (false, 1) := by kernel_rfl
theorem z167 : tZ Tryz.prog 167 = some (.one (.nilfn)) := by kernel_rfl
theorem ag170 : tAg Tryz.prog 170 = some (true, 1) := by kernel_rfl
theorem pl170 : tPl Tryz.prog 170 = some (fun k => [(0, 1)][k]?) := by kernel_rfl
theorem fd170_0 : tFd Tryz.prog 170 0 = some (0, false, 1) := by kernel_rfl
theorem z170 : tZ Tryz.prog 170 = some (.agg [.int .i64 0]) := by kernel_rfl
theorem ag172 : tAg Tryz.prog 172 = some (true, 7) := by kernel_rfl
theorem pl172 : tPl Tryz.prog 172 = some (fun k => [(0, 7)][k]?) := by kernel_rfl
theorem fd172_0 : tFd Tryz.prog 172 0 = some (0, true, 7) := by kernel_rfl
theorem z172 : tZ Tryz.prog 172 = some (.agg [.str [], .int .i64 0, .int .i64 0, .int .i64 0, .int .i64 0, .int .i64 0, .int .i64 0]) := by kernel_rfl
theorem ag173 : tAg Tryz.prog 173 = some (true, 7) := by kernel_rfl
theorem pl173 : tPl Tryz.prog 173 = some (fun k => [(0, 7)][k]?) := by kernel_rfl
theorem fd173_0 : tFd Tryz.prog 173 0 = some (0, true, 7) := by kernel_rfl
theorem z173 : tZ Tryz.prog 173 = some (.agg [.str [], .int .i64 0, .int .i64 0, .int .i64 0, .int .i64 0, .int .i64 0, .int .i64 0]) := by kernel_rfl
theorem ag175 : tAg Tryz.prog 175 = some (true, 4) := by kernel_rfl
theorem pl175 : tPl Tryz.prog 175 = some (fun k => [(0, 3), (3, 1)][k]?) := by kernel_rfl
theorem fd175_0 : tFd Tryz.prog 175 0 = some (0, true, 3) := by kernel_rfl
theorem fd175_1 : tFd Tryz.prog 175 1 = some (3, false, 1) := by kernel_rfl
theorem z175 : tZ Tryz.prog 175 = some (.agg [.str [], .str [], .int .i64 0, .int .i64 0]) := by kernel_rfl
theorem ag177 : tAg Tryz.prog 177 = some (true, 1) := by kernel_rfl
theorem pl177 : tPl Tryz.prog 177 = some (fun k => [(0, 1)][k]?) := by kernel_rfl
theorem fd177_0 : tFd Tryz.prog 177 0 = some (0, false, 1) := by kernel_rfl
theorem z177 : tZ Tryz.prog 177 = some (.agg [.bool false]) := by kernel_rfl
theorem ag179 : tAg Tryz.prog 179 = some (true, 1) := by kernel_rfl
theorem pl179 : tPl Tryz.prog 179 = some (fun k => [(0, 1)][k]?) := by kernel_rfl
theorem fd179_0 : tFd Tryz.prog 179 0 = some (0, false, 1) := by kernel_rfl
theorem z179 : tZ Tryz.prog 179 = some (.agg [.int .i64 0]) := by kernel_rfl
theorem ag181 : tAg Tryz.prog 181 = some (false, 1) := by kernel_rfl
theorem z181 : tZ Tryz.prog 181 = some (.one (.nilfn)) := by kernel_rfl
theorem ag199 : tAg Tryz.prog 199 = some (true, 6) := by kernel_rfl
theorem pl199 : tPl Tryz.prog 199 = some (fun k => [(0, 6)][k]?) := by kernel_rfl
theorem fd199_0 : tFd Tryz.prog 199 0 = some (0, true, 6) := by kernel_rfl
theorem z199 : tZ Tryz.prog 199 = some (.agg [.slf [], .slf [], .slf [], .slf [], .slf [], .slf []]) := by kernel_rfl
theorem ag201 : tAg Tryz.prog 201 = some (false, 1) := by kernel_rfl
theorem z201 : tZ Tryz.prog 201 = some (.one (.nilfn)) := by kernel_rfl
theorem ag214 : tAg Tryz.prog 214 = some (false, 1) := by kernel_rfl
theorem tk214 : tK Tryz.prog 214 = some .u64 := by kernel_rfl
theorem z214 : tZ Tryz.prog 214 = some (.one (.int .u64 0)) := by kernel_rfl
theorem un214 : (Tryz.prog.underlying 214).isSome = true := by kernel_rfl
theorem ag219 : tAg Tryz.prog 219 = some (false, 1) := by kernel_rfl
theorem sl219 : tSl Tryz.prog 219 = some (5, 1, 1) := by kernel_rfl
theorem ar219 : tAr Tryz.prog 219 = none := by kernel_rfl
theorem z219 : tZ Tryz.prog 219 = some (.one (.slf [])) := by kernel_rfl
theorem ud219 : Tryz.prog.underlying 219 = some (.slice 5) := by kernel_rfl
attribute [go_sem] lr9 vw9 rn9 rf9 lr103 vw103 rn103 rf103 lr129 vw129 rn129 rf129 lr66 vw66 rn66 rf66 lr69 vw69 rn69 rf69 lr78 vw78 rn78 rf78 lr36 vw36 rn36 rf36 lr71 vw71 rn71 rf71 lr3 vw3 rn3 rf3 lr111 vw111 rn111 rf111 lr42 vw42 rn42 rf42 lr76 vw76 rn76 rf76 lr4 vw4 rn4 rf4 lr5 vw5 rn5 rf5 eqt66 lit66 eqt69 lit69 eqt71 lit71 eqt103 lit103 eqt111 lit111 eqt129 lit129 ag3 tk3 z3 un3 ag4 tb4 z4 ag5 tk5 z5 un5 ud5 ag9 ts9 z9 ud9 ag20 ag22 sl22 ar22 z22 ag23 sl23 ar23 z23 ag25 pl25 fd25_0 fd25_1 z25 ag26 sl26 ar26 z26 ag27 sl27 ar27 z27 ag28 sl28 ar28 z28 ag29 sl29 ar29 z29 ag31 pl31 fd31_0 fd31_1 fd31_2 fd31_3 fd31_4 z31 ag32 sl32 ar32 z32 ag33 sl33 ar33 z33 ag35 pl35 fd35_0 fd35_1 z35 ag36 sl36 ar36 z36 ag37 sl37 ar37 z37 ag39 pl39 fd39_0 fd39_1 fd39_2 fd39_3 fd39_4 z39 ag40 sl40 ar40 z40 ag42 pl42 fd42_0 fd42_1 fd42_2 fd42_3 fd42_4 z42 ag54 z54 ag58 pl58 ar58 z58 ag64 pl64 fd64_0 fd64_1 fd64_2 z64 ag66 pl66 fd66_0 fd66_1 fd66_2 fd66_3 fd66_4 z66 ag69 pl69 fd69_0 fd69_1 fd69_2 z69 ag71 pl71 ar71 z71 ag74 sl74 ar74 z74 ag76 pl76 fd76_0 fd76_1 fd76_2 fd76_3 fd76_4 fd76_5 fd76_6 z76 ag78 pl78 fd78_0 fd78_1 fd78_2 fd78_3 z78 ag84 z84 ag86 z86 ag102 sl102 ar102 z102 ag103 pl103 ar103 z103 ag111 pl111 fd111_0 fd111_1 z111 ag113 pl113 fd113_0 fd113_1 fd113_2 z113 ag129 pl129 fd129_0 fd129_1 fd129_2 z129 ag135 z135 ag138 z138 ag139 z139 ag141 pl141 fd141_0 fd141_1 fd141_2 z141 ag144 pl144 ar144 z144 ag146 z146 ag159 z159 ag160 tk160 z160 un160 ag163 z163 ag167 z167 ag170 pl170 fd170_0 z170 ag172 pl172 fd172_0 z172 ag173 pl173 fd173_0 z173 ag175 pl175 fd175_0 fd175_1 z175 ag177 pl177 fd177_0 z177 ag179 pl179 fd179_0 z179 ag181 z181 ag199 pl199 fd199_0 z199 ag201 z201 ag214 tk214 z214 un214 ag219 sl219 ar219 z219 ud219
theorem mo : Tryz.prog.follows .mixedOrders = true := rfl
end Go.Lz


end
