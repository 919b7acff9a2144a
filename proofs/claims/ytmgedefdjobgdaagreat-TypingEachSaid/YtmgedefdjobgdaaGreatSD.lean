/- SD: the types of the program as types of Lean, and as cells; the table of types. -/
import Derived.Test.YtmgedefdjobgdaaGreatLw2
import Derived.Test.YtmgedefdjobgdaaGreatProg
import Derived.KernelRfl
namespace Go.Lz
set_option linter.unusedVariables false
set_option linter.unusedSimpArgs false
open Go.Proofs
structure A2 (α : Type) where
  a0 : α
  a1 : α
  deriving DecidableEq
def eA2 {α : Type} (f : α → List C) (x : A2 α) : List C := f x.a0 ++ f x.a1
theorem eA2_def {α : Type} {f : α → List C} {x : A2 α} : eA2 f x = f x.a0 ++ f x.a1 := of_eq_true (eq_self _)
theorem Flat.A2 {α : Type} {f : α → List C} (h : Flat f) : Flat (eA2 f) := fun m x => by
  rw [eA2_def]; simp [ltRow_app, h m]
attribute [go_sem] eA2_def
structure A4 (α : Type) where
  a0 : α
  a1 : α
  a2 : α
  a3 : α
  deriving DecidableEq
def eA4 {α : Type} (f : α → List C) (x : A4 α) : List C := f x.a0 ++ f x.a1 ++ f x.a2 ++ f x.a3
theorem eA4_def {α : Type} {f : α → List C} {x : A4 α} : eA4 f x = f x.a0 ++ f x.a1 ++ f x.a2 ++ f x.a3 := of_eq_true (eq_self _)
theorem Flat.A4 {α : Type} {f : α → List C} (h : Flat f) : Flat (eA4 f) := fun m x => by
  rw [eA4_def]; simp [ltRow_app, h m]
attribute [go_sem] eA4_def
structure api_Lattice where
  Names : List Str
  Below : List (A2 Int)
def e_api_Lattice (x : api_Lattice) : List C := [.sl (x.Names.map eS), .sl (x.Below.map (eA2 eI))]
theorem e_api_Lattice_def {x : api_Lattice} : e_api_Lattice x = [.sl (x.Names.map eS), .sl (x.Below.map (eA2 eI))] := of_eq_true (eq_self _)
theorem Flat.api_Lattice : Flat e_api_Lattice := fun m x => by
  rw [e_api_Lattice_def]; simp [ltRow, C.lt, lt_eF, ltRows_flat Flat.S, ltRows_flat (Flat.A2 (Flat.K .i64))]
theorem len_api_Lattice {x : api_Lattice} : (e_api_Lattice x).length = 2 := by rw [e_api_Lattice_def]; rfl
attribute [go_sem] e_api_Lattice_def
structure api_Site where
  Name : Str
  From : Int
  To : Int
def e_api_Site (x : api_Site) : List C := [.str x.Name, .int .i64 x.From, .int .i64 x.To]
theorem e_api_Site_def {x : api_Site} : e_api_Site x = [.str x.Name, .int .i64 x.From, .int .i64 x.To] := of_eq_true (eq_self _)
theorem Flat.api_Site : Flat e_api_Site := fun m x => by
  rw [e_api_Site_def]; simp [ltRow, C.lt, lt_eF]
theorem len_api_Site {x : api_Site} : (e_api_Site x).length = 3 := by rw [e_api_Site_def]; rfl
attribute [go_sem] e_api_Site_def
structure api_Type where
  Kind : Int
  Low : Int
  Len : Int
def e_api_Type (x : api_Type) : List C := [.int .i64 x.Kind, .int .i64 x.Low, .int .i64 x.Len]
theorem e_api_Type_def {x : api_Type} : e_api_Type x = [.int .i64 x.Kind, .int .i64 x.Low, .int .i64 x.Len] := of_eq_true (eq_self _)
theorem Flat.api_Type : Flat e_api_Type := fun m x => by
  rw [e_api_Type_def]; simp [ltRow, C.lt, lt_eF]
theorem len_api_Type {x : api_Type} : (e_api_Type x).length = 3 := by rw [e_api_Type_def]; rfl
attribute [go_sem] e_api_Type_def
structure api_Var where
  Name : Str
  Type_ : api_Type
  Mode : Int
  Label : Int
  Safe : Int
def e_api_Var (x : api_Var) : List C := [.str x.Name, .int .i64 x.Type_.Kind, .int .i64 x.Type_.Low, .int .i64 x.Type_.Len, .int .i64 x.Mode, .int .i64 x.Label, .int .i64 x.Safe]
theorem e_api_Var_def {x : api_Var} : e_api_Var x = [.str x.Name, .int .i64 x.Type_.Kind, .int .i64 x.Type_.Low, .int .i64 x.Type_.Len, .int .i64 x.Mode, .int .i64 x.Label, .int .i64 x.Safe] := of_eq_true (eq_self _)
theorem Flat.api_Var : Flat e_api_Var := fun m x => by
  rw [e_api_Var_def]; simp [ltRow, C.lt, lt_eF]
theorem len_api_Var {x : api_Var} : (e_api_Var x).length = 7 := by rw [e_api_Var_def]; rfl
attribute [go_sem] e_api_Var_def
structure api_Block where
  Name : Str
  Kind : Str
  Label : Int
def e_api_Block (x : api_Block) : List C := [.str x.Name, .str x.Kind, .int .i64 x.Label]
theorem e_api_Block_def {x : api_Block} : e_api_Block x = [.str x.Name, .str x.Kind, .int .i64 x.Label] := of_eq_true (eq_self _)
theorem Flat.api_Block : Flat e_api_Block := fun m x => by
  rw [e_api_Block_def]; simp [ltRow, C.lt, lt_eF]
theorem len_api_Block {x : api_Block} : (e_api_Block x).length = 3 := by rw [e_api_Block_def]; rfl
attribute [go_sem] e_api_Block_def
structure api_Expr where
  Op : Int
  N : Int
  Kind : Int
  Name : Str
  Args : List api_Expr
mutual
def e_api_Expr : api_Expr → List C
  | ⟨Op, N, Kind, Name, Args⟩ => [.int .i64 Op, .int .i64 N, .int .i64 Kind, .str Name, .sl (es_api_Expr Args)]
def es_api_Expr : List api_Expr → List (List C)
  | [] => []
  | x :: xs => e_api_Expr x :: es_api_Expr xs
end
theorem es_api_Expr_eq : ∀ (xs : List api_Expr), es_api_Expr xs = xs.map e_api_Expr
  | [] => rfl
  | x :: xs => by rw [es_api_Expr, es_api_Expr_eq xs]; rfl
theorem e_api_Expr_def {x : api_Expr} : e_api_Expr x = [.int .i64 x.Op, .int .i64 x.N, .int .i64 x.Kind, .str x.Name, .sl (x.Args.map e_api_Expr)] := by
  cases x; simp only [e_api_Expr, es_api_Expr_eq]
mutual
theorem Flat.api_Expr_1 (m : Nat) : ∀ (x : api_Expr), ltRow m (e_api_Expr x) = true
  | ⟨Op, N, Kind, Name, Args⟩ => by
    rw [e_api_Expr]; simp [ltRow, C.lt, Flat.api_Expr_2 m Args]
theorem Flat.api_Expr_2 (m : Nat) : ∀ (xs : List api_Expr), ltRows m (es_api_Expr xs) = true
  | [] => rfl
  | x :: xs => by rw [es_api_Expr, ltRows, Flat.api_Expr_1 m x, Flat.api_Expr_2 m xs]; rfl
end
theorem Flat.api_Expr : Flat e_api_Expr := fun m x => Flat.api_Expr_1 m x
theorem len_api_Expr {x : api_Expr} : (e_api_Expr x).length = 5 := by rw [e_api_Expr_def]; rfl
attribute [go_sem] e_api_Expr_def
structure api_Stmt where
  Kind : Int
  Name : Str
  Target : api_Expr
  Value : api_Expr
  Args : List api_Expr
  Body : List api_Stmt
  Else : List api_Stmt
mutual
def e_api_Stmt : api_Stmt → List C
  | ⟨Kind, Name, Target, Value, Args, Body, Else⟩ => [.int .i64 Kind, .str Name, .int .i64 Target.Op, .int .i64 Target.N, .int .i64 Target.Kind, .str Target.Name, .sl (Target.Args.map e_api_Expr), .int .i64 Value.Op, .int .i64 Value.N, .int .i64 Value.Kind, .str Value.Name, .sl (Value.Args.map e_api_Expr), .sl (Args.map e_api_Expr), .sl (es_api_Stmt Body), .sl (es_api_Stmt Else)]
def es_api_Stmt : List api_Stmt → List (List C)
  | [] => []
  | x :: xs => e_api_Stmt x :: es_api_Stmt xs
end
theorem es_api_Stmt_eq : ∀ (xs : List api_Stmt), es_api_Stmt xs = xs.map e_api_Stmt
  | [] => rfl
  | x :: xs => by rw [es_api_Stmt, es_api_Stmt_eq xs]; rfl
theorem e_api_Stmt_def {x : api_Stmt} : e_api_Stmt x = [.int .i64 x.Kind, .str x.Name, .int .i64 x.Target.Op, .int .i64 x.Target.N, .int .i64 x.Target.Kind, .str x.Target.Name, .sl (x.Target.Args.map e_api_Expr), .int .i64 x.Value.Op, .int .i64 x.Value.N, .int .i64 x.Value.Kind, .str x.Value.Name, .sl (x.Value.Args.map e_api_Expr), .sl (x.Args.map e_api_Expr), .sl (x.Body.map e_api_Stmt), .sl (x.Else.map e_api_Stmt)] := by
  cases x; simp only [e_api_Stmt, es_api_Stmt_eq]
mutual
theorem Flat.api_Stmt_1 (m : Nat) : ∀ (x : api_Stmt), ltRow m (e_api_Stmt x) = true
  | ⟨Kind, Name, Target, Value, Args, Body, Else⟩ => by
    rw [e_api_Stmt]; simp [ltRow, C.lt, ltRows_flat Flat.api_Expr, ltRows_flat Flat.api_Expr, ltRows_flat Flat.api_Expr, Flat.api_Stmt_2 m Body, Flat.api_Stmt_2 m Else]
theorem Flat.api_Stmt_2 (m : Nat) : ∀ (xs : List api_Stmt), ltRows m (es_api_Stmt xs) = true
  | [] => rfl
  | x :: xs => by rw [es_api_Stmt, ltRows, Flat.api_Stmt_1 m x, Flat.api_Stmt_2 m xs]; rfl
end
theorem Flat.api_Stmt : Flat e_api_Stmt := fun m x => Flat.api_Stmt_1 m x
theorem len_api_Stmt {x : api_Stmt} : (e_api_Stmt x).length = 15 := by rw [e_api_Stmt_def]; rfl
attribute [go_sem] e_api_Stmt_def
structure api_Task where
  Every : Int
  Priority : Int
  Budget : List Int
  Body : List api_Stmt
def e_api_Task (x : api_Task) : List C := [.int .i64 x.Every, .int .i64 x.Priority, .sl (x.Budget.map eI), .sl (x.Body.map e_api_Stmt)]
theorem e_api_Task_def {x : api_Task} : e_api_Task x = [.int .i64 x.Every, .int .i64 x.Priority, .sl (x.Budget.map eI), .sl (x.Body.map e_api_Stmt)] := of_eq_true (eq_self _)
theorem Flat.api_Task : Flat e_api_Task := fun m x => by
  rw [e_api_Task_def]; simp [ltRow, C.lt, lt_eF, ltRows_flat (Flat.K .i64), ltRows_flat Flat.api_Stmt]
theorem len_api_Task {x : api_Task} : (e_api_Task x).length = 4 := by rw [e_api_Task_def]; rfl
attribute [go_sem] e_api_Task_def
structure api_Program where
  Lattice : api_Lattice
  Sites : List api_Site
  Vars : List api_Var
  Blocks : List api_Block
  Tasks : List api_Task
def e_api_Program (x : api_Program) : List C := [.sl (x.Lattice.Names.map eS), .sl (x.Lattice.Below.map (eA2 eI)), .sl (x.Sites.map e_api_Site), .sl (x.Vars.map e_api_Var), .sl (x.Blocks.map e_api_Block), .sl (x.Tasks.map e_api_Task)]
theorem e_api_Program_def {x : api_Program} : e_api_Program x = [.sl (x.Lattice.Names.map eS), .sl (x.Lattice.Below.map (eA2 eI)), .sl (x.Sites.map e_api_Site), .sl (x.Vars.map e_api_Var), .sl (x.Blocks.map e_api_Block), .sl (x.Tasks.map e_api_Task)] := of_eq_true (eq_self _)
theorem Flat.api_Program : Flat e_api_Program := fun m x => by
  rw [e_api_Program_def]; simp [ltRow, C.lt, lt_eF, ltRows_flat Flat.S, ltRows_flat (Flat.A2 (Flat.K .i64)), ltRows_flat Flat.api_Site, ltRows_flat Flat.api_Var, ltRows_flat Flat.api_Block, ltRows_flat Flat.api_Task]
theorem len_api_Program {x : api_Program} : (e_api_Program x).length = 6 := by rw [e_api_Program_def]; rfl
attribute [go_sem] e_api_Program_def
structure blocks_kind where
  in_ : List Int
  out : List Int
  step : Option Nat
def e_blocks_kind (x : blocks_kind) : List C := [.sl (x.in_.map eI), .sl (x.out.map eI), eF x.step]
theorem e_blocks_kind_def {x : blocks_kind} : e_blocks_kind x = [.sl (x.in_.map eI), .sl (x.out.map eI), eF x.step] := of_eq_true (eq_self _)
theorem Flat.blocks_kind : Flat e_blocks_kind := fun m x => by
  rw [e_blocks_kind_def]; simp [ltRow, C.lt, lt_eF, ltRows_flat (Flat.K .i64), ltRows_flat (Flat.K .i64)]
theorem len_blocks_kind {x : blocks_kind} : (e_blocks_kind x).length = 3 := by rw [e_blocks_kind_def]; rfl
attribute [go_sem] e_blocks_kind_def
structure typing_value where
  kind : Int
def e_typing_value (x : typing_value) : List C := [.int .i64 x.kind]
theorem e_typing_value_def {x : typing_value} : e_typing_value x = [.int .i64 x.kind] := of_eq_true (eq_self _)
theorem Flat.typing_value : Flat e_typing_value := fun m x => by
  rw [e_typing_value_def]; simp [ltRow, C.lt, lt_eF]
theorem len_typing_value {x : typing_value} : (e_typing_value x).length = 1 := by rw [e_typing_value_def]; rfl
attribute [go_sem] e_typing_value_def
structure typing_scalar where
  v : api_Var
def e_typing_scalar (x : typing_scalar) : List C := [.str x.v.Name, .int .i64 x.v.Type_.Kind, .int .i64 x.v.Type_.Low, .int .i64 x.v.Type_.Len, .int .i64 x.v.Mode, .int .i64 x.v.Label, .int .i64 x.v.Safe]
theorem e_typing_scalar_def {x : typing_scalar} : e_typing_scalar x = [.str x.v.Name, .int .i64 x.v.Type_.Kind, .int .i64 x.v.Type_.Low, .int .i64 x.v.Type_.Len, .int .i64 x.v.Mode, .int .i64 x.v.Label, .int .i64 x.v.Safe] := of_eq_true (eq_self _)
theorem Flat.typing_scalar : Flat e_typing_scalar := fun m x => by
  rw [e_typing_scalar_def]; simp [ltRow, C.lt, lt_eF]
theorem len_typing_scalar {x : typing_scalar} : (e_typing_scalar x).length = 7 := by rw [e_typing_scalar_def]; rfl
attribute [go_sem] e_typing_scalar_def
structure typing_array where
  v : api_Var
def e_typing_array (x : typing_array) : List C := [.str x.v.Name, .int .i64 x.v.Type_.Kind, .int .i64 x.v.Type_.Low, .int .i64 x.v.Type_.Len, .int .i64 x.v.Mode, .int .i64 x.v.Label, .int .i64 x.v.Safe]
theorem e_typing_array_def {x : typing_array} : e_typing_array x = [.str x.v.Name, .int .i64 x.v.Type_.Kind, .int .i64 x.v.Type_.Low, .int .i64 x.v.Type_.Len, .int .i64 x.v.Mode, .int .i64 x.v.Label, .int .i64 x.v.Safe] := of_eq_true (eq_self _)
theorem Flat.typing_array : Flat e_typing_array := fun m x => by
  rw [e_typing_array_def]; simp [ltRow, C.lt, lt_eF]
theorem len_typing_array {x : typing_array} : (e_typing_array x).length = 7 := by rw [e_typing_array_def]; rfl
attribute [go_sem] e_typing_array_def
structure typing_output where
  b : api_Block
  n : Int
def e_typing_output (x : typing_output) : List C := [.str x.b.Name, .str x.b.Kind, .int .i64 x.b.Label, .int .i64 x.n]
theorem e_typing_output_def {x : typing_output} : e_typing_output x = [.str x.b.Name, .str x.b.Kind, .int .i64 x.b.Label, .int .i64 x.n] := of_eq_true (eq_self _)
theorem Flat.typing_output : Flat e_typing_output := fun m x => by
  rw [e_typing_output_def]; simp [ltRow, C.lt, lt_eF]
theorem len_typing_output {x : typing_output} : (e_typing_output x).length = 4 := by rw [e_typing_output_def]; rfl
attribute [go_sem] e_typing_output_def
structure typing_release where
  ok : Bool
def e_typing_release (x : typing_release) : List C := [.bool x.ok]
theorem e_typing_release_def {x : typing_release} : e_typing_release x = [.bool x.ok] := of_eq_true (eq_self _)
theorem Flat.typing_release : Flat e_typing_release := fun m x => by
  rw [e_typing_release_def]; simp [ltRow, C.lt, lt_eF]
theorem len_typing_release {x : typing_release} : (e_typing_release x).length = 1 := by rw [e_typing_release_def]; rfl
attribute [go_sem] e_typing_release_def
structure typing_result where
  op : Int
def e_typing_result (x : typing_result) : List C := [.int .i64 x.op]
theorem e_typing_result_def {x : typing_result} : e_typing_result x = [.int .i64 x.op] := of_eq_true (eq_self _)
theorem Flat.typing_result : Flat e_typing_result := fun m x => by
  rw [e_typing_result_def]; simp [ltRow, C.lt, lt_eF]
theorem len_typing_result {x : typing_result} : (e_typing_result x).length = 1 := by rw [e_typing_result_def]; rfl
attribute [go_sem] e_typing_result_def
theorem Plain.A2 {α : Type} {f : α → List C} (h : Plain f) : Plain (eA2 f) := fun H k x => by
  rw [eA2_def]; simp [h H k]
theorem Plain.A4 {α : Type} {f : α → List C} (h : Plain f) : Plain (eA4 f) := fun H k x => by
  rw [eA4_def]; simp [h H k]
theorem Plain.api_Lattice : Plain e_api_Lattice := fun H k x => by rw [e_api_Lattice_def]; simp [vn_int, vn_bool, vn_str, vn_sl, vn_eF]
theorem Plain.api_Site : Plain e_api_Site := fun H k x => by rw [e_api_Site_def]; simp [vn_int, vn_bool, vn_str, vn_sl, vn_eF]
theorem Plain.api_Type : Plain e_api_Type := fun H k x => by rw [e_api_Type_def]; simp [vn_int, vn_bool, vn_str, vn_sl, vn_eF]
theorem Plain.api_Var : Plain e_api_Var := fun H k x => by rw [e_api_Var_def]; simp [vn_int, vn_bool, vn_str, vn_sl, vn_eF]
theorem Plain.api_Block : Plain e_api_Block := fun H k x => by rw [e_api_Block_def]; simp [vn_int, vn_bool, vn_str, vn_sl, vn_eF]
theorem Plain.api_Expr : Plain e_api_Expr := fun H k x => by rw [e_api_Expr_def]; simp [vn_int, vn_bool, vn_str, vn_sl, vn_eF]
theorem Plain.api_Stmt : Plain e_api_Stmt := fun H k x => by rw [e_api_Stmt_def]; simp [vn_int, vn_bool, vn_str, vn_sl, vn_eF]
theorem Plain.api_Task : Plain e_api_Task := fun H k x => by rw [e_api_Task_def]; simp [vn_int, vn_bool, vn_str, vn_sl, vn_eF]
theorem Plain.api_Program : Plain e_api_Program := fun H k x => by rw [e_api_Program_def]; simp [vn_int, vn_bool, vn_str, vn_sl, vn_eF]
theorem Plain.blocks_kind : Plain e_blocks_kind := fun H k x => by rw [e_blocks_kind_def]; simp [vn_int, vn_bool, vn_str, vn_sl, vn_eF]
theorem Plain.typing_value : Plain e_typing_value := fun H k x => by rw [e_typing_value_def]; simp [vn_int, vn_bool, vn_str, vn_sl, vn_eF]
theorem Plain.typing_scalar : Plain e_typing_scalar := fun H k x => by rw [e_typing_scalar_def]; simp [vn_int, vn_bool, vn_str, vn_sl, vn_eF]
theorem Plain.typing_array : Plain e_typing_array := fun H k x => by rw [e_typing_array_def]; simp [vn_int, vn_bool, vn_str, vn_sl, vn_eF]
theorem Plain.typing_output : Plain e_typing_output := fun H k x => by rw [e_typing_output_def]; simp [vn_int, vn_bool, vn_str, vn_sl, vn_eF]
theorem Plain.typing_release : Plain e_typing_release := fun H k x => by rw [e_typing_release_def]; simp [vn_int, vn_bool, vn_str, vn_sl, vn_eF]
theorem Plain.typing_result : Plain e_typing_result := fun H k x => by rw [e_typing_result_def]; simp [vn_int, vn_bool, vn_str, vn_sl, vn_eF]
theorem lr9 {m : Nat} {xs : List Str} : ltRows m (xs.map eS) = true := ltRows_flat Flat.S m xs
theorem vw9 {H : List O} {k : Nat} {xs : List Str} : viewRows H k (xs.map eS) = xs.map eS := viewRows_plain Plain.S H k xs
theorem lr108 {m : Nat} {xs : List (A2 Int)} : ltRows m (xs.map (eA2 eI)) = true := ltRows_flat (Flat.A2 (Flat.K .i64)) m xs
theorem vw108 {H : List O} {k : Nat} {xs : List (A2 Int)} : viewRows H k (xs.map (eA2 eI)) = xs.map (eA2 eI) := viewRows_plain (Plain.A2 (Plain.K .i64)) H k xs
theorem lr79 {m : Nat} {xs : List api_Site} : ltRows m (xs.map e_api_Site) = true := ltRows_flat Flat.api_Site m xs
theorem vw79 {H : List O} {k : Nat} {xs : List api_Site} : viewRows H k (xs.map e_api_Site) = xs.map e_api_Site := viewRows_plain Plain.api_Site H k xs
theorem lr56 {m : Nat} {xs : List api_Var} : ltRows m (xs.map e_api_Var) = true := ltRows_flat Flat.api_Var m xs
theorem vw56 {H : List O} {k : Nat} {xs : List api_Var} : viewRows H k (xs.map e_api_Var) = xs.map e_api_Var := viewRows_plain Plain.api_Var H k xs
theorem lr62 {m : Nat} {xs : List api_Block} : ltRows m (xs.map e_api_Block) = true := ltRows_flat Flat.api_Block m xs
theorem vw62 {H : List O} {k : Nat} {xs : List api_Block} : viewRows H k (xs.map e_api_Block) = xs.map e_api_Block := viewRows_plain Plain.api_Block H k xs
theorem lr40 {m : Nat} {xs : List api_Task} : ltRows m (xs.map e_api_Task) = true := ltRows_flat Flat.api_Task m xs
theorem vw40 {H : List O} {k : Nat} {xs : List api_Task} : viewRows H k (xs.map e_api_Task) = xs.map e_api_Task := viewRows_plain Plain.api_Task H k xs
theorem lr3 {m : Nat} {xs : List Int} : ltRows m (xs.map eI) = true := ltRows_flat (Flat.K .i64) m xs
theorem vw3 {H : List O} {k : Nat} {xs : List Int} : viewRows H k (xs.map eI) = xs.map eI := viewRows_plain (Plain.K .i64) H k xs
theorem lr70 {m : Nat} {xs : List api_Stmt} : ltRows m (xs.map e_api_Stmt) = true := ltRows_flat Flat.api_Stmt m xs
theorem vw70 {H : List O} {k : Nat} {xs : List api_Stmt} : viewRows H k (xs.map e_api_Stmt) = xs.map e_api_Stmt := viewRows_plain Plain.api_Stmt H k xs
theorem lr44 {m : Nat} {xs : List api_Expr} : ltRows m (xs.map e_api_Expr) = true := ltRows_flat Flat.api_Expr m xs
theorem vw44 {H : List O} {k : Nat} {xs : List api_Expr} : viewRows H k (xs.map e_api_Expr) = xs.map e_api_Expr := viewRows_plain Plain.api_Expr H k xs
theorem lr5 {m : Nat} {xs : List Int} : ltRows m (xs.map (eK .u8)) = true := ltRows_flat (Flat.K .u8) m xs
theorem vw5 {H : List O} {k : Nat} {xs : List Int} : viewRows H k (xs.map (eK .u8)) = xs.map (eK .u8) := viewRows_plain (Plain.K .u8) H k xs
theorem ag3 : tAg Tryz.prog 3 = some (false, 1) := by kernel_rfl
theorem tk3 : tK Tryz.prog 3 = some .i64 := by kernel_rfl
theorem z3 : tZ Tryz.prog 3 = some (.one (.int .i64 0)) := by kernel_rfl
theorem un3 : (Tryz.prog.underlying 3).isSome = true := by kernel_rfl
theorem ag4 : tAg Tryz.prog 4 = some (false, 1) := by kernel_rfl
theorem tb4 : tIsBool Tryz.prog 4 = true := by kernel_rfl
theorem z4 : tZ Tryz.prog 4 = some (.one (.bool false)) := by kernel_rfl
theorem ag5 : tAg Tryz.prog 5 = some (false, 1) := by kernel_rfl
theorem tk5 : tK Tryz.prog 5 = some .u8 := by kernel_rfl
theorem z5 : tZ Tryz.prog 5 = some (.one (.int .u8 0)) := by kernel_rfl
theorem un5 : (Tryz.prog.underlying 5).isSome = true := by kernel_rfl
theorem ud5 : Tryz.prog.underlying 5 = some (.int .u8) := by kernel_rfl
theorem ag9 : tAg Tryz.prog 9 = some (false, 1) := by kernel_rfl
theorem ts9 : tIsStr Tryz.prog 9 = true := by kernel_rfl
theorem z9 : tZ Tryz.prog 9 = some (.one (.str [])) := by kernel_rfl
theorem ud9 : Tryz.prog.underlying 9 = some .string := by kernel_rfl
theorem ag20 : tAg Tryz.prog 20 = some (false, 1) := by kernel_rfl
theorem ag22 : tAg Tryz.prog 22 = some (false, 1) := by kernel_rfl
theorem sl22 : tSl Tryz.prog 22 = some (9, 1, 16) := by kernel_rfl
theorem ar22 : tAr Tryz.prog 22 = none := by kernel_rfl
theorem z22 : tZ Tryz.prog 22 = some (.one (.slf [])) := by kernel_rfl
theorem ag23 : tAg Tryz.prog 23 = some (false, 1) := by kernel_rfl
theorem sl23 : tSl Tryz.prog 23 = some (108, 2, 16) := by kernel_rfl
theorem ar23 : tAr Tryz.prog 23 = none := by kernel_rfl
theorem z23 : tZ Tryz.prog 23 = some (.one (.slf [])) := by kernel_rfl
theorem ag25 : tAg Tryz.prog 25 = some (true, 2) := by kernel_rfl
theorem pl25 : tPl Tryz.prog 25 = some (fun k => [(0, 1), (1, 1)][k]?) := by kernel_rfl
theorem fd25_0 : tFd Tryz.prog 25 0 = some (0, false, 1) := by kernel_rfl
theorem fd25_1 : tFd Tryz.prog 25 1 = some (1, false, 1) := by kernel_rfl
theorem z25 : tZ Tryz.prog 25 = some (.agg [.slf [], .slf []]) := by kernel_rfl
theorem ag26 : tAg Tryz.prog 26 = some (false, 1) := by kernel_rfl
theorem sl26 : tSl Tryz.prog 26 = some (79, 3, 32) := by kernel_rfl
theorem ar26 : tAr Tryz.prog 26 = none := by kernel_rfl
theorem z26 : tZ Tryz.prog 26 = some (.one (.slf [])) := by kernel_rfl
theorem ag27 : tAg Tryz.prog 27 = some (false, 1) := by kernel_rfl
theorem sl27 : tSl Tryz.prog 27 = some (56, 7, 64) := by kernel_rfl
theorem ar27 : tAr Tryz.prog 27 = none := by kernel_rfl
theorem z27 : tZ Tryz.prog 27 = some (.one (.slf [])) := by kernel_rfl
theorem ag28 : tAg Tryz.prog 28 = some (false, 1) := by kernel_rfl
theorem sl28 : tSl Tryz.prog 28 = some (62, 3, 40) := by kernel_rfl
theorem ar28 : tAr Tryz.prog 28 = none := by kernel_rfl
theorem z28 : tZ Tryz.prog 28 = some (.one (.slf [])) := by kernel_rfl
theorem ag29 : tAg Tryz.prog 29 = some (false, 1) := by kernel_rfl
theorem sl29 : tSl Tryz.prog 29 = some (40, 4, 64) := by kernel_rfl
theorem ar29 : tAr Tryz.prog 29 = none := by kernel_rfl
theorem z29 : tZ Tryz.prog 29 = some (.one (.slf [])) := by kernel_rfl
theorem ag31 : tAg Tryz.prog 31 = some (true, 6) := by kernel_rfl
theorem pl31 : tPl Tryz.prog 31 = some (fun k => [(0, 2), (2, 1), (3, 1), (4, 1), (5, 1)][k]?) := by kernel_rfl
theorem fd31_0 : tFd Tryz.prog 31 0 = some (0, true, 2) := by kernel_rfl
theorem fd31_1 : tFd Tryz.prog 31 1 = some (2, false, 1) := by kernel_rfl
theorem fd31_2 : tFd Tryz.prog 31 2 = some (3, false, 1) := by kernel_rfl
theorem fd31_3 : tFd Tryz.prog 31 3 = some (4, false, 1) := by kernel_rfl
theorem fd31_4 : tFd Tryz.prog 31 4 = some (5, false, 1) := by kernel_rfl
theorem z31 : tZ Tryz.prog 31 = some (.agg [.slf [], .slf [], .slf [], .slf [], .slf [], .slf []]) := by kernel_rfl
theorem ag34 : tAg Tryz.prog 34 = some (false, 1) := by kernel_rfl
theorem tk34 : tK Tryz.prog 34 = some .i64 := by kernel_rfl
theorem z34 : tZ Tryz.prog 34 = some (.one (.int .i64 0)) := by kernel_rfl
theorem un34 : (Tryz.prog.underlying 34).isSome = true := by kernel_rfl
theorem ag37 : tAg Tryz.prog 37 = some (false, 1) := by kernel_rfl
theorem sl37 : tSl Tryz.prog 37 = some (3, 1, 8) := by kernel_rfl
theorem ar37 : tAr Tryz.prog 37 = none := by kernel_rfl
theorem z37 : tZ Tryz.prog 37 = some (.one (.slf [])) := by kernel_rfl
theorem ag38 : tAg Tryz.prog 38 = some (false, 1) := by kernel_rfl
theorem sl38 : tSl Tryz.prog 38 = some (70, 15, 224) := by kernel_rfl
theorem ar38 : tAr Tryz.prog 38 = none := by kernel_rfl
theorem z38 : tZ Tryz.prog 38 = some (.one (.slf [])) := by kernel_rfl
theorem ag40 : tAg Tryz.prog 40 = some (true, 4) := by kernel_rfl
theorem pl40 : tPl Tryz.prog 40 = some (fun k => [(0, 1), (1, 1), (2, 1), (3, 1)][k]?) := by kernel_rfl
theorem fd40_0 : tFd Tryz.prog 40 0 = some (0, false, 1) := by kernel_rfl
theorem fd40_1 : tFd Tryz.prog 40 1 = some (1, false, 1) := by kernel_rfl
theorem fd40_2 : tFd Tryz.prog 40 2 = some (2, false, 1) := by kernel_rfl
theorem fd40_3 : tFd Tryz.prog 40 3 = some (3, false, 1) := by kernel_rfl
theorem z40 : tZ Tryz.prog 40 = some (.agg [.int .i64 0, .int .i64 0, .slf [], .slf []]) := by kernel_rfl
theorem ag42 : tAg Tryz.prog 42 = some (false, 1) := by kernel_rfl
theorem sl42 : tSl Tryz.prog 42 = some (44, 5, 64) := by kernel_rfl
theorem ar42 : tAr Tryz.prog 42 = none := by kernel_rfl
theorem z42 : tZ Tryz.prog 42 = some (.one (.slf [])) := by kernel_rfl
theorem ag44 : tAg Tryz.prog 44 = some (true, 5) := by kernel_rfl
theorem pl44 : tPl Tryz.prog 44 = some (fun k => [(0, 1), (1, 1), (2, 1), (3, 1), (4, 1)][k]?) := by kernel_rfl
theorem fd44_0 : tFd Tryz.prog 44 0 = some (0, false, 1) := by kernel_rfl
theorem fd44_1 : tFd Tryz.prog 44 1 = some (1, false, 1) := by kernel_rfl
theorem fd44_2 : tFd Tryz.prog 44 2 = some (2, false, 1) := by kernel_rfl
theorem fd44_3 : tFd Tryz.prog 44 3 = some (3, false, 1) := by kernel_rfl
theorem fd44_4 : tFd Tryz.prog 44 4 = some (4, false, 1) := by kernel_rfl
theorem z44 : tZ Tryz.prog 44 = some (.agg [.int .i64 0, .int .i64 0, .int .i64 0, .str [], .slf []]) := by kernel_rfl
theorem ag54 : tAg Tryz.prog 54 = some (true, 3) := by kernel_rfl
theorem pl54 : tPl Tryz.prog 54 = some (fun k => [(0, 1), (1, 1), (2, 1)][k]?) := by kernel_rfl
theorem fd54_0 : tFd Tryz.prog 54 0 = some (0, false, 1) := by kernel_rfl
theorem fd54_1 : tFd Tryz.prog 54 1 = some (1, false, 1) := by kernel_rfl
theorem fd54_2 : tFd Tryz.prog 54 2 = some (2, false, 1) := by kernel_rfl
theorem z54 : tZ Tryz.prog 54 = some (.agg [.int .i64 0, .int .i64 0, .int .i64 0]) := by kernel_rfl
theorem ag56 : tAg Tryz.prog 56 = some (true, 7) := by kernel_rfl
theorem pl56 : tPl Tryz.prog 56 = some (fun k => [(0, 1), (1, 3), (4, 1), (5, 1), (6, 1)][k]?) := by kernel_rfl
theorem fd56_0 : tFd Tryz.prog 56 0 = some (0, false, 1) := by kernel_rfl
theorem fd56_1 : tFd Tryz.prog 56 1 = some (1, true, 3) := by kernel_rfl
theorem fd56_2 : tFd Tryz.prog 56 2 = some (4, false, 1) := by kernel_rfl
theorem fd56_3 : tFd Tryz.prog 56 3 = some (5, false, 1) := by kernel_rfl
theorem fd56_4 : tFd Tryz.prog 56 4 = some (6, false, 1) := by kernel_rfl
theorem z56 : tZ Tryz.prog 56 = some (.agg [.str [], .int .i64 0, .int .i64 0, .int .i64 0, .int .i64 0, .int .i64 0, .int .i64 0]) := by kernel_rfl
theorem ag59 : tAg Tryz.prog 59 = some (false, 1) := by kernel_rfl
theorem z59 : tZ Tryz.prog 59 = some (.one (.nilfn)) := by kernel_rfl
theorem ag62 : tAg Tryz.prog 62 = some (true, 3) := by kernel_rfl
theorem pl62 : tPl Tryz.prog 62 = some (fun k => [(0, 1), (1, 1), (2, 1)][k]?) := by kernel_rfl
theorem fd62_0 : tFd Tryz.prog 62 0 = some (0, false, 1) := by kernel_rfl
theorem fd62_1 : tFd Tryz.prog 62 1 = some (1, false, 1) := by kernel_rfl
theorem fd62_2 : tFd Tryz.prog 62 2 = some (2, false, 1) := by kernel_rfl
theorem z62 : tZ Tryz.prog 62 = some (.agg [.str [], .str [], .int .i64 0]) := by kernel_rfl
theorem ag64 : tAg Tryz.prog 64 = some (false, 1) := by kernel_rfl
theorem z64 : tZ Tryz.prog 64 = some (.one (.nilfn)) := by kernel_rfl
theorem ag66 : tAg Tryz.prog 66 = some (false, 1) := by kernel_rfl
theorem z66 : tZ Tryz.prog 66 = some (.one (.nilfn)) := by kernel_rfl
theorem ag70 : tAg Tryz.prog 70 = some (true, 15) := by kernel_rfl
theorem pl70 : tPl Tryz.prog 70 = some (fun k => [(0, 1), (1, 1), (2, 5), (7, 5), (12, 1), (13, 1), (14, 1)][k]?) := by kernel_rfl
theorem fd70_0 : tFd Tryz.prog 70 0 = some (0, false, 1) := by kernel_rfl
theorem fd70_1 : tFd Tryz.prog 70 1 = some (1, false, 1) := by kernel_rfl
theorem fd70_2 : tFd Tryz.prog 70 2 = some (2, true, 5) := by kernel_rfl
theorem fd70_3 : tFd Tryz.prog 70 3 = some (7, true, 5) := by kernel_rfl
theorem fd70_4 : tFd Tryz.prog 70 4 = some (12, false, 1) := by kernel_rfl
theorem fd70_5 : tFd Tryz.prog 70 5 = some (13, false, 1) := by kernel_rfl
theorem fd70_6 : tFd Tryz.prog 70 6 = some (14, false, 1) := by kernel_rfl
theorem z70 : tZ Tryz.prog 70 = some (.agg [.int .i64 0, .str [], .int .i64 0, .int .i64 0, .int .i64 0, .str [], .slf [], .int .i64 0, .int .i64 0, .int .i64 0, .str [], .slf [], .slf [], .slf [], .slf []]) := by kernel_rfl
theorem ag72 : tAg Tryz.prog 72 = some (false, 1) := by kernel_rfl
theorem z72 : tZ Tryz.prog 72 = some (.one (.nilfn)) := by kernel_rfl
theorem ag79 : tAg Tryz.prog 79 = some (true, 3) := by kernel_rfl
theorem pl79 : tPl Tryz.prog 79 = some (fun k => [(0, 1), (1, 1), (2, 1)][k]?) := by kernel_rfl
theorem fd79_0 : tFd Tryz.prog 79 0 = some (0, false, 1) := by kernel_rfl
theorem fd79_1 : tFd Tryz.prog 79 1 = some (1, false, 1) := by kernel_rfl
theorem fd79_2 : tFd Tryz.prog 79 2 = some (2, false, 1) := by kernel_rfl
theorem z79 : tZ Tryz.prog 79 = some (.agg [.str [], .int .i64 0, .int .i64 0]) := by kernel_rfl
theorem ag82 : tAg Tryz.prog 82 = some (false, 1) := by kernel_rfl
theorem z82 : tZ Tryz.prog 82 = some (.one (.nilfn)) := by kernel_rfl
theorem ag84 : tAg Tryz.prog 84 = some (true, 3) := by kernel_rfl
theorem pl84 : tPl Tryz.prog 84 = some (fun k => [(0, 1), (1, 1), (2, 1)][k]?) := by kernel_rfl
theorem fd84_0 : tFd Tryz.prog 84 0 = some (0, false, 1) := by kernel_rfl
theorem fd84_1 : tFd Tryz.prog 84 1 = some (1, false, 1) := by kernel_rfl
theorem fd84_2 : tFd Tryz.prog 84 2 = some (2, false, 1) := by kernel_rfl
theorem z84 : tZ Tryz.prog 84 = some (.agg [.slf [], .slf [], .nilfn]) := by kernel_rfl
theorem ag93 : tAg Tryz.prog 93 = some (true, 1) := by kernel_rfl
theorem pl93 : tPl Tryz.prog 93 = some (fun k => [(0, 1)][k]?) := by kernel_rfl
theorem fd93_0 : tFd Tryz.prog 93 0 = some (0, false, 1) := by kernel_rfl
theorem z93 : tZ Tryz.prog 93 = some (.agg [.int .i64 0]) := by kernel_rfl
theorem ag95 : tAg Tryz.prog 95 = some (true, 7) := by kernel_rfl
theorem pl95 : tPl Tryz.prog 95 = some (fun k => [(0, 7)][k]?) := by kernel_rfl
theorem fd95_0 : tFd Tryz.prog 95 0 = some (0, true, 7) := by kernel_rfl
theorem z95 : tZ Tryz.prog 95 = some (.agg [.str [], .int .i64 0, .int .i64 0, .int .i64 0, .int .i64 0, .int .i64 0, .int .i64 0]) := by kernel_rfl
theorem ag96 : tAg Tryz.prog 96 = some (true, 7) := by kernel_rfl
theorem pl96 : tPl Tryz.prog 96 = some (fun k => [(0, 7)][k]?) := by kernel_rfl
theorem fd96_0 : tFd Tryz.prog 96 0 = some (0, true, 7) := by kernel_rfl
theorem z96 : tZ Tryz.prog 96 = some (.agg [.str [], .int .i64 0, .int .i64 0, .int .i64 0, .int .i64 0, .int .i64 0, .int .i64 0]) := by kernel_rfl
theorem ag98 : tAg Tryz.prog 98 = some (true, 4) := by kernel_rfl
theorem pl98 : tPl Tryz.prog 98 = some (fun k => [(0, 3), (3, 1)][k]?) := by kernel_rfl
theorem fd98_0 : tFd Tryz.prog 98 0 = some (0, true, 3) := by kernel_rfl
theorem fd98_1 : tFd Tryz.prog 98 1 = some (3, false, 1) := by kernel_rfl
theorem z98 : tZ Tryz.prog 98 = some (.agg [.str [], .str [], .int .i64 0, .int .i64 0]) := by kernel_rfl
theorem ag100 : tAg Tryz.prog 100 = some (true, 1) := by kernel_rfl
theorem pl100 : tPl Tryz.prog 100 = some (fun k => [(0, 1)][k]?) := by kernel_rfl
theorem fd100_0 : tFd Tryz.prog 100 0 = some (0, false, 1) := by kernel_rfl
theorem z100 : tZ Tryz.prog 100 = some (.agg [.bool false]) := by kernel_rfl
theorem ag102 : tAg Tryz.prog 102 = some (true, 1) := by kernel_rfl
theorem pl102 : tPl Tryz.prog 102 = some (fun k => [(0, 1)][k]?) := by kernel_rfl
theorem fd102_0 : tFd Tryz.prog 102 0 = some (0, false, 1) := by kernel_rfl
theorem z102 : tZ Tryz.prog 102 = some (.agg [.int .i64 0]) := by kernel_rfl
theorem ag104 : tAg Tryz.prog 104 = some (false, 1) := by kernel_rfl
theorem z104 : tZ Tryz.prog 104 = some (.one (.nilfn)) := by kernel_rfl
theorem ag108 : tAg Tryz.prog 108 = some (true, 2) := by kernel_rfl
theorem pl108 : tPl Tryz.prog 108 = some (fun k => some (k * 1, 1)) := by kernel_rfl
theorem ar108 : tAr Tryz.prog 108 = some (2, 3, 1) := by kernel_rfl
theorem z108 : tZ Tryz.prog 108 = some (.agg [.int .i64 0, .int .i64 0]) := by kernel_rfl
theorem ag119 : tAg Tryz.prog 119 = some (false, 1) := by kernel_rfl
theorem z119 : tZ Tryz.prog 119 = some (.one (.nilfn)) := by kernel_rfl
theorem ag122 : tAg Tryz.prog 122 = some (false, 1) := by kernel_rfl
theorem z122 : tZ Tryz.prog 122 = some (.one (.nilfn)) := by kernel_rfl
theorem ag124 : tAg Tryz.prog 124 = some (false, 1) := by kernel_rfl
theorem z124 : tZ Tryz.prog 124 = some (.one (.nilfn)) := by kernel_rfl
theorem ag133 : tAg Tryz.prog 133 = some (true, 4) := by kernel_rfl
theorem pl133 : tPl Tryz.prog 133 = some (fun k => some (k * 1, 1)) := by kernel_rfl
theorem ar133 : tAr Tryz.prog 133 = some (4, 3, 1) := by kernel_rfl
theorem z133 : tZ Tryz.prog 133 = some (.agg [.int .i64 0, .int .i64 0, .int .i64 0, .int .i64 0]) := by kernel_rfl
theorem ag139 : tAg Tryz.prog 139 = some (false, 1) := by kernel_rfl
theorem z139 : tZ Tryz.prog 139 = some (.one (.nilfn)) := by kernel_rfl
theorem ag141 : tAg Tryz.prog 141 = some (false, 1) := by kernel_rfl
theorem sl141 : tSl Tryz.prog 141 = some (5, 1, 1) := by kernel_rfl
theorem ar141 : tAr Tryz.prog 141 = none := by kernel_rfl
theorem z141 : tZ Tryz.prog 141 = some (.one (.slf [])) := by kernel_rfl
theorem ud141 : Tryz.prog.underlying 141 = some (.slice 5) := by kernel_rfl
theorem ag143 : tAg Tryz.prog 143 = some (false, 1) := by kernel_rfl
theorem tk143 : tK Tryz.prog 143 = some .u64 := by kernel_rfl
theorem z143 : tZ Tryz.prog 143 = some (.one (.int .u64 0)) := by kernel_rfl
theorem un143 : (Tryz.prog.underlying 143).isSome = true := by kernel_rfl
theorem ag145 : tAg Tryz.prog 145 = some (false, 1) := by kernel_rfl
theorem z145 : tZ Tryz.prog 145 = some (.one (.nilfn)) := by kernel_rfl
attribute [go_sem] lr9 vw9 lr108 vw108 lr79 vw79 lr56 vw56 lr62 vw62 lr40 vw40 lr3 vw3 lr70 vw70 lr44 vw44 lr5 vw5 ag3 tk3 z3 un3 ag4 tb4 z4 ag5 tk5 z5 un5 ud5 ag9 ts9 z9 ud9 ag20 ag22 sl22 ar22 z22 ag23 sl23 ar23 z23 ag25 pl25 fd25_0 fd25_1 z25 ag26 sl26 ar26 z26 ag27 sl27 ar27 z27 ag28 sl28 ar28 z28 ag29 sl29 ar29 z29 ag31 pl31 fd31_0 fd31_1 fd31_2 fd31_3 fd31_4 z31 ag34 tk34 z34 un34 ag37 sl37 ar37 z37 ag38 sl38 ar38 z38 ag40 pl40 fd40_0 fd40_1 fd40_2 fd40_3 z40 ag42 sl42 ar42 z42 ag44 pl44 fd44_0 fd44_1 fd44_2 fd44_3 fd44_4 z44 ag54 pl54 fd54_0 fd54_1 fd54_2 z54 ag56 pl56 fd56_0 fd56_1 fd56_2 fd56_3 fd56_4 z56 ag59 z59 ag62 pl62 fd62_0 fd62_1 fd62_2 z62 ag64 z64 ag66 z66 ag70 pl70 fd70_0 fd70_1 fd70_2 fd70_3 fd70_4 fd70_5 fd70_6 z70 ag72 z72 ag79 pl79 fd79_0 fd79_1 fd79_2 z79 ag82 z82 ag84 pl84 fd84_0 fd84_1 fd84_2 z84 ag93 pl93 fd93_0 z93 ag95 pl95 fd95_0 z95 ag96 pl96 fd96_0 z96 ag98 pl98 fd98_0 fd98_1 z98 ag100 pl100 fd100_0 z100 ag102 pl102 fd102_0 z102 ag104 z104 ag108 pl108 ar108 z108 ag119 z119 ag122 z122 ag124 z124 ag133 pl133 ar133 z133 ag139 z139 ag141 sl141 ar141 z141 ud141 ag143 tk143 z143 un143 ag145 z145
theorem mo : Tryz.prog.follows .mixedOrders = true := rfl
end Go.Lz

