/- SD: the types of the program as types of Lean, and as cells; the table of types. -/
import Derived.Test.YtbcpfhnlidpcbaaLw1
import Derived.Test.YtbcpfhnlidpcbaaProg
import Derived.KernelRfl
namespace Go.Lz
set_option linter.unusedVariables false
set_option linter.unusedSimpArgs false
open Go.Proofs
structure A2 (α : Type) where
  a0 : α
  a1 : α
  deriving DecidableEq
def eA2 {α : Type} (f : α → List C) (x : A2 α) : List C := f x.a0 ++ f x.a1
theorem eA2_def {α : Type} {f : α → List C} {x : A2 α} : eA2 f x = f x.a0 ++ f x.a1 := of_eq_true (eq_self _)
theorem Flat.A2 {α : Type} {f : α → List C} (h : Flat f) : Flat (eA2 f) := fun m x => by
  rw [eA2_def]; simp [ltRow_app, h m]
attribute [go_sem] eA2_def
structure A3 (α : Type) where
  a0 : α
  a1 : α
  a2 : α
  deriving DecidableEq
def eA3 {α : Type} (f : α → List C) (x : A3 α) : List C := f x.a0 ++ f x.a1 ++ f x.a2
theorem eA3_def {α : Type} {f : α → List C} {x : A3 α} : eA3 f x = f x.a0 ++ f x.a1 ++ f x.a2 := of_eq_true (eq_self _)
theorem Flat.A3 {α : Type} {f : α → List C} (h : Flat f) : Flat (eA3 f) := fun m x => by
  rw [eA3_def]; simp [ltRow_app, h m]
attribute [go_sem] eA3_def
structure A4 (α : Type) where
  a0 : α
  a1 : α
  a2 : α
  a3 : α
  deriving DecidableEq
def eA4 {α : Type} (f : α → List C) (x : A4 α) : List C := f x.a0 ++ f x.a1 ++ f x.a2 ++ f x.a3
theorem eA4_def {α : Type} {f : α → List C} {x : A4 α} : eA4 f x = f x.a0 ++ f x.a1 ++ f x.a2 ++ f x.a3 := of_eq_true (eq_self _)
theorem Flat.A4 {α : Type} {f : α → List C} (h : Flat f) : Flat (eA4 f) := fun m x => by
  rw [eA4_def]; simp [ltRow_app, h m]
attribute [go_sem] eA4_def
structure api_Lattice where
  Names : List Str
  Below : List (A2 Int)
def e_api_Lattice (x : api_Lattice) : List C := [.sl (x.Names.map eS), .sl (x.Below.map (eA2 eI))]
theorem e_api_Lattice_def {x : api_Lattice} : e_api_Lattice x = [.sl (x.Names.map eS), .sl (x.Below.map (eA2 eI))] := of_eq_true (eq_self _)
theorem Flat.api_Lattice : Flat e_api_Lattice := fun m x => by
  rw [e_api_Lattice_def]; simp [ltRow, C.lt, ltRows_flat Flat.S, ltRows_flat (Flat.A2 (Flat.K .i64))]
theorem len_api_Lattice {x : api_Lattice} : (e_api_Lattice x).length = 2 := by rw [e_api_Lattice_def]; rfl
attribute [go_sem] e_api_Lattice_def
structure api_Site where
  Name : Str
  From : Int
  To : Int
def e_api_Site (x : api_Site) : List C := [.str x.Name, .int .i64 x.From, .int .i64 x.To]
theorem e_api_Site_def {x : api_Site} : e_api_Site x = [.str x.Name, .int .i64 x.From, .int .i64 x.To] := of_eq_true (eq_self _)
theorem Flat.api_Site : Flat e_api_Site := fun m x => by
  rw [e_api_Site_def]; simp [ltRow, C.lt]
theorem len_api_Site {x : api_Site} : (e_api_Site x).length = 3 := by rw [e_api_Site_def]; rfl
attribute [go_sem] e_api_Site_def
structure api_Type where
  Kind : Int
  Low : Int
  Len : Int
def e_api_Type (x : api_Type) : List C := [.int .i64 x.Kind, .int .i64 x.Low, .int .i64 x.Len]
theorem e_api_Type_def {x : api_Type} : e_api_Type x = [.int .i64 x.Kind, .int .i64 x.Low, .int .i64 x.Len] := of_eq_true (eq_self _)
theorem Flat.api_Type : Flat e_api_Type := fun m x => by
  rw [e_api_Type_def]; simp [ltRow, C.lt]
theorem len_api_Type {x : api_Type} : (e_api_Type x).length = 3 := by rw [e_api_Type_def]; rfl
attribute [go_sem] e_api_Type_def
structure api_Var where
  Name : Str
  Type_ : api_Type
  Mode : Int
  Label : Int
  Safe : Int
def e_api_Var (x : api_Var) : List C := [.str x.Name, .int .i64 x.Type_.Kind, .int .i64 x.Type_.Low, .int .i64 x.Type_.Len, .int .i64 x.Mode, .int .i64 x.Label, .int .i64 x.Safe]
theorem e_api_Var_def {x : api_Var} : e_api_Var x = [.str x.Name, .int .i64 x.Type_.Kind, .int .i64 x.Type_.Low, .int .i64 x.Type_.Len, .int .i64 x.Mode, .int .i64 x.Label, .int .i64 x.Safe] := of_eq_true (eq_self _)
theorem Flat.api_Var : Flat e_api_Var := fun m x => by
  rw [e_api_Var_def]; simp [ltRow, C.lt]
theorem len_api_Var {x : api_Var} : (e_api_Var x).length = 7 := by rw [e_api_Var_def]; rfl
attribute [go_sem] e_api_Var_def
structure api_Block where
  Name : Str
  Kind : Str
  Label : Int
def e_api_Block (x : api_Block) : List C := [.str x.Name, .str x.Kind, .int .i64 x.Label]
theorem e_api_Block_def {x : api_Block} : e_api_Block x = [.str x.Name, .str x.Kind, .int .i64 x.Label] := of_eq_true (eq_self _)
theorem Flat.api_Block : Flat e_api_Block := fun m x => by
  rw [e_api_Block_def]; simp [ltRow, C.lt]
theorem len_api_Block {x : api_Block} : (e_api_Block x).length = 3 := by rw [e_api_Block_def]; rfl
attribute [go_sem] e_api_Block_def
structure api_Expr where
  Op : Int
  N : Int
  Kind : Int
  Name : Str
  Args : List api_Expr
mutual
def e_api_Expr : api_Expr → List C
  | ⟨Op, N, Kind, Name, Args⟩ => [.int .i64 Op, .int .i64 N, .int .i64 Kind, .str Name, .sl (es_api_Expr Args)]
def es_api_Expr : List api_Expr → List (List C)
  | [] => []
  | x :: xs => e_api_Expr x :: es_api_Expr xs
end
theorem es_api_Expr_eq : ∀ (xs : List api_Expr), es_api_Expr xs = xs.map e_api_Expr
  | [] => rfl
  | x :: xs => by rw [es_api_Expr, es_api_Expr_eq xs]; rfl
theorem e_api_Expr_def {x : api_Expr} : e_api_Expr x = [.int .i64 x.Op, .int .i64 x.N, .int .i64 x.Kind, .str x.Name, .sl (x.Args.map e_api_Expr)] := by
  cases x; simp only [e_api_Expr, es_api_Expr_eq]
mutual
theorem Flat.api_Expr_1 (m : Nat) : ∀ (x : api_Expr), ltRow m (e_api_Expr x) = true
  | ⟨Op, N, Kind, Name, Args⟩ => by
    rw [e_api_Expr]; simp [ltRow, C.lt, Flat.api_Expr_2 m Args]
theorem Flat.api_Expr_2 (m : Nat) : ∀ (xs : List api_Expr), ltRows m (es_api_Expr xs) = true
  | [] => rfl
  | x :: xs => by rw [es_api_Expr, ltRows, Flat.api_Expr_1 m x, Flat.api_Expr_2 m xs]; rfl
end
theorem Flat.api_Expr : Flat e_api_Expr := fun m x => Flat.api_Expr_1 m x
theorem len_api_Expr {x : api_Expr} : (e_api_Expr x).length = 5 := by rw [e_api_Expr_def]; rfl
attribute [go_sem] e_api_Expr_def
structure api_Stmt where
  Kind : Int
  Name : Str
  Target : api_Expr
  Value : api_Expr
  Args : List api_Expr
  Body : List api_Stmt
  Else : List api_Stmt
mutual
def e_api_Stmt : api_Stmt → List C
  | ⟨Kind, Name, Target, Value, Args, Body, Else⟩ => [.int .i64 Kind, .str Name, .int .i64 Target.Op, .int .i64 Target.N, .int .i64 Target.Kind, .str Target.Name, .sl (Target.Args.map e_api_Expr), .int .i64 Value.Op, .int .i64 Value.N, .int .i64 Value.Kind, .str Value.Name, .sl (Value.Args.map e_api_Expr), .sl (Args.map e_api_Expr), .sl (es_api_Stmt Body), .sl (es_api_Stmt Else)]
def es_api_Stmt : List api_Stmt → List (List C)
  | [] => []
  | x :: xs => e_api_Stmt x :: es_api_Stmt xs
end
theorem es_api_Stmt_eq : ∀ (xs : List api_Stmt), es_api_Stmt xs = xs.map e_api_Stmt
  | [] => rfl
  | x :: xs => by rw [es_api_Stmt, es_api_Stmt_eq xs]; rfl
theorem e_api_Stmt_def {x : api_Stmt} : e_api_Stmt x = [.int .i64 x.Kind, .str x.Name, .int .i64 x.Target.Op, .int .i64 x.Target.N, .int .i64 x.Target.Kind, .str x.Target.Name, .sl (x.Target.Args.map e_api_Expr), .int .i64 x.Value.Op, .int .i64 x.Value.N, .int .i64 x.Value.Kind, .str x.Value.Name, .sl (x.Value.Args.map e_api_Expr), .sl (x.Args.map e_api_Expr), .sl (x.Body.map e_api_Stmt), .sl (x.Else.map e_api_Stmt)] := by
  cases x; simp only [e_api_Stmt, es_api_Stmt_eq]
mutual
theorem Flat.api_Stmt_1 (m : Nat) : ∀ (x : api_Stmt), ltRow m (e_api_Stmt x) = true
  | ⟨Kind, Name, Target, Value, Args, Body, Else⟩ => by
    rw [e_api_Stmt]; simp [ltRow, C.lt, ltRows_flat Flat.api_Expr, ltRows_flat Flat.api_Expr, ltRows_flat Flat.api_Expr, Flat.api_Stmt_2 m Body, Flat.api_Stmt_2 m Else]
theorem Flat.api_Stmt_2 (m : Nat) : ∀ (xs : List api_Stmt), ltRows m (es_api_Stmt xs) = true
  | [] => rfl
  | x :: xs => by rw [es_api_Stmt, ltRows, Flat.api_Stmt_1 m x, Flat.api_Stmt_2 m xs]; rfl
end
theorem Flat.api_Stmt : Flat e_api_Stmt := fun m x => Flat.api_Stmt_1 m x
theorem len_api_Stmt {x : api_Stmt} : (e_api_Stmt x).length = 15 := by rw [e_api_Stmt_def]; rfl
attribute [go_sem] e_api_Stmt_def
structure api_Task where
  Every : Int
  Priority : Int
  Budget : List Int
  Body : List api_Stmt
def e_api_Task (x : api_Task) : List C := [.int .i64 x.Every, .int .i64 x.Priority, .sl (x.Budget.map eI), .sl (x.Body.map e_api_Stmt)]
theorem e_api_Task_def {x : api_Task} : e_api_Task x = [.int .i64 x.Every, .int .i64 x.Priority, .sl (x.Budget.map eI), .sl (x.Body.map e_api_Stmt)] := of_eq_true (eq_self _)
theorem Flat.api_Task : Flat e_api_Task := fun m x => by
  rw [e_api_Task_def]; simp [ltRow, C.lt, ltRows_flat (Flat.K .i64), ltRows_flat Flat.api_Stmt]
theorem len_api_Task {x : api_Task} : (e_api_Task x).length = 4 := by rw [e_api_Task_def]; rfl
attribute [go_sem] e_api_Task_def
structure api_Ins where
  Op : Int
  A : Int
  B_ : Int
  Label : Int
def e_api_Ins (x : api_Ins) : List C := [.int .i64 x.Op, .int .i64 x.A, .int .i64 x.B_, .int .i64 x.Label]
theorem e_api_Ins_def {x : api_Ins} : e_api_Ins x = [.int .i64 x.Op, .int .i64 x.A, .int .i64 x.B_, .int .i64 x.Label] := of_eq_true (eq_self _)
theorem Flat.api_Ins : Flat e_api_Ins := fun m x => by
  rw [e_api_Ins_def]; simp [ltRow, C.lt]
theorem len_api_Ins {x : api_Ins} : (e_api_Ins x).length = 4 := by rw [e_api_Ins_def]; rfl
attribute [go_sem] e_api_Ins_def
structure api_Image where
  Lattice : api_Lattice
  Sites : List api_Site
  Vars : List api_Var
  Blocks : List api_Block
  Tasks : List api_Task
  Code : List (List api_Ins)
def e_api_Image (x : api_Image) : List C := [.sl (x.Lattice.Names.map eS), .sl (x.Lattice.Below.map (eA2 eI)), .sl (x.Sites.map e_api_Site), .sl (x.Vars.map e_api_Var), .sl (x.Blocks.map e_api_Block), .sl (x.Tasks.map e_api_Task), .sl (x.Code.map (eL e_api_Ins))]
theorem e_api_Image_def {x : api_Image} : e_api_Image x = [.sl (x.Lattice.Names.map eS), .sl (x.Lattice.Below.map (eA2 eI)), .sl (x.Sites.map e_api_Site), .sl (x.Vars.map e_api_Var), .sl (x.Blocks.map e_api_Block), .sl (x.Tasks.map e_api_Task), .sl (x.Code.map (eL e_api_Ins))] := of_eq_true (eq_self _)
theorem Flat.api_Image : Flat e_api_Image := fun m x => by
  rw [e_api_Image_def]; simp [ltRow, C.lt, ltRows_flat Flat.S, ltRows_flat (Flat.A2 (Flat.K .i64)), ltRows_flat Flat.api_Site, ltRows_flat Flat.api_Var, ltRows_flat Flat.api_Block, ltRows_flat Flat.api_Task, ltRows_flat (Flat.L Flat.api_Ins)]
theorem len_api_Image {x : api_Image} : (e_api_Image x).length = 7 := by rw [e_api_Image_def]; rfl
attribute [go_sem] e_api_Image_def
structure api_Memory where
  Cells : List (List Int)
  Blocks : List (A4 Int)
def e_api_Memory (x : api_Memory) : List C := [.sl (x.Cells.map (eL eI)), .sl (x.Blocks.map (eA4 eI))]
theorem e_api_Memory_def {x : api_Memory} : e_api_Memory x = [.sl (x.Cells.map (eL eI)), .sl (x.Blocks.map (eA4 eI))] := of_eq_true (eq_self _)
theorem Flat.api_Memory : Flat e_api_Memory := fun m x => by
  rw [e_api_Memory_def]; simp [ltRow, C.lt, ltRows_flat (Flat.L (Flat.K .i64)), ltRows_flat (Flat.A4 (Flat.K .i64))]
theorem len_api_Memory {x : api_Memory} : (e_api_Memory x).length = 2 := by rw [e_api_Memory_def]; rfl
attribute [go_sem] e_api_Memory_def
structure api_Program where
  Lattice : api_Lattice
  Sites : List api_Site
  Vars : List api_Var
  Blocks : List api_Block
  Tasks : List api_Task
def e_api_Program (x : api_Program) : List C := [.sl (x.Lattice.Names.map eS), .sl (x.Lattice.Below.map (eA2 eI)), .sl (x.Sites.map e_api_Site), .sl (x.Vars.map e_api_Var), .sl (x.Blocks.map e_api_Block), .sl (x.Tasks.map e_api_Task)]
theorem e_api_Program_def {x : api_Program} : e_api_Program x = [.sl (x.Lattice.Names.map eS), .sl (x.Lattice.Below.map (eA2 eI)), .sl (x.Sites.map e_api_Site), .sl (x.Vars.map e_api_Var), .sl (x.Blocks.map e_api_Block), .sl (x.Tasks.map e_api_Task)] := of_eq_true (eq_self _)
theorem Flat.api_Program : Flat e_api_Program := fun m x => by
  rw [e_api_Program_def]; simp [ltRow, C.lt, ltRows_flat Flat.S, ltRows_flat (Flat.A2 (Flat.K .i64)), ltRows_flat Flat.api_Site, ltRows_flat Flat.api_Var, ltRows_flat Flat.api_Block, ltRows_flat Flat.api_Task]
theorem len_api_Program {x : api_Program} : (e_api_Program x).length = 6 := by rw [e_api_Program_def]; rfl
attribute [go_sem] e_api_Program_def
theorem Plain.A2 {α : Type} {f : α → List C} (h : Plain f) : Plain (eA2 f) := fun H k x => by
  rw [eA2_def]; simp [h H k]
theorem Plain.A3 {α : Type} {f : α → List C} (h : Plain f) : Plain (eA3 f) := fun H k x => by
  rw [eA3_def]; simp [h H k]
theorem Plain.A4 {α : Type} {f : α → List C} (h : Plain f) : Plain (eA4 f) := fun H k x => by
  rw [eA4_def]; simp [h H k]
theorem Plain.api_Lattice : Plain e_api_Lattice := fun H k x => by rw [e_api_Lattice_def]; simp [vn_int, vn_bool, vn_str, vn_sl]
theorem Plain.api_Site : Plain e_api_Site := fun H k x => by rw [e_api_Site_def]; simp [vn_int, vn_bool, vn_str, vn_sl]
theorem Plain.api_Type : Plain e_api_Type := fun H k x => by rw [e_api_Type_def]; simp [vn_int, vn_bool, vn_str, vn_sl]
theorem Plain.api_Var : Plain e_api_Var := fun H k x => by rw [e_api_Var_def]; simp [vn_int, vn_bool, vn_str, vn_sl]
theorem Plain.api_Block : Plain e_api_Block := fun H k x => by rw [e_api_Block_def]; simp [vn_int, vn_bool, vn_str, vn_sl]
theorem Plain.api_Expr : Plain e_api_Expr := fun H k x => by rw [e_api_Expr_def]; simp [vn_int, vn_bool, vn_str, vn_sl]
theorem Plain.api_Stmt : Plain e_api_Stmt := fun H k x => by rw [e_api_Stmt_def]; simp [vn_int, vn_bool, vn_str, vn_sl]
theorem Plain.api_Task : Plain e_api_Task := fun H k x => by rw [e_api_Task_def]; simp [vn_int, vn_bool, vn_str, vn_sl]
theorem Plain.api_Ins : Plain e_api_Ins := fun H k x => by rw [e_api_Ins_def]; simp [vn_int, vn_bool, vn_str, vn_sl]
theorem Plain.api_Image : Plain e_api_Image := fun H k x => by rw [e_api_Image_def]; simp [vn_int, vn_bool, vn_str, vn_sl]
theorem Plain.api_Memory : Plain e_api_Memory := fun H k x => by rw [e_api_Memory_def]; simp [vn_int, vn_bool, vn_str, vn_sl]
theorem Plain.api_Program : Plain e_api_Program := fun H k x => by rw [e_api_Program_def]; simp [vn_int, vn_bool, vn_str, vn_sl]
theorem lr9 {m : Nat} {xs : List Str} : ltRows m (xs.map eS) = true := ltRows_flat Flat.S m xs
theorem vw9 {H : List O} {k : Nat} {xs : List Str} : viewRows H k (xs.map eS) = xs.map eS := viewRows_plain Plain.S H k xs
theorem lr71 {m : Nat} {xs : List (A2 Int)} : ltRows m (xs.map (eA2 eI)) = true := ltRows_flat (Flat.A2 (Flat.K .i64)) m xs
theorem vw71 {H : List O} {k : Nat} {xs : List (A2 Int)} : viewRows H k (xs.map (eA2 eI)) = xs.map (eA2 eI) := viewRows_plain (Plain.A2 (Plain.K .i64)) H k xs
theorem lr85 {m : Nat} {xs : List api_Site} : ltRows m (xs.map e_api_Site) = true := ltRows_flat Flat.api_Site m xs
theorem vw85 {H : List O} {k : Nat} {xs : List api_Site} : viewRows H k (xs.map e_api_Site) = xs.map e_api_Site := viewRows_plain Plain.api_Site H k xs
theorem lr48 {m : Nat} {xs : List api_Var} : ltRows m (xs.map e_api_Var) = true := ltRows_flat Flat.api_Var m xs
theorem vw48 {H : List O} {k : Nat} {xs : List api_Var} : viewRows H k (xs.map e_api_Var) = xs.map e_api_Var := viewRows_plain Plain.api_Var H k xs
theorem lr81 {m : Nat} {xs : List api_Block} : ltRows m (xs.map e_api_Block) = true := ltRows_flat Flat.api_Block m xs
theorem vw81 {H : List O} {k : Nat} {xs : List api_Block} : viewRows H k (xs.map e_api_Block) = xs.map e_api_Block := viewRows_plain Plain.api_Block H k xs
theorem lr68 {m : Nat} {xs : List api_Task} : ltRows m (xs.map e_api_Task) = true := ltRows_flat Flat.api_Task m xs
theorem vw68 {H : List O} {k : Nat} {xs : List api_Task} : viewRows H k (xs.map e_api_Task) = xs.map e_api_Task := viewRows_plain Plain.api_Task H k xs
theorem lr69 {m : Nat} {xs : List (List api_Ins)} : ltRows m (xs.map (eL e_api_Ins)) = true := ltRows_flat (Flat.L Flat.api_Ins) m xs
theorem vw69 {H : List O} {k : Nat} {xs : List (List api_Ins)} : viewRows H k (xs.map (eL e_api_Ins)) = xs.map (eL e_api_Ins) := viewRows_plain (Plain.L e_api_Ins) H k xs
theorem lr37 {m : Nat} {xs : List (List Int)} : ltRows m (xs.map (eL eI)) = true := ltRows_flat (Flat.L (Flat.K .i64)) m xs
theorem vw37 {H : List O} {k : Nat} {xs : List (List Int)} : viewRows H k (xs.map (eL eI)) = xs.map (eL eI) := viewRows_plain (Plain.L eI) H k xs
theorem lr142 {m : Nat} {xs : List (A4 Int)} : ltRows m (xs.map (eA4 eI)) = true := ltRows_flat (Flat.A4 (Flat.K .i64)) m xs
theorem vw142 {H : List O} {k : Nat} {xs : List (A4 Int)} : viewRows H k (xs.map (eA4 eI)) = xs.map (eA4 eI) := viewRows_plain (Plain.A4 (Plain.K .i64)) H k xs
theorem lr3 {m : Nat} {xs : List Int} : ltRows m (xs.map eI) = true := ltRows_flat (Flat.K .i64) m xs
theorem vw3 {H : List O} {k : Nat} {xs : List Int} : viewRows H k (xs.map eI) = xs.map eI := viewRows_plain (Plain.K .i64) H k xs
theorem lr104 {m : Nat} {xs : List api_Stmt} : ltRows m (xs.map e_api_Stmt) = true := ltRows_flat Flat.api_Stmt m xs
theorem vw104 {H : List O} {k : Nat} {xs : List api_Stmt} : viewRows H k (xs.map e_api_Stmt) = xs.map e_api_Stmt := viewRows_plain Plain.api_Stmt H k xs
theorem lr118 {m : Nat} {xs : List api_Ins} : ltRows m (xs.map e_api_Ins) = true := ltRows_flat Flat.api_Ins m xs
theorem vw118 {H : List O} {k : Nat} {xs : List api_Ins} : viewRows H k (xs.map e_api_Ins) = xs.map e_api_Ins := viewRows_plain Plain.api_Ins H k xs
theorem lr4 {m : Nat} {xs : List Bool} : ltRows m (xs.map eB) = true := ltRows_flat Flat.B m xs
theorem vw4 {H : List O} {k : Nat} {xs : List Bool} : viewRows H k (xs.map eB) = xs.map eB := viewRows_plain Plain.B H k xs
theorem lr102 {m : Nat} {xs : List api_Expr} : ltRows m (xs.map e_api_Expr) = true := ltRows_flat Flat.api_Expr m xs
theorem vw102 {H : List O} {k : Nat} {xs : List api_Expr} : viewRows H k (xs.map e_api_Expr) = xs.map e_api_Expr := viewRows_plain Plain.api_Expr H k xs
theorem ag3 : tAg Try.prog 3 = some (false, 1) := by kernel_rfl
theorem tk3 : tK Try.prog 3 = some .i64 := by kernel_rfl
theorem z3 : tZ Try.prog 3 = some (.one (.int .i64 0)) := by kernel_rfl
theorem un3 : (Try.prog.underlying 3).isSome = true := by kernel_rfl
theorem ag4 : tAg Try.prog 4 = some (false, 1) := by kernel_rfl
theorem tb4 : tIsBool Try.prog 4 = true := by kernel_rfl
theorem z4 : tZ Try.prog 4 = some (.one (.bool false)) := by kernel_rfl
theorem ag9 : tAg Try.prog 9 = some (false, 1) := by kernel_rfl
theorem ts9 : tIsStr Try.prog 9 = true := by kernel_rfl
theorem z9 : tZ Try.prog 9 = some (.one (.str [])) := by kernel_rfl
theorem ag22 : tAg Try.prog 22 = some (false, 1) := by kernel_rfl
theorem sl22 : tSl Try.prog 22 = some (9, 1, 16) := by kernel_rfl
theorem ar22 : tAr Try.prog 22 = none := by kernel_rfl
theorem z22 : tZ Try.prog 22 = some (.one (.slf [])) := by kernel_rfl
theorem ag23 : tAg Try.prog 23 = some (false, 1) := by kernel_rfl
theorem sl23 : tSl Try.prog 23 = some (71, 2, 16) := by kernel_rfl
theorem ar23 : tAr Try.prog 23 = none := by kernel_rfl
theorem z23 : tZ Try.prog 23 = some (.one (.slf [])) := by kernel_rfl
theorem ag25 : tAg Try.prog 25 = some (true, 2) := by kernel_rfl
theorem pl25 : tPl Try.prog 25 = some (fun k => [(0, 1), (1, 1)][k]?) := by kernel_rfl
theorem fd25_0 : tFd Try.prog 25 0 = some (0, false, 1) := by kernel_rfl
theorem fd25_1 : tFd Try.prog 25 1 = some (1, false, 1) := by kernel_rfl
theorem z25 : tZ Try.prog 25 = some (.agg [.slf [], .slf []]) := by kernel_rfl
theorem ag26 : tAg Try.prog 26 = some (false, 1) := by kernel_rfl
theorem sl26 : tSl Try.prog 26 = some (85, 3, 32) := by kernel_rfl
theorem ar26 : tAr Try.prog 26 = none := by kernel_rfl
theorem z26 : tZ Try.prog 26 = some (.one (.slf [])) := by kernel_rfl
theorem ag27 : tAg Try.prog 27 = some (false, 1) := by kernel_rfl
theorem sl27 : tSl Try.prog 27 = some (48, 7, 64) := by kernel_rfl
theorem ar27 : tAr Try.prog 27 = none := by kernel_rfl
theorem z27 : tZ Try.prog 27 = some (.one (.slf [])) := by kernel_rfl
theorem ag28 : tAg Try.prog 28 = some (false, 1) := by kernel_rfl
theorem sl28 : tSl Try.prog 28 = some (81, 3, 40) := by kernel_rfl
theorem ar28 : tAr Try.prog 28 = none := by kernel_rfl
theorem z28 : tZ Try.prog 28 = some (.one (.slf [])) := by kernel_rfl
theorem ag29 : tAg Try.prog 29 = some (false, 1) := by kernel_rfl
theorem sl29 : tSl Try.prog 29 = some (68, 4, 64) := by kernel_rfl
theorem ar29 : tAr Try.prog 29 = none := by kernel_rfl
theorem z29 : tZ Try.prog 29 = some (.one (.slf [])) := by kernel_rfl
theorem ag30 : tAg Try.prog 30 = some (false, 1) := by kernel_rfl
theorem sl30 : tSl Try.prog 30 = some (69, 1, 24) := by kernel_rfl
theorem ar30 : tAr Try.prog 30 = none := by kernel_rfl
theorem z30 : tZ Try.prog 30 = some (.one (.slf [])) := by kernel_rfl
theorem ag32 : tAg Try.prog 32 = some (true, 7) := by kernel_rfl
theorem pl32 : tPl Try.prog 32 = some (fun k => [(0, 2), (2, 1), (3, 1), (4, 1), (5, 1), (6, 1)][k]?) := by kernel_rfl
theorem fd32_0 : tFd Try.prog 32 0 = some (0, true, 2) := by kernel_rfl
theorem fd32_1 : tFd Try.prog 32 1 = some (2, false, 1) := by kernel_rfl
theorem fd32_2 : tFd Try.prog 32 2 = some (3, false, 1) := by kernel_rfl
theorem fd32_3 : tFd Try.prog 32 3 = some (4, false, 1) := by kernel_rfl
theorem fd32_4 : tFd Try.prog 32 4 = some (5, false, 1) := by kernel_rfl
theorem fd32_5 : tFd Try.prog 32 5 = some (6, false, 1) := by kernel_rfl
theorem z32 : tZ Try.prog 32 = some (.agg [.slf [], .slf [], .slf [], .slf [], .slf [], .slf [], .slf []]) := by kernel_rfl
theorem ag33 : tAg Try.prog 33 = some (false, 1) := by kernel_rfl
theorem sl33 : tSl Try.prog 33 = some (37, 1, 24) := by kernel_rfl
theorem ar33 : tAr Try.prog 33 = none := by kernel_rfl
theorem z33 : tZ Try.prog 33 = some (.one (.slf [])) := by kernel_rfl
theorem ag34 : tAg Try.prog 34 = some (false, 1) := by kernel_rfl
theorem sl34 : tSl Try.prog 34 = some (142, 4, 32) := by kernel_rfl
theorem ar34 : tAr Try.prog 34 = none := by kernel_rfl
theorem z34 : tZ Try.prog 34 = some (.one (.slf [])) := by kernel_rfl
theorem ag36 : tAg Try.prog 36 = some (true, 2) := by kernel_rfl
theorem pl36 : tPl Try.prog 36 = some (fun k => [(0, 1), (1, 1)][k]?) := by kernel_rfl
theorem fd36_0 : tFd Try.prog 36 0 = some (0, false, 1) := by kernel_rfl
theorem fd36_1 : tFd Try.prog 36 1 = some (1, false, 1) := by kernel_rfl
theorem z36 : tZ Try.prog 36 = some (.agg [.slf [], .slf []]) := by kernel_rfl
theorem ag37 : tAg Try.prog 37 = some (false, 1) := by kernel_rfl
theorem sl37 : tSl Try.prog 37 = some (3, 1, 8) := by kernel_rfl
theorem ar37 : tAr Try.prog 37 = none := by kernel_rfl
theorem z37 : tZ Try.prog 37 = some (.one (.slf [])) := by kernel_rfl
theorem ag46 : tAg Try.prog 46 = some (true, 3) := by kernel_rfl
theorem pl46 : tPl Try.prog 46 = some (fun k => [(0, 1), (1, 1), (2, 1)][k]?) := by kernel_rfl
theorem fd46_0 : tFd Try.prog 46 0 = some (0, false, 1) := by kernel_rfl
theorem fd46_1 : tFd Try.prog 46 1 = some (1, false, 1) := by kernel_rfl
theorem fd46_2 : tFd Try.prog 46 2 = some (2, false, 1) := by kernel_rfl
theorem z46 : tZ Try.prog 46 = some (.agg [.int .i64 0, .int .i64 0, .int .i64 0]) := by kernel_rfl
theorem ag48 : tAg Try.prog 48 = some (true, 7) := by kernel_rfl
theorem pl48 : tPl Try.prog 48 = some (fun k => [(0, 1), (1, 3), (4, 1), (5, 1), (6, 1)][k]?) := by kernel_rfl
theorem fd48_0 : tFd Try.prog 48 0 = some (0, false, 1) := by kernel_rfl
theorem fd48_1 : tFd Try.prog 48 1 = some (1, true, 3) := by kernel_rfl
theorem fd48_2 : tFd Try.prog 48 2 = some (4, false, 1) := by kernel_rfl
theorem fd48_3 : tFd Try.prog 48 3 = some (5, false, 1) := by kernel_rfl
theorem fd48_4 : tFd Try.prog 48 4 = some (6, false, 1) := by kernel_rfl
theorem z48 : tZ Try.prog 48 = some (.agg [.str [], .int .i64 0, .int .i64 0, .int .i64 0, .int .i64 0, .int .i64 0, .int .i64 0]) := by kernel_rfl
theorem ag52 : tAg Try.prog 52 = some (true, 6) := by kernel_rfl
theorem pl52 : tPl Try.prog 52 = some (fun k => [(0, 2), (2, 1), (3, 1), (4, 1), (5, 1)][k]?) := by kernel_rfl
theorem fd52_0 : tFd Try.prog 52 0 = some (0, true, 2) := by kernel_rfl
theorem fd52_1 : tFd Try.prog 52 1 = some (2, false, 1) := by kernel_rfl
theorem fd52_2 : tFd Try.prog 52 2 = some (3, false, 1) := by kernel_rfl
theorem fd52_3 : tFd Try.prog 52 3 = some (4, false, 1) := by kernel_rfl
theorem fd52_4 : tFd Try.prog 52 4 = some (5, false, 1) := by kernel_rfl
theorem z52 : tZ Try.prog 52 = some (.agg [.slf [], .slf [], .slf [], .slf [], .slf [], .slf []]) := by kernel_rfl
theorem ag56 : tAg Try.prog 56 = some (false, 1) := by kernel_rfl
theorem tk56 : tK Try.prog 56 = some .i64 := by kernel_rfl
theorem z56 : tZ Try.prog 56 = some (.one (.int .i64 0)) := by kernel_rfl
theorem un56 : (Try.prog.underlying 56).isSome = true := by kernel_rfl
theorem ag62 : tAg Try.prog 62 = some (true, 3) := by kernel_rfl
theorem pl62 : tPl Try.prog 62 = some (fun k => some (k * 1, 1)) := by kernel_rfl
theorem ar62 : tAr Try.prog 62 = some (3, 3, 1) := by kernel_rfl
theorem z62 : tZ Try.prog 62 = some (.agg [.int .i64 0, .int .i64 0, .int .i64 0]) := by kernel_rfl
theorem ag66 : tAg Try.prog 66 = some (false, 1) := by kernel_rfl
theorem sl66 : tSl Try.prog 66 = some (104, 15, 224) := by kernel_rfl
theorem ar66 : tAr Try.prog 66 = none := by kernel_rfl
theorem z66 : tZ Try.prog 66 = some (.one (.slf [])) := by kernel_rfl
theorem ag68 : tAg Try.prog 68 = some (true, 4) := by kernel_rfl
theorem pl68 : tPl Try.prog 68 = some (fun k => [(0, 1), (1, 1), (2, 1), (3, 1)][k]?) := by kernel_rfl
theorem fd68_0 : tFd Try.prog 68 0 = some (0, false, 1) := by kernel_rfl
theorem fd68_1 : tFd Try.prog 68 1 = some (1, false, 1) := by kernel_rfl
theorem fd68_2 : tFd Try.prog 68 2 = some (2, false, 1) := by kernel_rfl
theorem fd68_3 : tFd Try.prog 68 3 = some (3, false, 1) := by kernel_rfl
theorem z68 : tZ Try.prog 68 = some (.agg [.int .i64 0, .int .i64 0, .slf [], .slf []]) := by kernel_rfl
theorem ag69 : tAg Try.prog 69 = some (false, 1) := by kernel_rfl
theorem sl69 : tSl Try.prog 69 = some (118, 4, 32) := by kernel_rfl
theorem ar69 : tAr Try.prog 69 = none := by kernel_rfl
theorem z69 : tZ Try.prog 69 = some (.one (.slf [])) := by kernel_rfl
theorem ag71 : tAg Try.prog 71 = some (true, 2) := by kernel_rfl
theorem pl71 : tPl Try.prog 71 = some (fun k => some (k * 1, 1)) := by kernel_rfl
theorem ar71 : tAr Try.prog 71 = some (2, 3, 1) := by kernel_rfl
theorem z71 : tZ Try.prog 71 = some (.agg [.int .i64 0, .int .i64 0]) := by kernel_rfl
theorem ag74 : tAg Try.prog 74 = some (false, 1) := by kernel_rfl
theorem sl74 : tSl Try.prog 74 = some (4, 1, 1) := by kernel_rfl
theorem ar74 : tAr Try.prog 74 = none := by kernel_rfl
theorem z74 : tZ Try.prog 74 = some (.one (.slf [])) := by kernel_rfl
theorem ag78 : tAg Try.prog 78 = some (false, 1) := by kernel_rfl
theorem z78 : tZ Try.prog 78 = some (.one (.nilfn)) := by kernel_rfl
theorem ag81 : tAg Try.prog 81 = some (true, 3) := by kernel_rfl
theorem pl81 : tPl Try.prog 81 = some (fun k => [(0, 1), (1, 1), (2, 1)][k]?) := by kernel_rfl
theorem fd81_0 : tFd Try.prog 81 0 = some (0, false, 1) := by kernel_rfl
theorem fd81_1 : tFd Try.prog 81 1 = some (1, false, 1) := by kernel_rfl
theorem fd81_2 : tFd Try.prog 81 2 = some (2, false, 1) := by kernel_rfl
theorem z81 : tZ Try.prog 81 = some (.agg [.str [], .str [], .int .i64 0]) := by kernel_rfl
theorem ag82 : tAg Try.prog 82 = some (false, 1) := by kernel_rfl
theorem z82 : tZ Try.prog 82 = some (.one (.nilfn)) := by kernel_rfl
theorem ag85 : tAg Try.prog 85 = some (true, 3) := by kernel_rfl
theorem pl85 : tPl Try.prog 85 = some (fun k => [(0, 1), (1, 1), (2, 1)][k]?) := by kernel_rfl
theorem fd85_0 : tFd Try.prog 85 0 = some (0, false, 1) := by kernel_rfl
theorem fd85_1 : tFd Try.prog 85 1 = some (1, false, 1) := by kernel_rfl
theorem fd85_2 : tFd Try.prog 85 2 = some (2, false, 1) := by kernel_rfl
theorem z85 : tZ Try.prog 85 = some (.agg [.str [], .int .i64 0, .int .i64 0]) := by kernel_rfl
theorem ag86 : tAg Try.prog 86 = some (false, 1) := by kernel_rfl
theorem z86 : tZ Try.prog 86 = some (.one (.nilfn)) := by kernel_rfl
theorem ag87 : tAg Try.prog 87 = some (false, 1) := by kernel_rfl
theorem mp87 : tMp Try.prog 87 = some (9, none, 4) := by kernel_rfl
theorem z87 : tZ Try.prog 87 = some (.one (.nilm)) := by kernel_rfl
theorem ag92 : tAg Try.prog 92 = some (false, 1) := by kernel_rfl
theorem z92 : tZ Try.prog 92 = some (.one (.nilfn)) := by kernel_rfl
theorem ag93 : tAg Try.prog 93 = some (false, 1) := by kernel_rfl
theorem z93 : tZ Try.prog 93 = some (.one (.nilfn)) := by kernel_rfl
theorem ag94 : tAg Try.prog 94 = some (false, 1) := by kernel_rfl
theorem tk94 : tK Try.prog 94 = some .u64 := by kernel_rfl
theorem z94 : tZ Try.prog 94 = some (.one (.int .u64 0)) := by kernel_rfl
theorem un94 : (Try.prog.underlying 94).isSome = true := by kernel_rfl
theorem ag100 : tAg Try.prog 100 = some (false, 1) := by kernel_rfl
theorem sl100 : tSl Try.prog 100 = some (102, 5, 64) := by kernel_rfl
theorem ar100 : tAr Try.prog 100 = none := by kernel_rfl
theorem z100 : tZ Try.prog 100 = some (.one (.slf [])) := by kernel_rfl
theorem ag102 : tAg Try.prog 102 = some (true, 5) := by kernel_rfl
theorem pl102 : tPl Try.prog 102 = some (fun k => [(0, 1), (1, 1), (2, 1), (3, 1), (4, 1)][k]?) := by kernel_rfl
theorem fd102_0 : tFd Try.prog 102 0 = some (0, false, 1) := by kernel_rfl
theorem fd102_1 : tFd Try.prog 102 1 = some (1, false, 1) := by kernel_rfl
theorem fd102_2 : tFd Try.prog 102 2 = some (2, false, 1) := by kernel_rfl
theorem fd102_3 : tFd Try.prog 102 3 = some (3, false, 1) := by kernel_rfl
theorem fd102_4 : tFd Try.prog 102 4 = some (4, false, 1) := by kernel_rfl
theorem z102 : tZ Try.prog 102 = some (.agg [.int .i64 0, .int .i64 0, .int .i64 0, .str [], .slf []]) := by kernel_rfl
theorem ag104 : tAg Try.prog 104 = some (true, 15) := by kernel_rfl
theorem pl104 : tPl Try.prog 104 = some (fun k => [(0, 1), (1, 1), (2, 5), (7, 5), (12, 1), (13, 1), (14, 1)][k]?) := by kernel_rfl
theorem fd104_0 : tFd Try.prog 104 0 = some (0, false, 1) := by kernel_rfl
theorem fd104_1 : tFd Try.prog 104 1 = some (1, false, 1) := by kernel_rfl
theorem fd104_2 : tFd Try.prog 104 2 = some (2, true, 5) := by kernel_rfl
theorem fd104_3 : tFd Try.prog 104 3 = some (7, true, 5) := by kernel_rfl
theorem fd104_4 : tFd Try.prog 104 4 = some (12, false, 1) := by kernel_rfl
theorem fd104_5 : tFd Try.prog 104 5 = some (13, false, 1) := by kernel_rfl
theorem fd104_6 : tFd Try.prog 104 6 = some (14, false, 1) := by kernel_rfl
theorem z104 : tZ Try.prog 104 = some (.agg [.int .i64 0, .str [], .int .i64 0, .int .i64 0, .int .i64 0, .str [], .slf [], .int .i64 0, .int .i64 0, .int .i64 0, .str [], .slf [], .slf [], .slf [], .slf []]) := by kernel_rfl
theorem ag106 : tAg Try.prog 106 = some (false, 1) := by kernel_rfl
theorem z106 : tZ Try.prog 106 = some (.one (.nilfn)) := by kernel_rfl
theorem ag108 : tAg Try.prog 108 = some (false, 1) := by kernel_rfl
theorem z108 : tZ Try.prog 108 = some (.one (.nilfn)) := by kernel_rfl
theorem ag110 : tAg Try.prog 110 = some (false, 1) := by kernel_rfl
theorem z110 : tZ Try.prog 110 = some (.one (.nilfn)) := by kernel_rfl
theorem ag114 : tAg Try.prog 114 = some (false, 1) := by kernel_rfl
theorem z114 : tZ Try.prog 114 = some (.one (.nilfn)) := by kernel_rfl
theorem ag118 : tAg Try.prog 118 = some (true, 4) := by kernel_rfl
theorem pl118 : tPl Try.prog 118 = some (fun k => [(0, 1), (1, 1), (2, 1), (3, 1)][k]?) := by kernel_rfl
theorem fd118_0 : tFd Try.prog 118 0 = some (0, false, 1) := by kernel_rfl
theorem fd118_1 : tFd Try.prog 118 1 = some (1, false, 1) := by kernel_rfl
theorem fd118_2 : tFd Try.prog 118 2 = some (2, false, 1) := by kernel_rfl
theorem fd118_3 : tFd Try.prog 118 3 = some (3, false, 1) := by kernel_rfl
theorem z118 : tZ Try.prog 118 = some (.agg [.int .i64 0, .int .i64 0, .int .i64 0, .int .i64 0]) := by kernel_rfl
theorem ag121 : tAg Try.prog 121 = some (false, 1) := by kernel_rfl
theorem z121 : tZ Try.prog 121 = some (.one (.nilfn)) := by kernel_rfl
theorem ag142 : tAg Try.prog 142 = some (true, 4) := by kernel_rfl
theorem pl142 : tPl Try.prog 142 = some (fun k => some (k * 1, 1)) := by kernel_rfl
theorem ar142 : tAr Try.prog 142 = some (4, 3, 1) := by kernel_rfl
theorem z142 : tZ Try.prog 142 = some (.agg [.int .i64 0, .int .i64 0, .int .i64 0, .int .i64 0]) := by kernel_rfl
attribute [go_sem] lr9 vw9 lr71 vw71 lr85 vw85 lr48 vw48 lr81 vw81 lr68 vw68 lr69 vw69 lr37 vw37 lr142 vw142 lr3 vw3 lr104 vw104 lr118 vw118 lr4 vw4 lr102 vw102 ag3 tk3 z3 un3 ag4 tb4 z4 ag9 ts9 z9 ag22 sl22 ar22 z22 ag23 sl23 ar23 z23 ag25 pl25 fd25_0 fd25_1 z25 ag26 sl26 ar26 z26 ag27 sl27 ar27 z27 ag28 sl28 ar28 z28 ag29 sl29 ar29 z29 ag30 sl30 ar30 z30 ag32 pl32 fd32_0 fd32_1 fd32_2 fd32_3 fd32_4 fd32_5 z32 ag33 sl33 ar33 z33 ag34 sl34 ar34 z34 ag36 pl36 fd36_0 fd36_1 z36 ag37 sl37 ar37 z37 ag46 pl46 fd46_0 fd46_1 fd46_2 z46 ag48 pl48 fd48_0 fd48_1 fd48_2 fd48_3 fd48_4 z48 ag52 pl52 fd52_0 fd52_1 fd52_2 fd52_3 fd52_4 z52 ag56 tk56 z56 un56 ag62 pl62 ar62 z62 ag66 sl66 ar66 z66 ag68 pl68 fd68_0 fd68_1 fd68_2 fd68_3 z68 ag69 sl69 ar69 z69 ag71 pl71 ar71 z71 ag74 sl74 ar74 z74 ag78 z78 ag81 pl81 fd81_0 fd81_1 fd81_2 z81 ag82 z82 ag85 pl85 fd85_0 fd85_1 fd85_2 z85 ag86 z86 ag87 mp87 z87 ag92 z92 ag93 z93 ag94 tk94 z94 un94 ag100 sl100 ar100 z100 ag102 pl102 fd102_0 fd102_1 fd102_2 fd102_3 fd102_4 z102 ag104 pl104 fd104_0 fd104_1 fd104_2 fd104_3 fd104_4 fd104_5 fd104_6 z104 ag106 z106 ag108 z108 ag110 z110 ag114 z114 ag118 pl118 fd118_0 fd118_1 fd118_2 fd118_3 z118 ag121 z121 ag142 pl142 ar142 z142
theorem mo : Try.prog.follows .mixedOrders = true := rfl
end Go.Lz

