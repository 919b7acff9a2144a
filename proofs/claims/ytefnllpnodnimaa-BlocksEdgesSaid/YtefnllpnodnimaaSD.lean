/- SD: the types of the program as types of Lean, and as cells; the table of types. -/
import Derived.Test.YtefnllpnodnimaaLw2
import Derived.Test.YtefnllpnodnimaaProg
import Derived.KernelRfl
namespace Go.Lz
set_option linter.unusedVariables false
set_option linter.unusedSimpArgs false
open Go.Proofs
structure A2 (α : Type) where
  a0 : α
  a1 : α
  deriving DecidableEq
def eA2 {α : Type} (f : α → List C) (x : A2 α) : List C := f x.a0 ++ f x.a1
theorem eA2_def {α : Type} {f : α → List C} {x : A2 α} : eA2 f x = f x.a0 ++ f x.a1 := of_eq_true (eq_self _)
theorem Flat.A2 {α : Type} {f : α → List C} (h : Flat f) : Flat (eA2 f) := fun m x => by
  rw [eA2_def]; simp [ltRow_app, h m]
attribute [go_sem] eA2_def
structure A3 (α : Type) where
  a0 : α
  a1 : α
  a2 : α
  deriving DecidableEq
def eA3 {α : Type} (f : α → List C) (x : A3 α) : List C := f x.a0 ++ f x.a1 ++ f x.a2
theorem eA3_def {α : Type} {f : α → List C} {x : A3 α} : eA3 f x = f x.a0 ++ f x.a1 ++ f x.a2 := of_eq_true (eq_self _)
theorem Flat.A3 {α : Type} {f : α → List C} (h : Flat f) : Flat (eA3 f) := fun m x => by
  rw [eA3_def]; simp [ltRow_app, h m]
attribute [go_sem] eA3_def
structure A4 (α : Type) where
  a0 : α
  a1 : α
  a2 : α
  a3 : α
  deriving DecidableEq
def eA4 {α : Type} (f : α → List C) (x : A4 α) : List C := f x.a0 ++ f x.a1 ++ f x.a2 ++ f x.a3
theorem eA4_def {α : Type} {f : α → List C} {x : A4 α} : eA4 f x = f x.a0 ++ f x.a1 ++ f x.a2 ++ f x.a3 := of_eq_true (eq_self _)
theorem Flat.A4 {α : Type} {f : α → List C} (h : Flat f) : Flat (eA4 f) := fun m x => by
  rw [eA4_def]; simp [ltRow_app, h m]
attribute [go_sem] eA4_def
structure A5 (α : Type) where
  a0 : α
  a1 : α
  a2 : α
  a3 : α
  a4 : α
  deriving DecidableEq
def eA5 {α : Type} (f : α → List C) (x : A5 α) : List C := f x.a0 ++ f x.a1 ++ f x.a2 ++ f x.a3 ++ f x.a4
theorem eA5_def {α : Type} {f : α → List C} {x : A5 α} : eA5 f x = f x.a0 ++ f x.a1 ++ f x.a2 ++ f x.a3 ++ f x.a4 := of_eq_true (eq_self _)
theorem Flat.A5 {α : Type} {f : α → List C} (h : Flat f) : Flat (eA5 f) := fun m x => by
  rw [eA5_def]; simp [ltRow_app, h m]
attribute [go_sem] eA5_def
structure api_Type where
  Kind : Int
  Low : Int
  Len : Int
def e_api_Type (x : api_Type) : List C := [.int .i64 x.Kind, .int .i64 x.Low, .int .i64 x.Len]
theorem e_api_Type_def {x : api_Type} : e_api_Type x = [.int .i64 x.Kind, .int .i64 x.Low, .int .i64 x.Len] := of_eq_true (eq_self _)
theorem Flat.api_Type : Flat e_api_Type := fun m x => by
  rw [e_api_Type_def]; simp [ltRow, C.lt, lt_eF]
theorem len_api_Type {x : api_Type} : (e_api_Type x).length = 3 := by rw [e_api_Type_def]; rfl
attribute [go_sem] e_api_Type_def
structure api_Lattice where
  Names : List Str
  Below : List (A2 Int)
def e_api_Lattice (x : api_Lattice) : List C := [.sl (x.Names.map eS), .sl (x.Below.map (eA2 eI))]
theorem e_api_Lattice_def {x : api_Lattice} : e_api_Lattice x = [.sl (x.Names.map eS), .sl (x.Below.map (eA2 eI))] := of_eq_true (eq_self _)
theorem Flat.api_Lattice : Flat e_api_Lattice := fun m x => by
  rw [e_api_Lattice_def]; simp [ltRow, C.lt, lt_eF, ltRows_flat Flat.S, ltRows_flat (Flat.A2 (Flat.K .i64))]
theorem len_api_Lattice {x : api_Lattice} : (e_api_Lattice x).length = 2 := by rw [e_api_Lattice_def]; rfl
attribute [go_sem] e_api_Lattice_def
structure lazarettolaw11_Call where
  Later : Int
  In : A5 Int
def e_lazarettolaw11_Call (x : lazarettolaw11_Call) : List C := [.int .i64 x.Later, .int .i64 x.In.a0, .int .i64 x.In.a1, .int .i64 x.In.a2, .int .i64 x.In.a3, .int .i64 x.In.a4]
theorem e_lazarettolaw11_Call_def {x : lazarettolaw11_Call} : e_lazarettolaw11_Call x = [.int .i64 x.Later, .int .i64 x.In.a0, .int .i64 x.In.a1, .int .i64 x.In.a2, .int .i64 x.In.a3, .int .i64 x.In.a4] := of_eq_true (eq_self _)
theorem Flat.lazarettolaw11_Call : Flat e_lazarettolaw11_Call := fun m x => by
  rw [e_lazarettolaw11_Call_def]; simp [ltRow, C.lt, lt_eF]
theorem len_lazarettolaw11_Call {x : lazarettolaw11_Call} : (e_lazarettolaw11_Call x).length = 6 := by rw [e_lazarettolaw11_Call_def]; rfl
attribute [go_sem] e_lazarettolaw11_Call_def
structure api_Site where
  Name : Str
  From : Int
  To : Int
def e_api_Site (x : api_Site) : List C := [.str x.Name, .int .i64 x.From, .int .i64 x.To]
theorem e_api_Site_def {x : api_Site} : e_api_Site x = [.str x.Name, .int .i64 x.From, .int .i64 x.To] := of_eq_true (eq_self _)
theorem Flat.api_Site : Flat e_api_Site := fun m x => by
  rw [e_api_Site_def]; simp [ltRow, C.lt, lt_eF]
theorem len_api_Site {x : api_Site} : (e_api_Site x).length = 3 := by rw [e_api_Site_def]; rfl
attribute [go_sem] e_api_Site_def
structure api_Var where
  Name : Str
  Type_ : api_Type
  Mode : Int
  Label : Int
  Safe : Int
def e_api_Var (x : api_Var) : List C := [.str x.Name, .int .i64 x.Type_.Kind, .int .i64 x.Type_.Low, .int .i64 x.Type_.Len, .int .i64 x.Mode, .int .i64 x.Label, .int .i64 x.Safe]
theorem e_api_Var_def {x : api_Var} : e_api_Var x = [.str x.Name, .int .i64 x.Type_.Kind, .int .i64 x.Type_.Low, .int .i64 x.Type_.Len, .int .i64 x.Mode, .int .i64 x.Label, .int .i64 x.Safe] := of_eq_true (eq_self _)
theorem Flat.api_Var : Flat e_api_Var := fun m x => by
  rw [e_api_Var_def]; simp [ltRow, C.lt, lt_eF]
theorem len_api_Var {x : api_Var} : (e_api_Var x).length = 7 := by rw [e_api_Var_def]; rfl
attribute [go_sem] e_api_Var_def
structure api_Block where
  Name : Str
  Kind : Str
  Label : Int
def e_api_Block (x : api_Block) : List C := [.str x.Name, .str x.Kind, .int .i64 x.Label]
theorem e_api_Block_def {x : api_Block} : e_api_Block x = [.str x.Name, .str x.Kind, .int .i64 x.Label] := of_eq_true (eq_self _)
theorem Flat.api_Block : Flat e_api_Block := fun m x => by
  rw [e_api_Block_def]; simp [ltRow, C.lt, lt_eF]
theorem len_api_Block {x : api_Block} : (e_api_Block x).length = 3 := by rw [e_api_Block_def]; rfl
attribute [go_sem] e_api_Block_def
structure api_Expr where
  Op : Int
  N : Int
  Kind : Int
  Name : Str
  Args : List api_Expr
mutual
def e_api_Expr : api_Expr → List C
  | ⟨Op, N, Kind, Name, Args⟩ => [.int .i64 Op, .int .i64 N, .int .i64 Kind, .str Name, .sl (es_api_Expr Args)]
def es_api_Expr : List api_Expr → List (List C)
  | [] => []
  | x :: xs => e_api_Expr x :: es_api_Expr xs
end
theorem es_api_Expr_eq : ∀ (xs : List api_Expr), es_api_Expr xs = xs.map e_api_Expr
  | [] => rfl
  | x :: xs => by rw [es_api_Expr, es_api_Expr_eq xs]; rfl
theorem e_api_Expr_def {x : api_Expr} : e_api_Expr x = [.int .i64 x.Op, .int .i64 x.N, .int .i64 x.Kind, .str x.Name, .sl (x.Args.map e_api_Expr)] := by
  cases x; simp only [e_api_Expr, es_api_Expr_eq]
mutual
theorem Flat.api_Expr_1 (m : Nat) : ∀ (x : api_Expr), ltRow m (e_api_Expr x) = true
  | ⟨Op, N, Kind, Name, Args⟩ => by
    rw [e_api_Expr]; simp [ltRow, C.lt, Flat.api_Expr_2 m Args]
theorem Flat.api_Expr_2 (m : Nat) : ∀ (xs : List api_Expr), ltRows m (es_api_Expr xs) = true
  | [] => rfl
  | x :: xs => by rw [es_api_Expr, ltRows, Flat.api_Expr_1 m x, Flat.api_Expr_2 m xs]; rfl
end
theorem Flat.api_Expr : Flat e_api_Expr := fun m x => Flat.api_Expr_1 m x
theorem len_api_Expr {x : api_Expr} : (e_api_Expr x).length = 5 := by rw [e_api_Expr_def]; rfl
attribute [go_sem] e_api_Expr_def
structure api_Stmt where
  Kind : Int
  Name : Str
  Target : api_Expr
  Value : api_Expr
  Args : List api_Expr
  Body : List api_Stmt
  Else : List api_Stmt
mutual
def e_api_Stmt : api_Stmt → List C
  | ⟨Kind, Name, Target, Value, Args, Body, Else⟩ => [.int .i64 Kind, .str Name, .int .i64 Target.Op, .int .i64 Target.N, .int .i64 Target.Kind, .str Target.Name, .sl (Target.Args.map e_api_Expr), .int .i64 Value.Op, .int .i64 Value.N, .int .i64 Value.Kind, .str Value.Name, .sl (Value.Args.map e_api_Expr), .sl (Args.map e_api_Expr), .sl (es_api_Stmt Body), .sl (es_api_Stmt Else)]
def es_api_Stmt : List api_Stmt → List (List C)
  | [] => []
  | x :: xs => e_api_Stmt x :: es_api_Stmt xs
end
theorem es_api_Stmt_eq : ∀ (xs : List api_Stmt), es_api_Stmt xs = xs.map e_api_Stmt
  | [] => rfl
  | x :: xs => by rw [es_api_Stmt, es_api_Stmt_eq xs]; rfl
theorem e_api_Stmt_def {x : api_Stmt} : e_api_Stmt x = [.int .i64 x.Kind, .str x.Name, .int .i64 x.Target.Op, .int .i64 x.Target.N, .int .i64 x.Target.Kind, .str x.Target.Name, .sl (x.Target.Args.map e_api_Expr), .int .i64 x.Value.Op, .int .i64 x.Value.N, .int .i64 x.Value.Kind, .str x.Value.Name, .sl (x.Value.Args.map e_api_Expr), .sl (x.Args.map e_api_Expr), .sl (x.Body.map e_api_Stmt), .sl (x.Else.map e_api_Stmt)] := by
  cases x; simp only [e_api_Stmt, es_api_Stmt_eq]
mutual
theorem Flat.api_Stmt_1 (m : Nat) : ∀ (x : api_Stmt), ltRow m (e_api_Stmt x) = true
  | ⟨Kind, Name, Target, Value, Args, Body, Else⟩ => by
    rw [e_api_Stmt]; simp [ltRow, C.lt, ltRows_flat Flat.api_Expr, ltRows_flat Flat.api_Expr, ltRows_flat Flat.api_Expr, Flat.api_Stmt_2 m Body, Flat.api_Stmt_2 m Else]
theorem Flat.api_Stmt_2 (m : Nat) : ∀ (xs : List api_Stmt), ltRows m (es_api_Stmt xs) = true
  | [] => rfl
  | x :: xs => by rw [es_api_Stmt, ltRows, Flat.api_Stmt_1 m x, Flat.api_Stmt_2 m xs]; rfl
end
theorem Flat.api_Stmt : Flat e_api_Stmt := fun m x => Flat.api_Stmt_1 m x
theorem len_api_Stmt {x : api_Stmt} : (e_api_Stmt x).length = 15 := by rw [e_api_Stmt_def]; rfl
attribute [go_sem] e_api_Stmt_def
structure api_Task where
  Every : Int
  Priority : Int
  Budget : List Int
  Body : List api_Stmt
def e_api_Task (x : api_Task) : List C := [.int .i64 x.Every, .int .i64 x.Priority, .sl (x.Budget.map eI), .sl (x.Body.map e_api_Stmt)]
theorem e_api_Task_def {x : api_Task} : e_api_Task x = [.int .i64 x.Every, .int .i64 x.Priority, .sl (x.Budget.map eI), .sl (x.Body.map e_api_Stmt)] := of_eq_true (eq_self _)
theorem Flat.api_Task : Flat e_api_Task := fun m x => by
  rw [e_api_Task_def]; simp [ltRow, C.lt, lt_eF, ltRows_flat (Flat.K .i64), ltRows_flat Flat.api_Stmt]
theorem len_api_Task {x : api_Task} : (e_api_Task x).length = 4 := by rw [e_api_Task_def]; rfl
attribute [go_sem] e_api_Task_def
structure api_Ins where
  Op : Int
  A : Int
  B_ : Int
  Label : Int
def e_api_Ins (x : api_Ins) : List C := [.int .i64 x.Op, .int .i64 x.A, .int .i64 x.B_, .int .i64 x.Label]
theorem e_api_Ins_def {x : api_Ins} : e_api_Ins x = [.int .i64 x.Op, .int .i64 x.A, .int .i64 x.B_, .int .i64 x.Label] := of_eq_true (eq_self _)
theorem Flat.api_Ins : Flat e_api_Ins := fun m x => by
  rw [e_api_Ins_def]; simp [ltRow, C.lt, lt_eF]
theorem len_api_Ins {x : api_Ins} : (e_api_Ins x).length = 4 := by rw [e_api_Ins_def]; rfl
attribute [go_sem] e_api_Ins_def
structure api_Image where
  Lattice : api_Lattice
  Sites : List api_Site
  Vars : List api_Var
  Blocks : List api_Block
  Tasks : List api_Task
  Code : List (List api_Ins)
def e_api_Image (x : api_Image) : List C := [.sl (x.Lattice.Names.map eS), .sl (x.Lattice.Below.map (eA2 eI)), .sl (x.Sites.map e_api_Site), .sl (x.Vars.map e_api_Var), .sl (x.Blocks.map e_api_Block), .sl (x.Tasks.map e_api_Task), .sl (x.Code.map (eL e_api_Ins))]
theorem e_api_Image_def {x : api_Image} : e_api_Image x = [.sl (x.Lattice.Names.map eS), .sl (x.Lattice.Below.map (eA2 eI)), .sl (x.Sites.map e_api_Site), .sl (x.Vars.map e_api_Var), .sl (x.Blocks.map e_api_Block), .sl (x.Tasks.map e_api_Task), .sl (x.Code.map (eL e_api_Ins))] := of_eq_true (eq_self _)
theorem Flat.api_Image : Flat e_api_Image := fun m x => by
  rw [e_api_Image_def]; simp [ltRow, C.lt, lt_eF, ltRows_flat Flat.S, ltRows_flat (Flat.A2 (Flat.K .i64)), ltRows_flat Flat.api_Site, ltRows_flat Flat.api_Var, ltRows_flat Flat.api_Block, ltRows_flat Flat.api_Task, ltRows_flat (Flat.L Flat.api_Ins)]
theorem len_api_Image {x : api_Image} : (e_api_Image x).length = 7 := by rw [e_api_Image_def]; rfl
attribute [go_sem] e_api_Image_def
structure solve_row_int where
  l : List Int
def e_solve_row_int (x : solve_row_int) : List C := [.sl (x.l.map eI)]
theorem e_solve_row_int_def {x : solve_row_int} : e_solve_row_int x = [.sl (x.l.map eI)] := of_eq_true (eq_self _)
theorem Flat.solve_row_int : Flat e_solve_row_int := fun m x => by
  rw [e_solve_row_int_def]; simp [ltRow, C.lt, lt_eF, ltRows_flat (Flat.K .i64)]
theorem len_solve_row_int {x : solve_row_int} : (e_solve_row_int x).length = 1 := by rw [e_solve_row_int_def]; rfl
attribute [go_sem] e_solve_row_int_def
structure blocks_kind where
  in_ : List Int
  out : List Int
  step : Option Nat
def e_blocks_kind (x : blocks_kind) : List C := [.sl (x.in_.map eI), .sl (x.out.map eI), eF x.step]
theorem e_blocks_kind_def {x : blocks_kind} : e_blocks_kind x = [.sl (x.in_.map eI), .sl (x.out.map eI), eF x.step] := of_eq_true (eq_self _)
theorem Flat.blocks_kind : Flat e_blocks_kind := fun m x => by
  rw [e_blocks_kind_def]; simp [ltRow, C.lt, lt_eF, ltRows_flat (Flat.K .i64), ltRows_flat (Flat.K .i64)]
theorem len_blocks_kind {x : blocks_kind} : (e_blocks_kind x).length = 3 := by rw [e_blocks_kind_def]; rfl
attribute [go_sem] e_blocks_kind_def
structure image_writer where
  b : List Int
def e_image_writer (x : image_writer) : List C := [.sl (x.b.map (eK .u8))]
theorem e_image_writer_def {x : image_writer} : e_image_writer x = [.sl (x.b.map (eK .u8))] := of_eq_true (eq_self _)
theorem Flat.image_writer : Flat e_image_writer := fun m x => by
  rw [e_image_writer_def]; simp [ltRow, C.lt, lt_eF, ltRows_flat (Flat.K .u8)]
theorem len_image_writer {x : image_writer} : (e_image_writer x).length = 1 := by rw [e_image_writer_def]; rfl
attribute [go_sem] e_image_writer_def
structure image_reader where
  s : Str
  bad : Bool
def e_image_reader (x : image_reader) : List C := [.str x.s, .bool x.bad]
theorem e_image_reader_def {x : image_reader} : e_image_reader x = [.str x.s, .bool x.bad] := of_eq_true (eq_self _)
theorem Flat.image_reader : Flat e_image_reader := fun m x => by
  rw [e_image_reader_def]; simp [ltRow, C.lt, lt_eF]
theorem len_image_reader {x : image_reader} : (e_image_reader x).length = 2 := by rw [e_image_reader_def]; rfl
attribute [go_sem] e_image_reader_def
theorem Plain.A2 {α : Type} {f : α → List C} (h : Plain f) : Plain (eA2 f) := fun H k x => by
  rw [eA2_def]; simp [h H k]
theorem Plain.A3 {α : Type} {f : α → List C} (h : Plain f) : Plain (eA3 f) := fun H k x => by
  rw [eA3_def]; simp [h H k]
theorem Plain.A4 {α : Type} {f : α → List C} (h : Plain f) : Plain (eA4 f) := fun H k x => by
  rw [eA4_def]; simp [h H k]
theorem Plain.A5 {α : Type} {f : α → List C} (h : Plain f) : Plain (eA5 f) := fun H k x => by
  rw [eA5_def]; simp [h H k]
theorem Plain.api_Type : Plain e_api_Type := fun H k x => by rw [e_api_Type_def]; simp [vn_int, vn_bool, vn_str, vn_sl, vn_eF]
theorem Plain.api_Lattice : Plain e_api_Lattice := fun H k x => by rw [e_api_Lattice_def]; simp [vn_int, vn_bool, vn_str, vn_sl, vn_eF]
theorem Plain.lazarettolaw11_Call : Plain e_lazarettolaw11_Call := fun H k x => by rw [e_lazarettolaw11_Call_def]; simp [vn_int, vn_bool, vn_str, vn_sl, vn_eF]
theorem Plain.api_Site : Plain e_api_Site := fun H k x => by rw [e_api_Site_def]; simp [vn_int, vn_bool, vn_str, vn_sl, vn_eF]
theorem Plain.api_Var : Plain e_api_Var := fun H k x => by rw [e_api_Var_def]; simp [vn_int, vn_bool, vn_str, vn_sl, vn_eF]
theorem Plain.api_Block : Plain e_api_Block := fun H k x => by rw [e_api_Block_def]; simp [vn_int, vn_bool, vn_str, vn_sl, vn_eF]
theorem Plain.api_Expr : Plain e_api_Expr := fun H k x => by rw [e_api_Expr_def]; simp [vn_int, vn_bool, vn_str, vn_sl, vn_eF]
theorem Plain.api_Stmt : Plain e_api_Stmt := fun H k x => by rw [e_api_Stmt_def]; simp [vn_int, vn_bool, vn_str, vn_sl, vn_eF]
theorem Plain.api_Task : Plain e_api_Task := fun H k x => by rw [e_api_Task_def]; simp [vn_int, vn_bool, vn_str, vn_sl, vn_eF]
theorem Plain.api_Ins : Plain e_api_Ins := fun H k x => by rw [e_api_Ins_def]; simp [vn_int, vn_bool, vn_str, vn_sl, vn_eF]
theorem Plain.api_Image : Plain e_api_Image := fun H k x => by rw [e_api_Image_def]; simp [vn_int, vn_bool, vn_str, vn_sl, vn_eF]
theorem Plain.solve_row_int : Plain e_solve_row_int := fun H k x => by rw [e_solve_row_int_def]; simp [vn_int, vn_bool, vn_str, vn_sl, vn_eF]
theorem Plain.blocks_kind : Plain e_blocks_kind := fun H k x => by rw [e_blocks_kind_def]; simp [vn_int, vn_bool, vn_str, vn_sl, vn_eF]
theorem Plain.image_writer : Plain e_image_writer := fun H k x => by rw [e_image_writer_def]; simp [vn_int, vn_bool, vn_str, vn_sl, vn_eF]
theorem Plain.image_reader : Plain e_image_reader := fun H k x => by rw [e_image_reader_def]; simp [vn_int, vn_bool, vn_str, vn_sl, vn_eF]
theorem lr3 {m : Nat} {xs : List Int} : ltRows m (xs.map eI) = true := ltRows_flat (Flat.K .i64) m xs
theorem vw3 {H : List O} {k : Nat} {xs : List Int} : viewRows H k (xs.map eI) = xs.map eI := viewRows_plain (Plain.K .i64) H k xs
theorem lr9 {m : Nat} {xs : List Str} : ltRows m (xs.map eS) = true := ltRows_flat Flat.S m xs
theorem vw9 {H : List O} {k : Nat} {xs : List Str} : viewRows H k (xs.map eS) = xs.map eS := viewRows_plain Plain.S H k xs
theorem lr35 {m : Nat} {xs : List (A2 Int)} : ltRows m (xs.map (eA2 eI)) = true := ltRows_flat (Flat.A2 (Flat.K .i64)) m xs
theorem vw35 {H : List O} {k : Nat} {xs : List (A2 Int)} : viewRows H k (xs.map (eA2 eI)) = xs.map (eA2 eI) := viewRows_plain (Plain.A2 (Plain.K .i64)) H k xs
theorem lr71 {m : Nat} {xs : List lazarettolaw11_Call} : ltRows m (xs.map e_lazarettolaw11_Call) = true := ltRows_flat Flat.lazarettolaw11_Call m xs
theorem vw71 {H : List O} {k : Nat} {xs : List lazarettolaw11_Call} : viewRows H k (xs.map e_lazarettolaw11_Call) = xs.map e_lazarettolaw11_Call := viewRows_plain Plain.lazarettolaw11_Call H k xs
theorem lr66 {m : Nat} {xs : List (A4 Int)} : ltRows m (xs.map (eA4 eI)) = true := ltRows_flat (Flat.A4 (Flat.K .i64)) m xs
theorem vw66 {H : List O} {k : Nat} {xs : List (A4 Int)} : viewRows H k (xs.map (eA4 eI)) = xs.map (eA4 eI) := viewRows_plain (Plain.A4 (Plain.K .i64)) H k xs
theorem lr118 {m : Nat} {xs : List api_Site} : ltRows m (xs.map e_api_Site) = true := ltRows_flat Flat.api_Site m xs
theorem vw118 {H : List O} {k : Nat} {xs : List api_Site} : viewRows H k (xs.map e_api_Site) = xs.map e_api_Site := viewRows_plain Plain.api_Site H k xs
theorem lr120 {m : Nat} {xs : List api_Var} : ltRows m (xs.map e_api_Var) = true := ltRows_flat Flat.api_Var m xs
theorem vw120 {H : List O} {k : Nat} {xs : List api_Var} : viewRows H k (xs.map e_api_Var) = xs.map e_api_Var := viewRows_plain Plain.api_Var H k xs
theorem lr122 {m : Nat} {xs : List api_Block} : ltRows m (xs.map e_api_Block) = true := ltRows_flat Flat.api_Block m xs
theorem vw122 {H : List O} {k : Nat} {xs : List api_Block} : viewRows H k (xs.map e_api_Block) = xs.map e_api_Block := viewRows_plain Plain.api_Block H k xs
theorem lr108 {m : Nat} {xs : List api_Task} : ltRows m (xs.map e_api_Task) = true := ltRows_flat Flat.api_Task m xs
theorem vw108 {H : List O} {k : Nat} {xs : List api_Task} : viewRows H k (xs.map e_api_Task) = xs.map e_api_Task := viewRows_plain Plain.api_Task H k xs
theorem lr109 {m : Nat} {xs : List (List api_Ins)} : ltRows m (xs.map (eL e_api_Ins)) = true := ltRows_flat (Flat.L Flat.api_Ins) m xs
theorem vw109 {H : List O} {k : Nat} {xs : List (List api_Ins)} : viewRows H k (xs.map (eL e_api_Ins)) = xs.map (eL e_api_Ins) := viewRows_plain (Plain.L e_api_Ins) H k xs
theorem lr4 {m : Nat} {xs : List Bool} : ltRows m (xs.map eB) = true := ltRows_flat Flat.B m xs
theorem vw4 {H : List O} {k : Nat} {xs : List Bool} : viewRows H k (xs.map eB) = xs.map eB := viewRows_plain Plain.B H k xs
theorem lr186 {m : Nat} {xs : List api_Stmt} : ltRows m (xs.map e_api_Stmt) = true := ltRows_flat Flat.api_Stmt m xs
theorem vw186 {H : List O} {k : Nat} {xs : List api_Stmt} : viewRows H k (xs.map e_api_Stmt) = xs.map e_api_Stmt := viewRows_plain Plain.api_Stmt H k xs
theorem lr143 {m : Nat} {xs : List api_Ins} : ltRows m (xs.map e_api_Ins) = true := ltRows_flat Flat.api_Ins m xs
theorem vw143 {H : List O} {k : Nat} {xs : List api_Ins} : viewRows H k (xs.map e_api_Ins) = xs.map e_api_Ins := viewRows_plain Plain.api_Ins H k xs
theorem lr5 {m : Nat} {xs : List Int} : ltRows m (xs.map (eK .u8)) = true := ltRows_flat (Flat.K .u8) m xs
theorem vw5 {H : List O} {k : Nat} {xs : List Int} : viewRows H k (xs.map (eK .u8)) = xs.map (eK .u8) := viewRows_plain (Plain.K .u8) H k xs
theorem lr184 {m : Nat} {xs : List api_Expr} : ltRows m (xs.map e_api_Expr) = true := ltRows_flat Flat.api_Expr m xs
theorem vw184 {H : List O} {k : Nat} {xs : List api_Expr} : viewRows H k (xs.map e_api_Expr) = xs.map e_api_Expr := viewRows_plain Plain.api_Expr H k xs
theorem eqt35 : eqT Try.prog 35 = true := by kernel_rfl
theorem lit35 {a0 : Int} {a1 : Int} : litC Try.prog 20 35 [.int .i64 a0, .int .i64 a1] = some [.i .i64 a0, .i .i64 a1] := by kernel_rfl
theorem tf101 : tIsFn Try.prog 101 = true := by kernel_rfl
theorem eqt118 : eqT Try.prog 118 = true := by kernel_rfl
theorem lit118 {a0 : Str} {a1 : Int} {a2 : Int} : litC Try.prog 20 118 [.str a0, .int .i64 a1, .int .i64 a2] = some [.s a0, .i .i64 a1, .i .i64 a2] := by kernel_rfl
theorem eqt120 : eqT Try.prog 120 = true := by kernel_rfl
theorem lit120 {a0 : Str} {a1 : Int} {a2 : Int} {a3 : Int} {a4 : Int} {a5 : Int} {a6 : Int} : litC Try.prog 20 120 [.str a0, .int .i64 a1, .int .i64 a2, .int .i64 a3, .int .i64 a4, .int .i64 a5, .int .i64 a6] = some [.s a0, .i .i64 a1, .i .i64 a2, .i .i64 a3, .i .i64 a4, .i .i64 a5, .i .i64 a6] := by kernel_rfl
theorem eqt122 : eqT Try.prog 122 = true := by kernel_rfl
theorem lit122 {a0 : Str} {a1 : Str} {a2 : Int} : litC Try.prog 20 122 [.str a0, .str a1, .int .i64 a2] = some [.s a0, .s a1, .i .i64 a2] := by kernel_rfl
theorem eqt143 : eqT Try.prog 143 = true := by kernel_rfl
theorem lit143 {a0 : Int} {a1 : Int} {a2 : Int} {a3 : Int} : litC Try.prog 20 143 [.int .i64 a0, .int .i64 a1, .int .i64 a2, .int .i64 a3] = some [.i .i64 a0, .i .i64 a1, .i .i64 a2, .i .i64 a3] := by kernel_rfl
theorem pa35 : tPa Try.prog 35 = some 2 := by kernel_rfl
theorem pa69 : tPa Try.prog 69 = some 5 := by kernel_rfl
theorem ag3 : tAg Try.prog 3 = some (false, 1) := by kernel_rfl
theorem tk3 : tK Try.prog 3 = some .i64 := by kernel_rfl
theorem z3 : tZ Try.prog 3 = some (.one (.int .i64 0)) := by kernel_rfl
theorem un3 : (Try.prog.underlying 3).isSome = true := by kernel_rfl
theorem ag4 : tAg Try.prog 4 = some (false, 1) := by kernel_rfl
theorem tb4 : tIsBool Try.prog 4 = true := by kernel_rfl
theorem z4 : tZ Try.prog 4 = some (.one (.bool false)) := by kernel_rfl
theorem ag5 : tAg Try.prog 5 = some (false, 1) := by kernel_rfl
theorem tk5 : tK Try.prog 5 = some .u8 := by kernel_rfl
theorem z5 : tZ Try.prog 5 = some (.one (.int .u8 0)) := by kernel_rfl
theorem un5 : (Try.prog.underlying 5).isSome = true := by kernel_rfl
theorem ag9 : tAg Try.prog 9 = some (false, 1) := by kernel_rfl
theorem ts9 : tIsStr Try.prog 9 = true := by kernel_rfl
theorem z9 : tZ Try.prog 9 = some (.one (.str [])) := by kernel_rfl
theorem ag23 : tAg Try.prog 23 = some (true, 3) := by kernel_rfl
theorem pl23 : tPl Try.prog 23 = some (fun k => [(0, 1), (1, 1), (2, 1)][k]?) := by kernel_rfl
theorem fd23_0 : tFd Try.prog 23 0 = some (0, false, 1) := by kernel_rfl
theorem fd23_1 : tFd Try.prog 23 1 = some (1, false, 1) := by kernel_rfl
theorem fd23_2 : tFd Try.prog 23 2 = some (2, false, 1) := by kernel_rfl
theorem z23 : tZ Try.prog 23 = some (.agg [.int .i64 0, .int .i64 0, .int .i64 0]) := by kernel_rfl
theorem ag24 : tAg Try.prog 24 = some (false, 1) := by kernel_rfl
theorem tk24 : tK Try.prog 24 = some .i64 := by kernel_rfl
theorem z24 : tZ Try.prog 24 = some (.one (.int .i64 0)) := by kernel_rfl
theorem un24 : (Try.prog.underlying 24).isSome = true := by kernel_rfl
theorem ag28 : tAg Try.prog 28 = some (false, 1) := by kernel_rfl
theorem sl28 : tSl Try.prog 28 = some (3, 1, 8) := by kernel_rfl
theorem ar28 : tAr Try.prog 28 = none := by kernel_rfl
theorem z28 : tZ Try.prog 28 = some (.one (.slf [])) := by kernel_rfl
theorem ag35 : tAg Try.prog 35 = some (true, 2) := by kernel_rfl
theorem pl35 : tPl Try.prog 35 = some (fun k => some (k * 1, 1)) := by kernel_rfl
theorem ar35 : tAr Try.prog 35 = some (2, 3, 1) := by kernel_rfl
theorem z35 : tZ Try.prog 35 = some (.agg [.int .i64 0, .int .i64 0]) := by kernel_rfl
theorem ag39 : tAg Try.prog 39 = some (true, 3) := by kernel_rfl
theorem pl39 : tPl Try.prog 39 = some (fun k => some (k * 1, 1)) := by kernel_rfl
theorem ar39 : tAr Try.prog 39 = some (3, 3, 1) := by kernel_rfl
theorem z39 : tZ Try.prog 39 = some (.agg [.int .i64 0, .int .i64 0, .int .i64 0]) := by kernel_rfl
theorem ag42 : tAg Try.prog 42 = some (false, 1) := by kernel_rfl
theorem sl42 : tSl Try.prog 42 = some (9, 1, 16) := by kernel_rfl
theorem ar42 : tAr Try.prog 42 = none := by kernel_rfl
theorem z42 : tZ Try.prog 42 = some (.one (.slf [])) := by kernel_rfl
theorem ag43 : tAg Try.prog 43 = some (false, 1) := by kernel_rfl
theorem sl43 : tSl Try.prog 43 = some (35, 2, 16) := by kernel_rfl
theorem ar43 : tAr Try.prog 43 = none := by kernel_rfl
theorem z43 : tZ Try.prog 43 = some (.one (.slf [])) := by kernel_rfl
theorem ag45 : tAg Try.prog 45 = some (true, 2) := by kernel_rfl
theorem pl45 : tPl Try.prog 45 = some (fun k => [(0, 1), (1, 1)][k]?) := by kernel_rfl
theorem fd45_0 : tFd Try.prog 45 0 = some (0, false, 1) := by kernel_rfl
theorem fd45_1 : tFd Try.prog 45 1 = some (1, false, 1) := by kernel_rfl
theorem z45 : tZ Try.prog 45 = some (.agg [.slf [], .slf []]) := by kernel_rfl
theorem ag59 : tAg Try.prog 59 = some (false, 1) := by kernel_rfl
theorem z59 : tZ Try.prog 59 = some (.one (.nilfn)) := by kernel_rfl
theorem ag60 : tAg Try.prog 60 = some (false, 1) := by kernel_rfl
theorem sl60 : tSl Try.prog 60 = some (71, 6, 48) := by kernel_rfl
theorem ar60 : tAr Try.prog 60 = none := by kernel_rfl
theorem z60 : tZ Try.prog 60 = some (.one (.slf [])) := by kernel_rfl
theorem ag61 : tAg Try.prog 61 = some (false, 1) := by kernel_rfl
theorem sl61 : tSl Try.prog 61 = some (66, 4, 32) := by kernel_rfl
theorem ar61 : tAr Try.prog 61 = none := by kernel_rfl
theorem z61 : tZ Try.prog 61 = some (.one (.slf [])) := by kernel_rfl
theorem ag64 : tAg Try.prog 64 = some (false, 1) := by kernel_rfl
theorem z64 : tZ Try.prog 64 = some (.one (.nilfn)) := by kernel_rfl
theorem ag66 : tAg Try.prog 66 = some (true, 4) := by kernel_rfl
theorem pl66 : tPl Try.prog 66 = some (fun k => some (k * 1, 1)) := by kernel_rfl
theorem ar66 : tAr Try.prog 66 = some (4, 3, 1) := by kernel_rfl
theorem z66 : tZ Try.prog 66 = some (.agg [.int .i64 0, .int .i64 0, .int .i64 0, .int .i64 0]) := by kernel_rfl
theorem ag68 : tAg Try.prog 68 = some (false, 1) := by kernel_rfl
theorem tk68 : tK Try.prog 68 = some .u64 := by kernel_rfl
theorem z68 : tZ Try.prog 68 = some (.one (.int .u64 0)) := by kernel_rfl
theorem un68 : (Try.prog.underlying 68).isSome = true := by kernel_rfl
theorem ag69 : tAg Try.prog 69 = some (true, 5) := by kernel_rfl
theorem pl69 : tPl Try.prog 69 = some (fun k => some (k * 1, 1)) := by kernel_rfl
theorem ar69 : tAr Try.prog 69 = some (5, 3, 1) := by kernel_rfl
theorem z69 : tZ Try.prog 69 = some (.agg [.int .i64 0, .int .i64 0, .int .i64 0, .int .i64 0, .int .i64 0]) := by kernel_rfl
theorem ag71 : tAg Try.prog 71 = some (true, 6) := by kernel_rfl
theorem pl71 : tPl Try.prog 71 = some (fun k => [(0, 1), (1, 5)][k]?) := by kernel_rfl
theorem fd71_0 : tFd Try.prog 71 0 = some (0, false, 1) := by kernel_rfl
theorem fd71_1 : tFd Try.prog 71 1 = some (1, true, 5) := by kernel_rfl
theorem z71 : tZ Try.prog 71 = some (.agg [.int .i64 0, .int .i64 0, .int .i64 0, .int .i64 0, .int .i64 0, .int .i64 0]) := by kernel_rfl
theorem ag76 : tAg Try.prog 76 = some (false, 1) := by kernel_rfl
theorem sl76 : tSl Try.prog 76 = some (118, 3, 32) := by kernel_rfl
theorem ar76 : tAr Try.prog 76 = none := by kernel_rfl
theorem z76 : tZ Try.prog 76 = some (.one (.slf [])) := by kernel_rfl
theorem ag77 : tAg Try.prog 77 = some (false, 1) := by kernel_rfl
theorem sl77 : tSl Try.prog 77 = some (120, 7, 64) := by kernel_rfl
theorem ar77 : tAr Try.prog 77 = none := by kernel_rfl
theorem z77 : tZ Try.prog 77 = some (.one (.slf [])) := by kernel_rfl
theorem ag78 : tAg Try.prog 78 = some (false, 1) := by kernel_rfl
theorem sl78 : tSl Try.prog 78 = some (122, 3, 40) := by kernel_rfl
theorem ar78 : tAr Try.prog 78 = none := by kernel_rfl
theorem z78 : tZ Try.prog 78 = some (.one (.slf [])) := by kernel_rfl
theorem ag79 : tAg Try.prog 79 = some (false, 1) := by kernel_rfl
theorem sl79 : tSl Try.prog 79 = some (108, 4, 64) := by kernel_rfl
theorem ar79 : tAr Try.prog 79 = none := by kernel_rfl
theorem z79 : tZ Try.prog 79 = some (.one (.slf [])) := by kernel_rfl
theorem ag80 : tAg Try.prog 80 = some (false, 1) := by kernel_rfl
theorem sl80 : tSl Try.prog 80 = some (109, 1, 24) := by kernel_rfl
theorem ar80 : tAr Try.prog 80 = none := by kernel_rfl
theorem z80 : tZ Try.prog 80 = some (.one (.slf [])) := by kernel_rfl
theorem ag82 : tAg Try.prog 82 = some (true, 7) := by kernel_rfl
theorem pl82 : tPl Try.prog 82 = some (fun k => [(0, 2), (2, 1), (3, 1), (4, 1), (5, 1), (6, 1)][k]?) := by kernel_rfl
theorem fd82_0 : tFd Try.prog 82 0 = some (0, true, 2) := by kernel_rfl
theorem fd82_1 : tFd Try.prog 82 1 = some (2, false, 1) := by kernel_rfl
theorem fd82_2 : tFd Try.prog 82 2 = some (3, false, 1) := by kernel_rfl
theorem fd82_3 : tFd Try.prog 82 3 = some (4, false, 1) := by kernel_rfl
theorem fd82_4 : tFd Try.prog 82 4 = some (5, false, 1) := by kernel_rfl
theorem fd82_5 : tFd Try.prog 82 5 = some (6, false, 1) := by kernel_rfl
theorem z82 : tZ Try.prog 82 = some (.agg [.slf [], .slf [], .slf [], .slf [], .slf [], .slf [], .slf []]) := by kernel_rfl
theorem ag96 : tAg Try.prog 96 = some (false, 1) := by kernel_rfl
theorem z96 : tZ Try.prog 96 = some (.one (.nilfn)) := by kernel_rfl
theorem ag98 : tAg Try.prog 98 = some (true, 1) := by kernel_rfl
theorem pl98 : tPl Try.prog 98 = some (fun k => [(0, 1)][k]?) := by kernel_rfl
theorem fd98_0 : tFd Try.prog 98 0 = some (0, false, 1) := by kernel_rfl
theorem z98 : tZ Try.prog 98 = some (.agg [.slf []]) := by kernel_rfl
theorem ag100 : tAg Try.prog 100 = some (false, 1) := by kernel_rfl
theorem sl100 : tSl Try.prog 100 = some (4, 1, 1) := by kernel_rfl
theorem ar100 : tAr Try.prog 100 = none := by kernel_rfl
theorem z100 : tZ Try.prog 100 = some (.one (.slf [])) := by kernel_rfl
theorem ag101 : tAg Try.prog 101 = some (false, 1) := by kernel_rfl
theorem z101 : tZ Try.prog 101 = some (.one (.nilfn)) := by kernel_rfl
theorem ag103 : tAg Try.prog 103 = some (true, 3) := by kernel_rfl
theorem pl103 : tPl Try.prog 103 = some (fun k => [(0, 1), (1, 1), (2, 1)][k]?) := by kernel_rfl
theorem fd103_0 : tFd Try.prog 103 0 = some (0, false, 1) := by kernel_rfl
theorem fd103_1 : tFd Try.prog 103 1 = some (1, false, 1) := by kernel_rfl
theorem fd103_2 : tFd Try.prog 103 2 = some (2, false, 1) := by kernel_rfl
theorem z103 : tZ Try.prog 103 = some (.agg [.slf [], .slf [], .nilfn]) := by kernel_rfl
theorem ag106 : tAg Try.prog 106 = some (false, 1) := by kernel_rfl
theorem sl106 : tSl Try.prog 106 = some (186, 15, 224) := by kernel_rfl
theorem ar106 : tAr Try.prog 106 = none := by kernel_rfl
theorem z106 : tZ Try.prog 106 = some (.one (.slf [])) := by kernel_rfl
theorem ag108 : tAg Try.prog 108 = some (true, 4) := by kernel_rfl
theorem pl108 : tPl Try.prog 108 = some (fun k => [(0, 1), (1, 1), (2, 1), (3, 1)][k]?) := by kernel_rfl
theorem fd108_0 : tFd Try.prog 108 0 = some (0, false, 1) := by kernel_rfl
theorem fd108_1 : tFd Try.prog 108 1 = some (1, false, 1) := by kernel_rfl
theorem fd108_2 : tFd Try.prog 108 2 = some (2, false, 1) := by kernel_rfl
theorem fd108_3 : tFd Try.prog 108 3 = some (3, false, 1) := by kernel_rfl
theorem z108 : tZ Try.prog 108 = some (.agg [.int .i64 0, .int .i64 0, .slf [], .slf []]) := by kernel_rfl
theorem ag109 : tAg Try.prog 109 = some (false, 1) := by kernel_rfl
theorem sl109 : tSl Try.prog 109 = some (143, 4, 32) := by kernel_rfl
theorem ar109 : tAr Try.prog 109 = none := by kernel_rfl
theorem z109 : tZ Try.prog 109 = some (.one (.slf [])) := by kernel_rfl
theorem ag111 : tAg Try.prog 111 = some (false, 1) := by kernel_rfl
theorem z111 : tZ Try.prog 111 = some (.one (.nilp)) := by kernel_rfl
theorem ag112 : tAg Try.prog 112 = some (false, 1) := by kernel_rfl
theorem sl112 : tSl Try.prog 112 = some (5, 1, 1) := by kernel_rfl
theorem ar112 : tAr Try.prog 112 = none := by kernel_rfl
theorem z112 : tZ Try.prog 112 = some (.one (.slf [])) := by kernel_rfl
theorem ag114 : tAg Try.prog 114 = some (true, 1) := by kernel_rfl
theorem pl114 : tPl Try.prog 114 = some (fun k => [(0, 1)][k]?) := by kernel_rfl
theorem fd114_0 : tFd Try.prog 114 0 = some (0, false, 1) := by kernel_rfl
theorem z114 : tZ Try.prog 114 = some (.agg [.slf []]) := by kernel_rfl
theorem ag118 : tAg Try.prog 118 = some (true, 3) := by kernel_rfl
theorem pl118 : tPl Try.prog 118 = some (fun k => [(0, 1), (1, 1), (2, 1)][k]?) := by kernel_rfl
theorem fd118_0 : tFd Try.prog 118 0 = some (0, false, 1) := by kernel_rfl
theorem fd118_1 : tFd Try.prog 118 1 = some (1, false, 1) := by kernel_rfl
theorem fd118_2 : tFd Try.prog 118 2 = some (2, false, 1) := by kernel_rfl
theorem z118 : tZ Try.prog 118 = some (.agg [.str [], .int .i64 0, .int .i64 0]) := by kernel_rfl
theorem ag120 : tAg Try.prog 120 = some (true, 7) := by kernel_rfl
theorem pl120 : tPl Try.prog 120 = some (fun k => [(0, 1), (1, 3), (4, 1), (5, 1), (6, 1)][k]?) := by kernel_rfl
theorem fd120_0 : tFd Try.prog 120 0 = some (0, false, 1) := by kernel_rfl
theorem fd120_1 : tFd Try.prog 120 1 = some (1, true, 3) := by kernel_rfl
theorem fd120_2 : tFd Try.prog 120 2 = some (4, false, 1) := by kernel_rfl
theorem fd120_3 : tFd Try.prog 120 3 = some (5, false, 1) := by kernel_rfl
theorem fd120_4 : tFd Try.prog 120 4 = some (6, false, 1) := by kernel_rfl
theorem z120 : tZ Try.prog 120 = some (.agg [.str [], .int .i64 0, .int .i64 0, .int .i64 0, .int .i64 0, .int .i64 0, .int .i64 0]) := by kernel_rfl
theorem ag122 : tAg Try.prog 122 = some (true, 3) := by kernel_rfl
theorem pl122 : tPl Try.prog 122 = some (fun k => [(0, 1), (1, 1), (2, 1)][k]?) := by kernel_rfl
theorem fd122_0 : tFd Try.prog 122 0 = some (0, false, 1) := by kernel_rfl
theorem fd122_1 : tFd Try.prog 122 1 = some (1, false, 1) := by kernel_rfl
theorem fd122_2 : tFd Try.prog 122 2 = some (2, false, 1) := by kernel_rfl
theorem z122 : tZ Try.prog 122 = some (.agg [.str [], .str [], .int .i64 0]) := by kernel_rfl
theorem ag124 : tAg Try.prog 124 = some (false, 1) := by kernel_rfl
theorem z124 : tZ Try.prog 124 = some (.one (.nilp)) := by kernel_rfl
theorem ag126 : tAg Try.prog 126 = some (true, 2) := by kernel_rfl
theorem pl126 : tPl Try.prog 126 = some (fun k => [(0, 1), (1, 1)][k]?) := by kernel_rfl
theorem fd126_0 : tFd Try.prog 126 0 = some (0, false, 1) := by kernel_rfl
theorem fd126_1 : tFd Try.prog 126 1 = some (1, false, 1) := by kernel_rfl
theorem z126 : tZ Try.prog 126 = some (.agg [.str [], .bool false]) := by kernel_rfl
theorem ag129 : tAg Try.prog 129 = some (false, 1) := by kernel_rfl
theorem z129 : tZ Try.prog 129 = some (.one (.nilfn)) := by kernel_rfl
theorem ag136 : tAg Try.prog 136 = some (false, 1) := by kernel_rfl
theorem z136 : tZ Try.prog 136 = some (.one (.nilfn)) := by kernel_rfl
theorem ag143 : tAg Try.prog 143 = some (true, 4) := by kernel_rfl
theorem pl143 : tPl Try.prog 143 = some (fun k => [(0, 1), (1, 1), (2, 1), (3, 1)][k]?) := by kernel_rfl
theorem fd143_0 : tFd Try.prog 143 0 = some (0, false, 1) := by kernel_rfl
theorem fd143_1 : tFd Try.prog 143 1 = some (1, false, 1) := by kernel_rfl
theorem fd143_2 : tFd Try.prog 143 2 = some (2, false, 1) := by kernel_rfl
theorem fd143_3 : tFd Try.prog 143 3 = some (3, false, 1) := by kernel_rfl
theorem z143 : tZ Try.prog 143 = some (.agg [.int .i64 0, .int .i64 0, .int .i64 0, .int .i64 0]) := by kernel_rfl
theorem ag155 : tAg Try.prog 155 = some (false, 1) := by kernel_rfl
theorem z155 : tZ Try.prog 155 = some (.one (.nilfn)) := by kernel_rfl
theorem ag156 : tAg Try.prog 156 = some (false, 1) := by kernel_rfl
theorem mp156 : tMp Try.prog 156 = some (9, none, 4) := by kernel_rfl
theorem z156 : tZ Try.prog 156 = some (.one (.nilm)) := by kernel_rfl
theorem ag161 : tAg Try.prog 161 = some (false, 1) := by kernel_rfl
theorem z161 : tZ Try.prog 161 = some (.one (.nilfn)) := by kernel_rfl
theorem ag182 : tAg Try.prog 182 = some (false, 1) := by kernel_rfl
theorem sl182 : tSl Try.prog 182 = some (184, 5, 64) := by kernel_rfl
theorem ar182 : tAr Try.prog 182 = none := by kernel_rfl
theorem z182 : tZ Try.prog 182 = some (.one (.slf [])) := by kernel_rfl
theorem ag184 : tAg Try.prog 184 = some (true, 5) := by kernel_rfl
theorem pl184 : tPl Try.prog 184 = some (fun k => [(0, 1), (1, 1), (2, 1), (3, 1), (4, 1)][k]?) := by kernel_rfl
theorem fd184_0 : tFd Try.prog 184 0 = some (0, false, 1) := by kernel_rfl
theorem fd184_1 : tFd Try.prog 184 1 = some (1, false, 1) := by kernel_rfl
theorem fd184_2 : tFd Try.prog 184 2 = some (2, false, 1) := by kernel_rfl
theorem fd184_3 : tFd Try.prog 184 3 = some (3, false, 1) := by kernel_rfl
theorem fd184_4 : tFd Try.prog 184 4 = some (4, false, 1) := by kernel_rfl
theorem z184 : tZ Try.prog 184 = some (.agg [.int .i64 0, .int .i64 0, .int .i64 0, .str [], .slf []]) := by kernel_rfl
theorem ag186 : tAg Try.prog 186 = some (true, 15) := by kernel_rfl
theorem pl186 : tPl Try.prog 186 = some (fun k => [(0, 1), (1, 1), (2, 5), (7, 5), (12, 1), (13, 1), (14, 1)][k]?) := by kernel_rfl
theorem fd186_0 : tFd Try.prog 186 0 = some (0, false, 1) := by kernel_rfl
theorem fd186_1 : tFd Try.prog 186 1 = some (1, false, 1) := by kernel_rfl
theorem fd186_2 : tFd Try.prog 186 2 = some (2, true, 5) := by kernel_rfl
theorem fd186_3 : tFd Try.prog 186 3 = some (7, true, 5) := by kernel_rfl
theorem fd186_4 : tFd Try.prog 186 4 = some (12, false, 1) := by kernel_rfl
theorem fd186_5 : tFd Try.prog 186 5 = some (13, false, 1) := by kernel_rfl
theorem fd186_6 : tFd Try.prog 186 6 = some (14, false, 1) := by kernel_rfl
theorem z186 : tZ Try.prog 186 = some (.agg [.int .i64 0, .str [], .int .i64 0, .int .i64 0, .int .i64 0, .str [], .slf [], .int .i64 0, .int .i64 0, .int .i64 0, .str [], .slf [], .slf [], .slf [], .slf []]) := by kernel_rfl
attribute [go_sem] lr3 vw3 lr9 vw9 lr35 vw35 lr71 vw71 lr66 vw66 lr118 vw118 lr120 vw120 lr122 vw122 lr108 vw108 lr109 vw109 lr4 vw4 lr186 vw186 lr143 vw143 lr5 vw5 lr184 vw184 eqt35 lit35 tf101 eqt118 lit118 eqt120 lit120 eqt122 lit122 eqt143 lit143 pa35 pa69 ag3 tk3 z3 un3 ag4 tb4 z4 ag5 tk5 z5 un5 ag9 ts9 z9 ag23 pl23 fd23_0 fd23_1 fd23_2 z23 ag24 tk24 z24 un24 ag28 sl28 ar28 z28 ag35 pl35 ar35 z35 ag39 pl39 ar39 z39 ag42 sl42 ar42 z42 ag43 sl43 ar43 z43 ag45 pl45 fd45_0 fd45_1 z45 ag59 z59 ag60 sl60 ar60 z60 ag61 sl61 ar61 z61 ag64 z64 ag66 pl66 ar66 z66 ag68 tk68 z68 un68 ag69 pl69 ar69 z69 ag71 pl71 fd71_0 fd71_1 z71 ag76 sl76 ar76 z76 ag77 sl77 ar77 z77 ag78 sl78 ar78 z78 ag79 sl79 ar79 z79 ag80 sl80 ar80 z80 ag82 pl82 fd82_0 fd82_1 fd82_2 fd82_3 fd82_4 fd82_5 z82 ag96 z96 ag98 pl98 fd98_0 z98 ag100 sl100 ar100 z100 ag101 z101 ag103 pl103 fd103_0 fd103_1 fd103_2 z103 ag106 sl106 ar106 z106 ag108 pl108 fd108_0 fd108_1 fd108_2 fd108_3 z108 ag109 sl109 ar109 z109 ag111 z111 ag112 sl112 ar112 z112 ag114 pl114 fd114_0 z114 ag118 pl118 fd118_0 fd118_1 fd118_2 z118 ag120 pl120 fd120_0 fd120_1 fd120_2 fd120_3 fd120_4 z120 ag122 pl122 fd122_0 fd122_1 fd122_2 z122 ag124 z124 ag126 pl126 fd126_0 fd126_1 z126 ag129 z129 ag136 z136 ag143 pl143 fd143_0 fd143_1 fd143_2 fd143_3 z143 ag155 z155 ag156 mp156 z156 ag161 z161 ag182 sl182 ar182 z182 ag184 pl184 fd184_0 fd184_1 fd184_2 fd184_3 fd184_4 z184 ag186 pl186 fd186_0 fd186_1 fd186_2 fd186_3 fd186_4 fd186_5 fd186_6 z186
theorem mo : Try.prog.follows .mixedOrders = true := rfl
end Go.Lz

